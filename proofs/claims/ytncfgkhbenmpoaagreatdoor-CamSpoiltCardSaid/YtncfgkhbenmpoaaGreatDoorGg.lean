/-
  From the changes up to a step to those up to the next one (front): plain words, rows of numbers, marks of loops over functions.
  From the changes up to a step to those up to the next one (front): the walk.
  The spans that the cams leave to each step: the rows of the program's loops, in plain words.
  The spans that the cams leave to each step: the walk.
  The door of the panics: the deferred function of try.
  Known: the function behind the door, the door, and Known itself.
  Known.
-/
import Derived.Test.YtncfgkhbenmpoaaGreatDoorGf
import Derived.Deep.RegionHeld3
import Derived.StillTailTactics
import Derived.BigQuiet
import Derived.Recover
import Derived.Defers
import Derived.Laws.Pointers
import Derived.Test.YtncfgkhbenmpoaaGreatDoorGd
import Derived.Laws.EntriesVeiled
section
namespace Go.Proofs.YtncfgkhbenmpoaaGreatDoor
open Go Go.RowKit Go.Proofs Go.Shelf
set_option linter.unusedVariables false
attribute [local go_sem] Oper.semAt_some imax2 imin2

/-- a row of numbers, known whole -/
def RowI (w : World) (g : Nat) (xs : List Int) : Prop := w.heap[g]? = some (.cells (inV xs).toArray 3 (0, 0))
theorem RowI.at {w : World} {g : Nat} {xs : List Int} (h : RowI w g xs) {i : Nat} (hi : i < xs.length) : w.cell? ⟨g, i, none⟩ = some (.int .i64 (gi xs i)) := cell_of_list h (inV_get xs i hi)
theorem RowI.rd {w : World} {g : Nat} {xs : List Int} (h : RowI w g xs) : RdI w (some ⟨g, 0, none⟩) xs := .inr ⟨g, 0, rfl, fun i hi => by rw [Nat.zero_add]; exact h.at hi⟩
theorem RowI.lt {w : World} {g : Nat} {xs : List Int} (h : RowI w g xs) : g < w.heap.size := (Array.getElem?_eq_some_iff.1 h).1
theorem RowI.set {w : World} {g : Nat} {xs : List Int} (h : RowI w g xs) (i : Nat) (x : Int) : RowI (w.setCell ⟨g, i, none⟩ (.int .i64 x)) g (xs.set i x) := by
  unfold RowI at *
  rw [heap_setCell_same w g i _ _ (.int .i64 x) h]
  simp [inV, List.map_set]
theorem RowI.fz {w : World} {g : Nat} {xs : List Int} (h : RowI w g xs) (i : Nat) : w.frozen? ⟨g, i, none⟩ = false := frozen_of_row _ _ i _ _ h
theorem RowI.keep {w w' : World} {g : Nat} {xs : List Int} (h : RowI w g xs) (e : w'.heap[g]? = w.heap[g]?) : RowI w' g xs := (show w'.heap[g]? = _ from e).trans h
theorem RowI.own {β : Type} (g : Nat) (f : β → List Int) : Own (fun s W => RowI W g (f s)) := fun s A B row hs hg hr => hs.keep (grownBy_keeps_cells hg hr hs rfl)
theorem repC_int (v : Int) (n : Nat) : repC [.int .i64 v] n = inV (List.replicate n v) := by
  induction n with
  | zero => rfl
  | succ n ih => simp only [repC, List.replicate_succ, ih]; rfl

/-- the row behind so many heights -/
def frL (sl : Int) (s : Int × Int) (nv : Int → Int) (k : Nat) : List Int := (List.range 31).map fun (j : Nat) => frTo sl s nv j k
def midL (sl : Int) (s : Int × Int) (nv : Int → Int) (k : Nat) (pre : List Int) : List Int := (List.range 31).map fun (j : Nat) => if (j : Int) ∈ pre then min (frTo sl s nv j k) (nv k + cost k j) else frTo sl s nv j k
theorem gi_map31 (f : Nat → Int) (j : Nat) (hj : j < 31) : gi ((List.range 31).map f) j = f j := by unfold gi; simp [hj]
theorem ext31 {xs ys : List Int} (h1 : xs.length = 31) (h2 : ys.length = 31) (h : ∀ j, j < 31 → gi xs j = gi ys j) : xs = ys := gi_ext (by omega) (fun j hj => h j (by omega))
theorem gi_set (xs : List Int) (i : Nat) (x : Int) (hi : i < xs.length) (j : Nat) : gi (xs.set i x) j = if i = j then x else gi xs j := by
  unfold gi
  rw [List.getD_eq_getElem?_getD, List.getElem?_set]
  by_cases h : i = j
  · subst h; rw [if_pos rfl, if_pos rfl, if_pos hi]; rfl
  · rw [if_neg h, if_neg h]; rfl
theorem midL_nil (sl : Int) (s : Int × Int) (nv : Int → Int) (k : Nat) : midL sl s nv k [] = frL sl s nv k := by unfold midL frL; simp
theorem midL_snoc (sl : Int) (s : Int × Int) (nv : Int → Int) (k : Nat) (pre : List Int) (x : Nat) (hx : x < 31) :
    (midL sl s nv k pre).set x (min (gi (midL sl s nv k pre) x) (nv k + cost k x)) = midL sl s nv k (pre ++ [(x : Int)]) := by
  apply ext31 (by simp [midL]) (by simp [midL])
  intro j hj
  rw [gi_set _ _ _ (by simp [midL]; omega)]
  by_cases h : x = j
  · subst h
    rw [if_pos rfl]
    unfold midL
    rw [gi_map31 _ x hx, gi_map31 _ x hx]
    simp only [List.mem_append, List.mem_singleton, or_true, if_true]
    split <;> omega
  · rw [if_neg h]
    unfold midL
    rw [gi_map31 _ j hj, gi_map31 _ j hj]
    have : ((j : Int) ∈ pre ++ [(x : Int)]) ↔ (j : Int) ∈ pre := by simp; omega
    simp only [this]
theorem midL_done (sl : Int) (s : Int × Int) (nv : Int → Int) (k : Nat) (hn : nv k < 1000) (L U : Int) (hL : max s.1 ((k : Int) - sl) = L) (hU : min s.2 ((k : Int) + sl) = U) : midL sl s nv k (rng L U) = frL sl s nv (k + 1) := by
  subst hL hU
  apply ext31 (by simp [midL]) (by simp [frL])
  intro j hj
  unfold midL frL
  rw [gi_map31 _ j hj, gi_map31 _ j hj]
  simp only [frTo, mem_rng]
  by_cases h : max s.1 ((k : Int) - sl) ≤ (j : Int) ∧ (j : Int) ≤ min s.2 ((k : Int) + sl)
  · rw [if_pos h, if_pos ⟨hn, h⟩]
  · rw [if_neg h, if_neg (fun hh => h hh.2)]
theorem frL_skip (sl : Int) (s : Int × Int) (nv : Int → Int) (k : Nat) (hn : ¬ nv k < 1000) : frL sl s nv (k + 1) = frL sl s nv k := by
  unfold frL
  apply List.map_congr_left
  intro j _
  simp only [frTo]
  rw [if_neg (fun hh => hn hh.1)]
theorem frL_zero (sl : Int) (s : Int × Int) (nv : Int → Int) : frL sl s nv 0 = List.replicate 31 1000 := by
  apply ext31 (by simp [frL]) (by simp)
  intro j hj
  unfold frL
  rw [gi_map31 _ j hj]
  unfold gi
  rw [List.getD_eq_getElem?_getD, List.getElem?_replicate, if_pos hj]
  rfl

/-- marks among the deferred calls of a function that holds loops over functions -/
def marks (Ds : List Nat) : List Deferred := Ds.map fun D => { target := .collected D, args := #[] }
def MarksOk (Ds : List Nat) (w : World) : Prop := Ds.Nodup ∧ ∀ D ∈ Ds, w.heap[D]? = some (.deferred (some []))
theorem leaves_marks {F : Fence} {n : Nat} {P : Program} {fn : Func} {tmps : Array Value} {R : Ending → World → Prop} : ∀ (Ds : List Nat) (w : World), MarksOk Ds w →
    (∀ w', BelX (fun k => k ∈ Ds) w.heap.size w w' → LeavesInM F n P fn tmps R [] .returning w') → LeavesInM F n P fn tmps R (marks Ds) .returning w := by
  intro Ds
  induction Ds with
  | nil => intro w _ h; exact h w (BelX.refl _ _ _)
  | cons D Ds ih =>
    intro w hm h
    obtain ⟨hnd, hall⟩ := hm
    rw [List.nodup_cons] at hnd
    refine ⟨by simp, .inl ⟨D, _, rfl, run_takeDeferred (hall D (by simp)), ?_⟩⟩
    refine ih _ ⟨hnd.2, fun E hE => ?_⟩ (fun w' hb => h w' ?_)
    · exact (World.putObj_heap_other (fun e => hnd.1 (by rw [← e]; exact hE))).trans (hall E (by simp [hE]))
    · refine ((BelX.refl (fun k => k ∈ D :: Ds) w.heap.size w).put (l := D) (.inl (by simp)) (.deferred none)).trans ?_
      have h1 := hb.weak (Y := fun k => k ∈ D :: Ds) (fun k _ hk => by simp [hk])
      exact h1.mono (by simp)
theorem MarksOk.keep {Ds : List Nat} {w w' : World} {B : Nat} (h : MarksOk Ds w) (hk : KeepsFrom B w w') (hB : ∀ D ∈ Ds, B ≤ D) : MarksOk Ds w' := ⟨h.1, fun D hD => hk.same D _ (hB D hD) (h.2 D hD) rfl⟩
end Go.Proofs.YtncfgkhbenmpoaaGreatDoor
end

section
namespace Go.Proofs.YtncfgkhbenmpoaaGreatDoor
open Go Go.RowKit Go.Proofs Go.Shelf
set_option linter.unusedVariables false
attribute [local go_sem] Oper.semAt_some imax2 imin2

def FrontPost (sl : Int) (s : Int × Int) (nv : Int → Int) (w : World) (e : Ending) (w' : World) : Prop :=
  ∃ g, e = .returned (.slice (some ⟨g, 0, none⟩) 31 31) ∧ w.heap.size ≤ g ∧ RowI w' g (frL sl s nv 31) ∧ Below w.heap.size w w'

/-- what holds at the head of each round -/
def FrontI (lo hi sl ch : Int) (q : Option Addr) (cap m : Nat) (ss : List (Int × Int)) (st : Nat) (p : Option Addr) (cp : Nat) (nv : Int → Int) (W W0 W1 g : Nat) (w2 : World) (a : Act) (wr : World) : Prop :=
  ∃ (u8 u9 u10 u16 u17 u18 u19 u20 u21 u22 u23 u24 u25 u26 u27 u28 u29 u30 u31 u32 u33 u34 u35 u36 u37 u38 u39 u40 u41 u42 : Value) (k : Nat) (Ds : List Nat), a = { tmps := #[.agg #[.int .i64 lo, .int .i64 hi, .int .i64 sl, .int .i64 ch, .slice q ss.length cap, .map (some m)], .int .i64 st, .slice p 31 cp, .pointer (some ⟨W, 0, none⟩), undef, undef, .slice none 0 0, .pointer (some ⟨W1, 0, none⟩), u8, u9, u10, .slice (some ⟨W0, 0, none⟩) 1 1, .slice (some ⟨g, 0, none⟩) 31 31, .slice p 31 cp, .int .i64 31, .int .i64 k, u16, u17, u18, u19, u20, u21, u22, u23, u24, u25, u26, u27, u28, u29, u30, u31, u32, u33, u34, u35, u36, u37, u38, u39, u40, u41, u42], defers := marks Ds } ∧ k ≤ 31 ∧ Hid (MarksOk Ds wr) ∧ Hid (∀ D ∈ Ds, w2.heap.size ≤ D) ∧ Hid (RowI wr g (frL sl (spn ss (st + 1)) nv k)) ∧ Hid (BelX (fun x => x = g) w2.heap.size w2 wr)
def frontMu (a : Act) (_ : World) : Nat := 31 - (intOf (a.tmps.getD 15 undef)).toNat

set_option maxRecDepth 100000 in
set_option maxHeartbeats 2000000 in
theorem c137 (lo hi sl ch : Int) (q : Option Addr) (cap m : Nat) (ss : List (Int × Int)) (hlen : ss.length ≤ 1000) (hsl : 0 ≤ sl ∧ sl ≤ 30) (hsp : SpOk ss) (st : Nat) (hst : st + 1 < ss.length) (p : Option Addr) (cp : Nat) (nv : Int → Int) (hnv : ∀ x, 0 ≤ nv x ∧ nv x ≤ 1000) (w : World)
    (hx : RdS w q ss) (hp : RdI w p ((List.range 31).map fun (j : Nat) => nv j)) :
    Calls Tryz.prog 137 #[.agg #[.int .i64 lo, .int .i64 hi, .int .i64 sl, .int .i64 ch, .slice q ss.length cap, .map (some m)], .int .i64 st, .slice p 31 cp] w (FrontPost sl (spn ss (st + 1)) nv w) := by
  obtain ⟨w0, e0, HS0, a0, a1, a2, a3, a4, a5, b0⟩ := box6 w (.int .i64 lo) (.int .i64 hi) (.int .i64 sl) (.int .i64 ch) (.slice q ss.length cap) (.map (some m)) 110
  have h136 := c136 w0.heap.size 0 1 1000 31 (by omega) (by omega) (w0.alloc (.cells #[.int .i64 1000] 3)) (news_of w0 [.int .i64 1000] 3)
  rw [show ((31 : Nat) : Int) = 31 from rfl] at h136
  have HB0 := Lib.hid b0
  have HX := Lib.hid (hx.below b0)
  have HP := Lib.hid (hp.below b0)
  have hz0 : w.heap.size < w0.heap.size := by have := HS0.out; omega
  refine (callsIn_wide (n := 6)).1 ?_
  refine callsIn_of_wp_marks Tryz.func137 rfl trivial ?_ rfl
  simp only [Tryz.ntmps137, List.size_toArray, List.length_cons, List.length_nil, Nat.reduceAdd, Nat.reduceSub, Array.replicate_succ, Array.replicate_zero, List.push_toArray, List.append_toArray, List.nil_append, List.cons_append]
  gi_wp2_with fail
  refine ⟨trivial, ?_⟩
  refine (callsIn_wide.2 h136).mono ?_
  rintro e w1 ⟨g, rfl, hgz, hrow, hb1⟩
  have HROW := Lib.hid (show RowI w1 g (frL sl (spn ss (st + 1)) nv 0) by unfold RowI; rw [frL_zero, ← repC_int]; exact hrow)
  have HGZ := Lib.hid (show w0.heap.size < g by have := hgz; simp at this; omega)
  have hb01 := (below_alloc1 w0 (.cells #[.int .i64 1000] 3)).trans (hb1.mono (by simp))
  have HB1 := Lib.hid hb01
  have c0 := (hb01.cell (lt_of_cellq a0)).trans a0
  have c1 := (hb01.cell (lt_of_cellq a1)).trans a1
  have c2 := (hb01.cell (lt_of_cellq a2)).trans a2
  have c3 := (hb01.cell (lt_of_cellq a3)).trans a3
  have c4 := (hb01.cell (lt_of_cellq a4)).trans a4
  have c5 := (hb01.cell (lt_of_cellq a5)).trans a5
  clear a0 a1 a2 a3 a4 a5 hb01 hb1 hrow hgz h136 hx hp b0 e0
  obtain ⟨w2, e2, HS2, o0, HO, b2⟩ := box1 w1 (.slice (some ⟨g, 0, none⟩) 31 31) 24
  gi_wp2
  refine wpIn_loop (FrontI lo hi sl ch q cap m ss st p cp nv w.heap.size w0.heap.size w1.heap.size g w2) frontMu ?start ?round
  case start => exact ⟨_, _, _, _, _, _, _, _, _, _, _, _, _, _, _, _, _, _, _, _, _, _, _, _, _, _, _, _, _, _, 0, [], rfl, by omega, Lib.hid ⟨List.nodup_nil, fun D h => by cases h⟩, Lib.hid (fun D h => by cases h), Lib.hid (HROW.out.keep (b2.block g HROW.out.lt)), Lib.hid (BelX.refl _ _ _)⟩
  case round =>
    rintro a wr ⟨u8, u9, u10, u16, u17, u18, u19, u20, u21, u22, u23, u24, u25, u26, u27, u28, u29, u30, u31, u32, u33, u34, u35, u36, u37, u38, u39, u40, u41, u42, k, Ds, rfl, hk, HM, HDS, HR, HB⟩
    have c0 := (b2.cell (lt_of_cellq c0)).trans c0
    have c1 := (b2.cell (lt_of_cellq c1)).trans c1
    have c2 := (b2.cell (lt_of_cellq c2)).trans c2
    have c3 := (b2.cell (lt_of_cellq c3)).trans c3
    have c4 := (b2.cell (lt_of_cellq c4)).trans c4
    have c5 := (b2.cell (lt_of_cellq c5)).trans c5
    by_cases hlt : k < 31
    · have hltI : decide ((k : Int) < 31) = true := by simp; omega
      have hgz := HGZ.out
      have hgw := HROW.out.lt
      have hs2 := HS2.out
      obtain ⟨b, off, hpe, hcc⟩ := (HP.out.below HB1.out).at (i := k) (by simp; omega)
      subst hpe
      have e1 := hcc k (by simp; omega)
      rw [gi_map31 _ k hlt] at e1
      have hblt : b < w0.heap.size := by
        obtain ⟨b', off', e, hc'⟩ := HP.out.at (i := k) (by simp; omega)
        cases e
        exact lt_of_cellq (hc' k (by simp; omega))
      have carry : ∀ {pp : Addr} {v : Value}, pp.block ≠ g → w2.cell? pp = some v → wr.cell? pp = some v := fun {pp} {v} h1 hc => (HB.out.cell (lt_of_cellq hc) h1).trans hc
      have e1 := carry (pp := ⟨b, off + k, none⟩) (by show b ≠ g; omega) ((b2.cell (lt_of_cellq e1)).trans e1)
      have d0 := carry (by show w.heap.size ≠ g; omega) c0
      have d1 := carry (by show w.heap.size ≠ g; omega) c1
      have d2 := carry (by show w.heap.size ≠ g; omega) c2
      have d3 := carry (by show w.heap.size ≠ g; omega) c3
      have d4 := carry (by show w.heap.size ≠ g; omega) c4
      have d5 := carry (by show w.heap.size ≠ g; omega) c5
      have dO := carry (pp := ⟨w1.heap.size, 0, none⟩) (by show w1.heap.size ≠ g; omega) o0
      obtain ⟨w3, e3, HS3, h0, _, b3⟩ := box1 wr (.int .i64 k) 3
      obtain ⟨w4, e4, HS4, m0, _, b4⟩ := box1 w3 (.int .i64 (nv k)) 3
      have b34 := b3.trans (b4.mono b3.size)
      have E3 := Lib.hid e3
      have E4 := Lib.hid e4
      have hs3 := HS3.out
      have hs4 := HS4.out
      rw [hs3] at m0
      have hwz : w.heap.size < wr.heap.size := lt_of_cellq d0
      have hwz1 : w1.heap.size < wr.heap.size := lt_of_cellq dO
      have h0 := (b4.cell (lt_of_cellq h0)).trans h0
      have f0 := (b34.cell (lt_of_cellq d0)).trans d0
      have f1 := (b34.cell (lt_of_cellq d1)).trans d1
      have f2 := (b34.cell (lt_of_cellq d2)).trans d2
      have f3 := (b34.cell (lt_of_cellq d3)).trans d3
      have f4 := (b34.cell (lt_of_cellq d4)).trans d4
      have f5 := (b34.cell (lt_of_cellq d5)).trans d5
      have fO := (b34.cell (lt_of_cellq dO)).trans dO
      have HB4 := Lib.hid (HB.out.trans ((belX_of b34).mono HB.out.size))
      have HR4 := Lib.hid (HR.out.keep (b34.block g HR.out.lt))
      have HM4 := Lib.hid (HM.out.keep (B := w2.heap.size) ⟨b34.size, fun x o _ hx _ => (b34.block x (Array.getElem?_eq_some_iff.1 hx).1).trans hx⟩ HDS.out)
      have hnk := hnv k
      obtain ⟨hnk0, hnk1⟩ := hnk
      have HNV := Lib.hid hnv
      have HF := Lib.hid (And.intro f0 (And.intro f1 (And.intro f2 (And.intro f3 (And.intro f4 (And.intro f5 fO))))))
      have HH := Lib.hid (And.intro h0 m0)
      have HZ := Lib.hid (And.intro hs2 (And.intro hs3 hs4))
      clear hcc carry c0 c1 c2 c3 c4 c5 hnv b3 b4 e3 e4 f0 f1 f2 f3 f4 f5 fO h0 m0 hs2 hs3 hs4
      by_cases hmany : nv k ≥ 1000
      · have hmany' : decide (nv k ≥ 1000) = true := by simp; omega
        gi_wp2
        refine ⟨?_, by simp [frontMu, intOf]; omega⟩
        rw [E3.out, E4.out]
        exact ⟨_, _, _, _, _, _, _, _, _, _, _, _, _, _, _, _, _, _, _, _, _, _, _, _, _, _, _, _, _, _, k + 1, Ds, rfl, by omega, HM4, HDS, Lib.hid (by rw [frL_skip _ _ _ _ (by omega)]; exact HR4.out), HB4⟩
      · have hmany' : decide (nv k ≥ 1000) = false := by simp; omega
        gi_wp2_with fail
        rw [E3.out, E4.out]
        refine ⟨trivial, ?_⟩
        obtain ⟨w5, e5, HS5, s0, s1, s2, s3, s4, s5, b5⟩ := box6 w4 (.int .i64 lo) (.int .i64 hi) (.int .i64 sl) (.int .i64 ch) (.slice q ss.length cap) (.map (some m)) 110
        obtain ⟨w6, e6, HS6, t0, _, b6⟩ := box1 w5 (.int .i64 ((st : Int) + 1)) 3
        obtain ⟨w7, e7, HS7, v0, _, b7⟩ := box1 w6 (.int .i64 k) 3
        have E5 := Lib.hid e5
        have E6 := Lib.hid e6
        have E7 := Lib.hid e7
        have B47 := Lib.hid (b5.trans ((b6.trans (b7.mono b6.size)).mono b5.size))
        have S2 := Lib.hid (((b6.trans (b7.mono b6.size)).cell (lt_of_cellq s2)).trans s2)
        have S4 := Lib.hid (((b6.trans (b7.mono b6.size)).cell (lt_of_cellq s4)).trans s4)
        have T0 := Lib.hid ((b7.cell (lt_of_cellq t0)).trans t0)
        have V0 := Lib.hid v0
        clear e5 e6 e7 s0 s1 s2 s3 s4 s5 t0 v0 b5 b6 b7
        refine (callsIn_wide.2 (c151 lo hi sl ch q ss.length cap m ((st : Int) + 1) k _)).mono ?_
        rintro e w' ⟨rfl, hw⟩
        rw [E5.out, E6.out, E7.out] at hw
        subst hw
        clear E3 E4 E5 E6 E7
        gi_wp2_with fail
        obtain ⟨L, hL⟩ : ∃ L, max (gs ss (st + 1)).1 ((k : Int) - sl) = L := ⟨_, rfl⟩
        obtain ⟨U, hU⟩ : ∃ U, min (gs ss (st + 1)).2 ((k : Int) + sl) = U := ⟨_, rfl⟩
        have hT0 : w7.cell? ⟨w4.heap.size + 1, 0, none⟩ = some (.int .i64 ((st + 1 : Nat) : Int)) := by
          have := T0.out
          rw [HS5.out] at this
          rw [this]; congr 2
        have hV0 : w7.cell? ⟨w4.heap.size + 1 + 1, 0, none⟩ = some (.int .i64 k) := by
          have := V0.out
          rw [HS6.out, HS5.out] at this
          exact this
        have hX4 : RdS w4 q ss := ((HX.out.below HB1.out).below b2).keep HB4.out (fun a ha => by
          obtain ⟨h1, _⟩ := HX.out.blk (by omega) a ha
          have := HZ.out
          exact ⟨by omega, by show ¬ (a.block = g); omega⟩)
        have hseq := heights_stops 5 (by omega) w4.heap.size (w4.heap.size + 1) (w4.heap.size + 1 + 1) sl q cap ss (st + 1) k (by omega) (hsp (st + 1) (by omega)) hsl (by omega) hlen L U hL hU w7 S2.out S4.out hT0 hV0 (hX4.below B47.out)
        clear hX4
        have HMID := Lib.hid (midL_done sl (spn ss (st + 1)) nv k (by omega) L U hL hU)
        have HB7 := Lib.hid (HB4.out.trans ((belX_of B47.out).mono HB4.out.size))
        have HM7 := Lib.hid (HM4.out.keep (B := w2.heap.size) ⟨B47.out.size, fun x o _ hx _ => (B47.out.block x (Array.getElem?_eq_some_iff.1 hx).1).trans hx⟩ HDS.out)
        have HDW := Lib.hid (fun D (hD : D ∈ Ds) => (Array.getElem?_eq_some_iff.1 (HM7.out.2 D hD)).1)
        have hz7 := B47.out.size
        have hz4 : w4.heap.size = wr.heap.size + 1 + 1 := by have := HZ.out; omega
        have hgz7 : g < w2.heap.size := by have := HZ.out; omega
        have hz27 : w2.heap.size ≤ w7.heap.size := HB7.out.size
        refine wpIn_rangeFunc_ownG rfl (by omega) (gf := 163) (lb := #[.pointer (some ⟨w4.heap.size, 0, none⟩), .pointer (some ⟨w4.heap.size + 1, 0, none⟩), .pointer (some ⟨w4.heap.size + 1 + 1, 0, none⟩)]) rfl trivial (enters_of Tryz.func163 (by kernel_rfl) rfl)
          hseq (fun _ _ => trivial) (fun _ _ _ _ _ _ _ _ => trivial) (Below.refl _ _) (fun _ => rfl)
          (fun pre W => RowI W g (midL sl (spn ss (st + 1)) nv k (htL pre)) ∧ BelX (fun x => x = g) w7.heap.size w7 W)
          (fun c pre W => False)
          (OwnFrom.and (Own.from (RowI.own g _) _) (ownFrom_belX (Nat.le_refl _) (Nat.le_refl _)))
          (fun c => fun s A B row hs hg hr => hs)
          ⟨by rw [show htL [] = [] from rfl, midL_nil]; exact HR4.out.keep (B47.out.block g (by omega)), BelX.refl _ _ _⟩
          ?a1 ?assign ?body ?done ?stop
        case assign =>
          intro l x W K hK
          gi_wp2
          exact hK
        case stop => intro D c pre W hD _ hI; exact hI.elim
        case body =>
          rintro l pre x W ⟨hR, hB⟩ _
          have hd : 1 ≤ 4 := by omega
          have hmx : Tryz.prog.follows .mixedOrders = true := by kernel_rfl
          obtain ⟨x, hx0, hx1⟩ := x
          obtain ⟨j, rfl⟩ := Int.eq_ofNat_of_zero_le hx0
          obtain ⟨f0, f1, f2, f3, f4, f5, fO⟩ := HF.out
          obtain ⟨g0, g1⟩ := HH.out
          have q0 := (hB.cell (by show w1.heap.size < w7.heap.size; omega) (by show ¬ (w1.heap.size = g); omega)).trans ((B47.out.cell (lt_of_cellq fO)).trans fO)
          have q1 := (hB.cell (by show wr.heap.size < w7.heap.size; omega) (by show ¬ (wr.heap.size = g); omega)).trans ((B47.out.cell (lt_of_cellq g0)).trans g0)
          have q2 := (hB.cell (by show wr.heap.size + 1 < w7.heap.size; omega) (by show ¬ (wr.heap.size + 1 = g); omega)).trans ((B47.out.cell (lt_of_cellq g1)).trans g1)
          have q3 := hR.at (i := j) (by simp [midL]; omega)
          have q4 := hR.fz j
          have hj31 : (j : Int) < 31 := by have : (j : Int) ≤ 30 := hx1; omega
          have HG1 := Lib.hid (show gi (midL sl (spn ss (st + 1)) nv k (htL pre)) j = gi (midL sl (spn ss (st + 1)) nv k (htL pre)) j from rfl)
          have r2 := cost_range k j
          have hw : IntKind.i64.wrap (nv k + cost k j) = nv k + cost k j := w64 _ (by omega) (by omega)
          have HRR := Lib.hid hR
          have HBW := Lib.hid hB
          clear hR hB f0 f1 f2 f3 f4 f5 fO g0 g1
          gi_wp2_with fail
          refine wpIn_round_still_tail 13 (by rintro ⟨_, _, hq⟩; exact hq) (by kernel_rfl) (by kernel_rfl) (by kernel_rfl) ?_
          simp only [List.take_succ_cons, List.take_zero, List.drop_succ_cons, List.drop_zero]
          repeat (first | still_step | still_call ((c129 _ _ _).mono fun e w' hq => ⟨hq.1, hq.2.symm⟩))
          try refine wpStill_nil ?_
          go_wp2
          refine ⟨((KeepsOthers.setCell _ _ _).from _).trans ((KeepsOthers.drew _).from _), trivial, ?_, ?_⟩
          · have h1 := HRR.out.set j (min (gi (midL sl (spn ss (st + 1)) nv k (htL pre)) j) (nv k + cost k j))
            rw [midL_snoc _ _ _ _ _ _ (by omega)] at h1
            have e : ∀ y : Ht, htL (pre ++ [y]) = htL pre ++ [y.1] := fun y => by simp [htL]
            have e2 : ∀ y : Ht, y.1 = (j : Int) → RowI (W.setCell ⟨g, j, none⟩ (.int .i64 (min (gi (midL sl (spn ss (st + 1)) nv k (htL pre)) j) (nv k + cost k j)))).drew g (midL sl (spn ss (st + 1)) nv k (htL (pre ++ [y]))) := fun y hy => by rw [e, hy]; exact h1.keep rfl
            exact e2 ⟨j, hx0, hx1⟩ rfl
          · have h2 := HBW.out.setCell (p := ⟨g, j, none⟩) (.inl rfl) (.int .i64 (min (gi (midL sl (spn ss (st + 1)) nv k (htL pre)) j) (nv k + cost k j)))
            exact ⟨h2.os, h2.tape, h2.output, h2.size, h2.block⟩
        case done =>
          rintro D ys W hD hys ⟨hR, hB⟩ hK
          rw [hys, HMID.out] at hR
          have hDD := HDW.out
          have hMW : MarksOk Ds W := ⟨HM7.out.1, fun E hE => by
            have h2 := HDS.out E hE
            exact (hB.block E (hDD E hE) (by show ¬ (E = g); omega)).trans (HM7.out.2 E hE)⟩
          have hWM : MarksOk (D :: Ds) W := ⟨List.nodup_cons.2 ⟨fun hm => by have := hDD D hm; omega, hMW.1⟩, fun E hE => by
            rcases List.mem_cons.1 hE with rfl | hE
            · exact hK
            · exact hMW.2 E hE⟩
          have HWM := Lib.hid hWM
          have HRW := Lib.hid hR
          have HBW := Lib.hid (HB7.out.trans (hB.mono (by omega)))
          have HDN := Lib.hid (show ∀ E ∈ D :: Ds, w2.heap.size ≤ E from fun E hE => by
            rcases List.mem_cons.1 hE with rfl | hE
            · omega
            · exact HDS.out E hE)
          clear hWM hR hB hMW hK
          gi_wp2
          refine ⟨⟨_, _, _, _, _, _, _, _, _, _, _, _, _, _, _, _, _, _, _, _, _, _, _, _, _, _, _, _, _, _, k + 1, D :: Ds, rfl, by omega, HWM, HDN, HRW, HBW⟩, by simp [frontMu, intOf]; omega⟩
    · obtain rfl : k = 31 := by omega
      have hgz := HGZ.out
      have hgw := HROW.out.lt
      have hs2 := HS2.out
      have dO := (HB.out.cell (lt_of_cellq o0) (by show ¬ (w1.heap.size = g); omega)).trans o0
      clear c0 c1 c2 c3 c4 c5
      gi_wp2
      refine leaves_marks Ds wr HM.out (fun w' hb => ?_)
      have hng : g ∉ Ds := fun hm => by have := HDS.out g hm; omega
      have hwr : w2.heap.size ≤ wr.heap.size := HB.out.size
      have hB2 : Below w.heap.size w w2 := (HB0.out.trans (HB1.out.mono (by omega))).trans (b2.mono (by omega))
      refine ⟨.slice (some ⟨g, 0, none⟩) 31 31, by simp [results, Tryz.results137, go_sem], g, rfl, by omega, HR.out.keep (hb.block g (by omega) hng), ?_⟩
      have h3 := HB.out
      have hz2 := hB2.size
      exact ⟨hb.os.trans (h3.os.trans hB2.os), hb.tape.trans (h3.tape.trans hB2.tape), hb.output.trans (h3.output.trans hB2.output), by have := hb.size; omega, fun x hx => (hb.block x (by omega) (fun hm => by have := HDS.out x hm; omega)).trans ((h3.block x (by omega) (by show ¬ (x = g); omega)).trans (hB2.block x hx))⟩
end Go.Proofs.YtncfgkhbenmpoaaGreatDoor
end

section
namespace Go.Proofs.YtncfgkhbenmpoaaGreatDoor
open Go Go.RowKit Go.Proofs Go.Shelf
set_option linter.unusedVariables false

/-- the bounds behind so many first heights -/
def bPre (sl ch : Int) (ss : List (Int × Int)) (pre : List Int) (i : Nat) : Int × Int := bnd updF (fun f h => goodF sl ch ss f i h) (1, 0) pre
theorem bPre_snoc (sl ch : Int) (ss : List (Int × Int)) (pre : List Int) (f : Int) (i : Nat) : bPre sl ch ss (pre ++ [f]) i = bndH updF (goodF sl ch ss f i) (bPre sl ch ss pre i) (rng 0 30) := by
  unfold bPre bnd; rw [List.foldl_append]; rfl
def rowB (sl ch : Int) (ss : List (Int × Int)) (pre : List Int) : List (Int × Int) := (List.range ss.length).map fun i => bPre sl ch ss pre i
def rowP (sl ch : Int) (ss : List (Int × Int)) (pre : List Int) (f : Int) (st j : Nat) : List (Int × Int) := (List.range ss.length).map fun i =>
  if i < st then bPre sl ch ss (pre ++ [f]) i else if i = st then bndH updF (goodF sl ch ss f i) (bPre sl ch ss pre i) ((rng 0 30).take j) else bPre sl ch ss pre i
theorem rowB_length (sl ch : Int) (ss : List (Int × Int)) (pre : List Int) : (rowB sl ch ss pre).length = ss.length := by simp [rowB]
theorem rowP_length (sl ch : Int) (ss : List (Int × Int)) (pre : List Int) (f : Int) (st j : Nat) : (rowP sl ch ss pre f st j).length = ss.length := by simp [rowP]
theorem spn_map (f : Nat → Int × Int) (n i : Nat) (h : i < n) : spn ((List.range n).map f) i = f i := by unfold spn; simp [h]
theorem spn_ext {xs ys : List (Int × Int)} (hl : xs.length = ys.length) (h : ∀ i, i < xs.length → spn xs i = spn ys i) : xs = ys := by
  apply List.ext_getElem hl
  intro i h1 h2
  have := h i h1
  unfold spn at this
  rwa [List.getD_eq_getElem?_getD, List.getD_eq_getElem?_getD, List.getElem?_eq_getElem h1, List.getElem?_eq_getElem h2] at this
theorem rowP_start (sl ch : Int) (ss : List (Int × Int)) (pre : List Int) (f : Int) : rowP sl ch ss pre f 0 0 = rowB sl ch ss pre := by
  unfold rowP rowB
  apply List.map_congr_left
  intro i _
  rw [if_neg (by omega)]
  split
  · rfl
  · rfl
theorem rowP_next (sl ch : Int) (ss : List (Int × Int)) (pre : List Int) (f : Int) (st : Nat) : rowP sl ch ss pre f st 31 = rowP sl ch ss pre f (st + 1) 0 := by
  unfold rowP
  apply List.map_congr_left
  intro i _
  by_cases h1 : i < st
  · rw [if_pos h1, if_pos (by omega)]
  · rw [if_neg h1]
    by_cases h2 : i = st
    · rw [if_pos h2, if_pos (by omega), bPre_snoc, List.take_of_length_le (by simp [rng])]
    · rw [if_neg h2, if_neg (by omega)]
      split
      · rfl
      · rfl
theorem rowP_end (sl ch : Int) (ss : List (Int × Int)) (pre : List Int) (f : Int) (j : Nat) : rowP sl ch ss pre f ss.length j = rowB sl ch ss (pre ++ [f]) := by
  unfold rowP rowB
  apply List.map_congr_left
  intro i hi
  rw [List.mem_range] at hi
  rw [if_pos hi]
theorem rowP_at (sl ch : Int) (ss : List (Int × Int)) (pre : List Int) (f : Int) (st j : Nat) (h : st < ss.length) : spn (rowP sl ch ss pre f st j) st = bndH updF (goodF sl ch ss f st) (bPre sl ch ss pre st) ((rng 0 30).take j) := by
  unfold rowP; rw [spn_map _ _ _ h, if_neg (by omega), if_pos rfl]
theorem bndH_snoc (upd : Int × Int → Int → Int × Int) (good : Int → Bool) (a : Int × Int) (j : Nat) (hj : j < 31) : bndH upd good a ((rng 0 30).take (j + 1)) = if good j = true then upd (bndH upd good a ((rng 0 30).take j)) j else bndH upd good a ((rng 0 30).take j) := by
  rw [rng_take 0 30 j (by omega)]
  unfold bndH
  rw [List.foldl_append, show (0 : Int) + j = j by omega]; rfl
theorem rowP_skip (sl ch : Int) (ss : List (Int × Int)) (pre : List Int) (f : Int) (st j : Nat) (hj : j < 31) (hg : goodF sl ch ss f st j = false) : rowP sl ch ss pre f st (j + 1) = rowP sl ch ss pre f st j := by
  unfold rowP
  apply List.map_congr_left
  intro i _
  split
  · rfl
  · split
    · rename_i h; subst h
      rw [bndH_snoc _ _ _ _ hj, hg]; rfl
    · rfl
theorem rowP_set (sl ch : Int) (ss : List (Int × Int)) (pre : List Int) (f : Int) (st j : Nat) (hj : j < 31) (hs : st < ss.length) (hg : goodF sl ch ss f st j = true) : (rowP sl ch ss pre f st j).set st (updF (spn (rowP sl ch ss pre f st j) st) j) = rowP sl ch ss pre f st (j + 1) := by
  apply spn_ext (by simp [rowP])
  intro i hi
  rw [List.length_set, rowP_length] at hi
  rw [spn_set _ _ _ (by rw [rowP_length]; exact hs)]
  by_cases h : st = i
  · subst h
    rw [if_pos rfl, rowP_at _ _ _ _ _ _ _ hs, rowP_at _ _ _ _ _ _ _ hs, bndH_snoc _ _ _ _ hj, hg]; rfl
  · rw [if_neg h]
    unfold rowP
    rw [spn_map _ _ _ hi, spn_map _ _ _ hi]
    split
    · rfl
    · rw [if_neg (fun e => h e.symm), if_neg (fun e => h e.symm)]
theorem rowB_nil (sl ch : Int) (ss : List (Int × Int)) : rowB sl ch ss [] = List.replicate ss.length (1, 0) := by
  apply spn_ext (by simp [rowB])
  intro i hi
  rw [rowB_length] at hi
  unfold rowB
  rw [spn_map _ _ _ hi]
  unfold spn
  rw [List.getD_eq_getElem?_getD, List.getElem?_replicate, if_pos hi]; rfl
def boundL (sl ch : Int) (ss : List (Int × Int)) : List (Int × Int) := (List.range ss.length).map fun i => boundF sl ch ss i
theorem rowB_all (sl ch : Int) (ss : List (Int × Int)) : rowB sl ch ss (rng (spn ss 0).1 (spn ss 0).2) = boundL sl ch ss := rfl
/-- the row of the fewest changes up to each height of a step -/
def nowL (sl f : Int) (ss : List (Int × Int)) (i : Nat) : List Int := (List.range 31).map fun (j : Nat) => nowF sl f ss i j
theorem nowL_next (sl f : Int) (ss : List (Int × Int)) (i : Nat) : frL sl (spn ss (i + 1)) (nowF sl f ss i) 31 = nowL sl f ss (i + 1) := rfl
theorem nowL_zero (sl : Int) (ss : List (Int × Int)) (f : Nat) (hf : f < 31) : (List.replicate 31 (1000 : Int)).set f 0 = nowL sl f ss 0 := by
  apply ext31 (by simp) (by simp [nowL])
  intro j hj
  rw [gi_set _ _ _ (by simpa using hf)]
  unfold nowL
  rw [gi_map31 _ j hj]
  simp only [nowF]
  by_cases h : f = j
  · subst h; rw [if_pos rfl, if_pos rfl]
  · rw [if_neg h, if_neg (by omega)]
    unfold gi
    rw [List.getD_eq_getElem?_getD, List.getElem?_replicate, if_pos hj]; rfl

def KnownRow (sl ch : Int) (ss : List (Int × Int)) (w : World) (e : Ending) (w' : World) : Prop :=
  (((spn (boundL sl ch ss) 0).1 ≤ (spn (boundL sl ch ss) 0).2 ∧ ∃ g, e = .returned (.slice (some ⟨g, 0, none⟩) ss.length ss.length) ∧ w.heap.size ≤ g ∧ RowS w' g (boundL sl ch ss)) ∨
   ((spn (boundL sl ch ss) 0).1 > (spn (boundL sl ch ss) 0).2 ∧ e = .panicked [{ v := .iface 151 (.agg #[.int .i64 0]), recovered := false }])) ∧ Below w.heap.size w w'
end Go.Proofs.YtncfgkhbenmpoaaGreatDoor
end

section
namespace Go.Proofs.YtncfgkhbenmpoaaGreatDoor
open Go Go.RowKit Go.Proofs Go.Shelf
set_option linter.unusedVariables false
attribute [local go_sem] imax2 imin2

/-- what the closures of the search read -/
def SrchCells (w : World) (Br Bs m : Nat) (q : Option Addr) (n cap : Nat) (lo hi sl ch : Int) : Prop :=
  w.cell? ⟨Br, 3, none⟩ = some (.int .i64 ch) ∧ w.cell? ⟨Bs, 0, none⟩ = some (.int .i64 lo) ∧ w.cell? ⟨Bs, 1, none⟩ = some (.int .i64 hi) ∧ w.cell? ⟨Bs, 2, none⟩ = some (.int .i64 sl) ∧ w.cell? ⟨Bs, 3, none⟩ = some (.int .i64 ch) ∧ w.cell? ⟨Bs, 4, none⟩ = some (.slice q n cap) ∧ w.cell? ⟨Bs, 5, none⟩ = some (.map (some m))
theorem SrchCells.keep {wr w' : World} {Br Bs m : Nat} {q : Option Addr} {n cap : Nat} {lo hi sl ch : Int} (h : SrchCells wr Br Bs m q n cap lo hi sl ch) (hb : BelX (fun k => k = m) wr.heap.size wr w') (h1 : Br ≠ m) (h2 : Bs ≠ m) : SrchCells w' Br Bs m q n cap lo hi sl ch := by
  obtain ⟨a, b, c, d, e, f, g⟩ := h
  exact ⟨(hb.cell (lt_of_cellq a) h1).trans a, (hb.cell (lt_of_cellq b) h2).trans b, (hb.cell (lt_of_cellq c) h2).trans c, (hb.cell (lt_of_cellq d) h2).trans d, (hb.cell (lt_of_cellq e) h2).trans e, (hb.cell (lt_of_cellq f) h2).trans f, (hb.cell (lt_of_cellq g) h2).trans g⟩

set_option maxRecDepth 100000 in
set_option maxHeartbeats 1000000 in
theorem c97 (lo hi sl ch : Int) (q : Option Addr) (cap : Nat) (ss : List (Int × Int)) (h1 : 1 ≤ ss.length) (hlen : ss.length ≤ 1000) (hsl : 0 ≤ sl ∧ sl ≤ 30) (hch : 0 ≤ ch ∧ ch < 1000) (hsp : SpOk ss) (w : World) (hx : RdS w q ss) :
    Calls Tryz.prog 97 #[.agg #[.int .i64 lo, .int .i64 hi, .int .i64 sl, .int .i64 ch], .slice q ss.length cap] w (KnownRow sl ch ss w) := by
  obtain ⟨w0, e0, HS0, k0, k1, k2, k3, b0⟩ := box4 w (.int .i64 lo) (.int .i64 hi) (.int .i64 sl) (.int .i64 ch) 23
  have HX := Lib.hid (hx.below b0)
  have HB0 := Lib.hid b0
  have h84 := c84 lo hi sl ch q ss.length cap w0
  have hz0 : w.heap.size < w0.heap.size := by have := HS0.out; omega
  clear hx b0
  go_enter Tryz.func97, Tryz.ntmps97
  go_wp2_with fail
  refine h84.mono ?_
  rintro e w1 ⟨m, rfl, hm, hM, b1⟩
  have k3 := (b1.cell (lt_of_cellq k3)).trans k3
  obtain ⟨w2, e2, HS2, c0, c1, c2, c3, c4, c5, b2⟩ := box6 w1 (.int .i64 lo) (.int .i64 hi) (.int .i64 sl) (.int .i64 ch) (.slice q ss.length cap) (.map (some m)) 110
  have k3 := (b2.cell (lt_of_cellq k3)).trans k3
  have HMM := Lib.hid ((hM (restG sl ss)).below b2)
  have hmw := (hM (restG sl ss)).lt
  have HB2 := Lib.hid (b1.trans (b2.mono b1.size))
  have hw1 := b1.size
  clear h84 hM b1 b2 k0 k1 k2 e0
  have h135 := c135 w2.heap.size 0 1 1 0 ss.length h1 hlen (w2.alloc (.cells #[.int .i64 1, .int .i64 0] 50)) (news_of w2 [.int .i64 1, .int .i64 0] 50)
  go_wp2_with fail
  refine h135.mono ?_
  rintro e w3 ⟨g, rfl, hgz, hrow, hb3⟩
  have HROW := Lib.hid (show RowS w3 g (rowB sl ch ss []) by unfold RowS; rw [rowB_nil, ← spV_rep]; exact hrow)
  have hgz' : w2.heap.size < g := by have := hgz; simp at this; omega
  have hb := (below_alloc1 w2 (.cells #[.int .i64 1, .int .i64 0] 50)).trans (hb3.mono (by simp))
  have k3 := (hb.cell (lt_of_cellq k3)).trans k3
  have c0 := (hb.cell (lt_of_cellq c0)).trans c0
  have c1 := (hb.cell (lt_of_cellq c1)).trans c1
  have c2 := (hb.cell (lt_of_cellq c2)).trans c2
  have c3 := (hb.cell (lt_of_cellq c3)).trans c3
  have c4 := (hb.cell (lt_of_cellq c4)).trans c4
  have c5 := (hb.cell (lt_of_cellq c5)).trans c5
  have HM3 := Lib.hid (HMM.out.below hb)
  have HB3 := Lib.hid (HB2.out.trans (hb.mono HB2.out.size))
  have hgw := block_lt HROW.out
  have hs2 := HS2.out
  have hw2 := HB2.out.size
  have hw3 := hb.size
  obtain ⟨b, off, hqe, hcc⟩ := (HX.out.below HB3.out).at (i := 0) (by omega)
  subst hqe
  obtain ⟨d1, d2⟩ := hcc 0 (by omega)
  have hbb : b < w0.heap.size := by
    obtain ⟨b', off', e, hc'⟩ := HX.out.at (i := 0) (by omega)
    cases e
    exact lt_of_cellq (hc' 0 (by omega)).1
  simp only [Nat.zero_mul, Nat.add_zero] at d1 d2
  obtain ⟨hp1, hp2, hp3, hp4⟩ := hsp 0 (by omega)
  have HSP := Lib.hid hsp
  have HSL := Lib.hid hsl
  have HCH := Lib.hid hch
  obtain ⟨L, hL⟩ : ∃ L, (gs ss 0).1 = L := ⟨_, rfl⟩
  obtain ⟨U, hU⟩ : ∃ U, (gs ss 0).2 = U := ⟨_, rfl⟩
  have HLU := Lib.hid (show rng (spn ss 0).1 (spn ss 0).2 = rng L U by rw [← hL, ← hU]; rfl)
  rw [hL] at d1 hp1 hp2
  rw [hU] at d2 hp3 hp4
  clear h135 hrow hgz hb3 hb e2 hcc hsp hsl hch hL hU
  go_wp2
  go_loopw [7] (fun v wr => ∃ k : Nat, k ≤ (U - L + 1).toNat ∧ v = .int .i64 (L + k) ∧ Hid (RowS wr g (rowB sl ch ss ((rng L U).take k))) ∧ Hid (MapOk wr m (restG sl ss)) ∧ Hid (BelX (fun x => x = m ∨ x = g) w3.heap.size w3 wr)) (fun v _ => (U + 1 - intOf v).toNat)
  case atStart => exact ⟨0, Nat.zero_le _, by simp, HROW, HM3, Lib.hid (BelX.refl _ _ _)⟩
  case round =>
    obtain ⟨k, hk, rfl, HR, HM, HB⟩ := hrel
    by_cases hlt : k < (U - L + 1).toNat
    · have hle : L + (k : Int) ≤ U := by omega
      have d2' := (HB.out.cell (lt_of_cellq d2) (by show ¬ (b = m ∨ b = g); omega)).trans d2
      obtain ⟨f, hf⟩ : ∃ f : Nat, L + (k : Int) = f := ⟨(L + k).toNat, by omega⟩
      have HF := Lib.hid hf
      rw [hf] at hle
      rw [hf]
      have hf31 : f < 31 := by omega
      have h136 := c136 wr.heap.size 0 1 1000 31 (by omega) (by omega) (wr.alloc (.cells #[.int .i64 1000] 3)) (news_of wr [.int .i64 1000] 3)
      rw [show ((31 : Nat) : Int) = 31 from rfl] at h136
      go_wp2_with fail
      refine h136.mono ?_
      rintro e w4 ⟨n0, rfl, hnz, hrow, hb4⟩
      have HN0 := Lib.hid (show RowI w4 n0 (List.replicate 31 1000) by unfold RowI; rw [← repC_int]; exact hrow)
      have hnz' : wr.heap.size < n0 := by have := hnz; simp at this; omega
      have hb := (below_alloc1 wr (.cells #[.int .i64 1000] 3)).trans (hb4.mono (by simp))
      have hb34 := HB.out.trans ((belX_of hb).mono HB.out.size)
      have z1 := HN0.out.fz f
      have z2 := HN0.out.at (i := f) (by simpa using hf31)
      have hf31' : (f : Int) < 31 := by omega
      have HM4 := Lib.hid (HM.out.below hb)
      have hgr : g < wr.heap.size := block_lt HR.out
      have HR4 := Lib.hid (show RowS w4 g (rowB sl ch ss ((rng L U).take k)) from (hb.block g hgr).trans HR.out)
      clear h136 hrow hnz hb4 d2'
      go_wp2
      obtain ⟨pre, hpre⟩ : ∃ pre, (rng L U).take k = pre := ⟨_, rfl⟩
      have HPRE := Lib.hid (show (rng L U).take (k + 1) = pre ++ [(f : Int)] by rw [rng_take L U k hlt, hpre, HF.out])
      rw [hpre] at HR4
      have HRP := Lib.hid (show RowS (w4.setCell ⟨n0, f, none⟩ (.int .i64 0)) g (rowP sl ch ss pre f 0 0) by
        rw [rowP_start]; exact (show _ = w4.heap[g]? from Below.heap_setCell _ _ _ _ (by show g ≠ n0; omega)).trans HR4.out)
      have HMP := Lib.hid (show MapOk (w4.setCell ⟨n0, f, none⟩ (.int .i64 0)) m (restG sl ss) from HM4.out.keep (Below.heap_setCell _ _ _ _ (by show m ≠ n0; have := HB.out.size; omega)))
      have HNP := Lib.hid (show RowI (w4.setCell ⟨n0, f, none⟩ (.int .i64 0)) n0 (nowL sl f ss 0) by rw [← nowL_zero sl ss f hf31]; exact HN0.out.set f 0)
      have HBP := Lib.hid (hb34.setCell (p := ⟨n0, f, none⟩) (.inr (by have := HB.out.size; show w3.heap.size ≤ n0; omega)) (.int .i64 0))
      have hn03 : w3.heap.size ≤ n0 := by have := HB.out.size; omega
      clear z1 z2 hb hb34 HN0 HM4 HR4 HR HM HB hpre
      generalize w4.setCell ⟨n0, f, none⟩ (.int .i64 0) = w5 at *
      go_loopw [39, 8] (fun v x w6 => ∃ st gn : Nat, st ≤ ss.length ∧ v = .int .i64 st ∧ x = .slice (some ⟨gn, 0, none⟩) 31 31 ∧ w3.heap.size ≤ gn ∧ (st < ss.length → Hid (RowI w6 gn (nowL sl f ss st))) ∧ Hid (RowS w6 g (rowP sl ch ss pre f st 0)) ∧ Hid (MapOk w6 m (restG sl ss)) ∧ Hid (BelX (fun x => x = m ∨ x = g) w3.heap.size w3 w6)) (fun v _ _ => ss.length - (intOf v).toNat)
      case atStart => exact ⟨0, n0, Nat.zero_le _, rfl, rfl, hn03, fun _ => HNP, HRP, HMP, HBP⟩
      case round =>
        obtain ⟨st, gn, hst, rfl, rfl, hgn, HN6, HR6, HM6, HB6⟩ := hrel
        by_cases hstl : st < ss.length
        · have HN6 := HN6 hstl
          have hstI : decide ((st : Int) < (ss.length : Int)) = true := by simp; omega
          go_wp2
          go_loopw [44] (fun v w7 => ∃ j : Nat, j ≤ 31 ∧ v = .int .i64 j ∧ Hid (RowI w7 gn (nowL sl f ss st)) ∧ Hid (RowS w7 g (rowP sl ch ss pre f st j)) ∧ Hid (MapOk w7 m (restG sl ss)) ∧ Hid (BelX (fun x => x = m ∨ x = g) w3.heap.size w3 w7)) (fun v _ => 31 - (intOf v).toNat)
          case atStart => exact ⟨0, Nat.zero_le _, rfl, HN6, HR6, HM6, HB6⟩
          case round =>
            obtain ⟨j, hj, rfl, HN, HR, HM, HB⟩ := hrel
            by_cases hj31 : j < 31
            · have hjI : decide ((j : Int) < 31) = true := by simp; omega
              have hjI' : (j : Int) < 31 := by omega
              have n1 := HN.out.at (i := j) (by simp [nowL]; omega)
              rw [show gi (nowL sl f ss st) j = nowF sl f ss st j by unfold nowL; rw [gi_map31 _ j hj31]] at n1
              have hnr := nowF_range sl f ss st j
              obtain ⟨nv, hnv⟩ : ∃ nv, nowF sl f ss st j = nv := ⟨_, rfl⟩
              have HNV := Lib.hid hnv
              rw [hnv] at n1 hnr
              by_cases hmany : nv ≥ 1000
              · have hmany' : decide (nv ≥ 1000) = true := by simp; omega
                go_wp2
                go_quiet (fail)
                go_wp2
                go_roundw
                case rel => exact ⟨j + 1, by omega, by go_num, Lib.hid (HN.out.keep rfl), Lib.hid (by rw [rowP_skip _ _ _ _ _ _ _ hj31 (by unfold goodF; rw [HNV.out]; simp; omega)]; exact HR.out), Lib.hid (HM.out.keep rfl), Lib.hid ⟨HB.out.os, HB.out.tape, HB.out.output, HB.out.size, HB.out.block⟩⟩
                case measure => simp [intOf]; omega
              · have hmany' : decide (nv ≥ 1000) = false := by simp; omega
                have carry : ∀ {pp : Addr} {v : Value}, pp.block ≠ m → pp.block ≠ g → w3.cell? pp = some v → wr.cell? pp = some v := fun {pp} {v} h1 h2 hc => (HB.out.cell (lt_of_cellq hc) (by show ¬ (pp.block = m ∨ pp.block = g); omega)).trans hc
                have j3 := carry (by show w.heap.size ≠ m; omega) (by show w.heap.size ≠ g; omega) k3
                have j4 := carry (by show w1.heap.size ≠ m; omega) (by show w1.heap.size ≠ g; omega) c0
                have j5 := carry (by show w1.heap.size ≠ m; omega) (by show w1.heap.size ≠ g; omega) c1
                have j6 := carry (by show w1.heap.size ≠ m; omega) (by show w1.heap.size ≠ g; omega) c2
                have j7 := carry (by show w1.heap.size ≠ m; omega) (by show w1.heap.size ≠ g; omega) c3
                have j8 := carry (by show w1.heap.size ≠ m; omega) (by show w1.heap.size ≠ g; omega) c4
                have j9 := carry (by show w1.heap.size ≠ m; omega) (by show w1.heap.size ≠ g; omega) c5
                have hx7 : RdS wr (some ⟨b, off, none⟩) ss := (HX.out.below HB3.out).keep HB.out (fun a ha => by cases ha; exact ⟨by show b < w3.heap.size; omega, by show ¬ (b = m ∨ b = g); omega⟩)
                have HREST := Lib.hid (fun wx (hb : Below wr.heap.size wr wx) => c130 lo hi sl ch (some ⟨b, off, none⟩) cap m ss hlen HSL.out HSP.out (ss.length - st - 1) st j f wx (by omega) (by omega) (by omega) (hx7.below hb) (HM.out.below hb))
                have r1 := restG_range sl ss st j f
                have hwr : IntKind.i64.wrap (nv + restG sl ss st j f) = nv + restG sl ss st j f := w64 _ (by omega) (by omega)
                have hgn' : gn < wr.heap.size := HN.out.lt
                have hz7 := HB.out.size
                clear carry hx7
                go_wp2
                have hS : SrchCells wr w.heap.size w1.heap.size m (some ⟨b, off, none⟩) ss.length cap lo hi sl ch := ⟨j3, j4, j5, j6, j7, j8, j9⟩
                go_region_held3 (fun w' => w'.cell? ⟨w.heap.size, 3, none⟩ = some (.int .i64 ch) ∧ w'.cell? ⟨w1.heap.size, 0, none⟩ = some (.int .i64 lo) ∧ w'.cell? ⟨w1.heap.size, 1, none⟩ = some (.int .i64 hi) ∧ w'.cell? ⟨w1.heap.size, 2, none⟩ = some (.int .i64 sl) ∧ w'.cell? ⟨w1.heap.size, 3, none⟩ = some (.int .i64 ch) ∧ w'.cell? ⟨w1.heap.size, 4, none⟩ = some (.slice (some ⟨b, off, none⟩) ss.length cap) ∧ w'.cell? ⟨w1.heap.size, 5, none⟩ = some (.map (some m))) (first | exact hS | exact kC)
                  (first
                    | (go_at_call 130; (with_reducible refine (HREST.out _ ((Below.refl _ _).drew)).mono ?_); rintro e wc ⟨rfl, hMc, hBc⟩
                       have kC : SrchCells wc w.heap.size w1.heap.size m (some ⟨b, off, none⟩) ss.length cap lo hi sl ch := SrchCells.keep (wr := wr.drew) ⟨j3, j4, j5, j6, j7, j8, j9⟩ hBc (by omega) (by omega)))
                all_goals
                  have HMc := Lib.hid hMc
                  have HNc := Lib.hid (HN.out.keep (w' := wc) (hBc.block gn (by show gn < wr.heap.size; omega) (by show ¬ (gn = m); omega)))
                  have hRc : RowS wc g (rowP sl ch ss pre f st j) := (show wc.heap[g]? = wr.heap[g]? from hBc.block g (by show g < wr.heap.size; omega) (by show ¬ (g = m); omega)).trans HR.out
                  have hBc' : BelX (fun x => x = m ∨ x = g) w3.heap.size w3 wc := HB.out.trans (((show BelX (fun k => k = m) wr.heap.size wr wc from ⟨hBc.os, hBc.tape, hBc.output, hBc.size, hBc.block⟩).mono HB.out.size).weak (fun k _ hk => .inl hk))
                  have HBc := Lib.hid hBc'
                  have HRc := Lib.hid hRc
                  obtain ⟨a1, a2⟩ := hRc.at (i := st) (by rw [rowP_length]; exact hstl)
                  have z1 := frozen_of_row _ _ (st * 2) _ _ hRc
                  have z2 := frozen_of_row _ _ (st * 2 + 1) _ _ hRc
                  obtain ⟨rr, hrr⟩ : ∃ rr, restG sl ss st j f = rr := ⟨_, rfl⟩
                  have HG := Lib.hid (show goodF sl ch ss f st j = (decide (nv < 1000) && decide (nv + rr ≤ ch)) by unfold goodF; rw [HNV.out, ← hrr]; rfl)
                  rw [hrr]
                  obtain ⟨A, hA⟩ : ∃ A, (spn (rowP sl ch ss pre f st j) st).1 = A := ⟨_, rfl⟩
                  obtain ⟨B, hB'⟩ : ∃ B, (spn (rowP sl ch ss pre f st j) st).2 = B := ⟨_, rfl⟩
                  have HAB := Lib.hid (show spn (rowP sl ch ss pre f st j) st = (A, B) from Prod.ext hA hB')
                  rw [hA] at a1
                  rw [hB'] at a2
                  clear hMc hBc hBc' hRc hS kC j3 j4 j5 j6 j7 j8 j9 HREST hwr n1 hA hB' hrr r1
                  by_cases hgt : nv + rr > ch
                  · have hgt' : decide (nv + rr > ch) = true := by simp; omega
                    clear a1 a2 z1 z2
                    go_wp2
                    go_roundw
                    case rel => exact ⟨j + 1, by omega, by go_num, HNc, Lib.hid (by rw [rowP_skip _ _ _ _ _ _ _ hj31 (by rw [HG.out]; simp; omega)]; exact HRc.out), HMc, HBc⟩
                    case measure => simp [intOf]; omega
                  · have hgt' : decide (nv + rr > ch) = false := by simp; omega
                    have HSET := Lib.hid (rowP_set sl ch ss pre f st j hj31 hstl (by rw [HG.out]; simp; omega))
                    have hstn : st * 2 + 1 < ss.length * 2 := by omega
                    have hgn2 : gn < wr.heap.size := hgn'
                    have hne : gn ≠ g := by rintro rfl; have h1 := HNc.out; have h2 := HRc.out; unfold RowI at h1; unfold RowS at h2; rw [h1] at h2; simp at h2
                    by_cases hab : A > B
                    · have hab' : decide (A > B) = true := by simp; omega
                      have HEQ := Lib.hid (show ((rowP sl ch ss pre f st j).set st ((j : Int), (j : Int))).set st ((j : Int), (j : Int)) = rowP sl ch ss pre f st (j + 1) by
                        rw [← HSET.out, HAB.out]
                        have e : updF (A, B) j = ((j : Int), (j : Int)) := if_pos hab
                        rw [e, List.set_set])
                      go_wp2
                      refine wp_region_quiet_lit (by kernel_rfl) (by kernel_rfl) ?_; (repeat (first | ((with_reducible apply wq_ix Tryz.underlying24 sz3); (focus rfl); (focus rfl); (focus rfl); (focus omega); (try simp only [Nat.mul_one]); go_frame) | ((with_reducible apply wq_ix Tryz.underlying37 sz50); (focus rfl); (focus rfl); (focus rfl); (focus omega); (try simp only [Nat.mul_one]); go_frame) | ((with_reducible apply wq_ix Tryz.underlying35 sz47); (focus rfl); (focus rfl); (focus rfl); (focus omega); (try simp only [Nat.mul_one]); go_frame) | ((with_reducible apply wq_ix Tryz.underlying90 sz24); (focus rfl); (focus rfl); (focus rfl); (focus omega); (try simp only [Nat.mul_one]); go_frame) | ((with_reducible apply wq_ld ag3); (focus rfl); (focus rfl); (focus (rintro _ ⟨_, rfl⟩; first | exact a1 | exact a2)); go_frame) | ((with_reducible apply wq_ld ag24); (focus rfl); (focus rfl); (focus (rintro _ ⟨_, rfl⟩; first | exact a1 | exact a2)); go_frame) | ((with_reducible apply wq_ld ag37); (focus rfl); (focus rfl); (focus (rintro _ ⟨_, rfl⟩; first | exact a1 | exact a2)); go_frame) | ((with_reducible apply wq_ld ag90); (focus rfl); (focus rfl); (focus (rintro _ ⟨_, rfl⟩; first | exact a1 | exact a2)); go_frame) | ((with_reducible apply wq_ld ag35); (focus rfl); (focus rfl); (focus (rintro _ ⟨_, rfl⟩; first | exact a1 | exact a2)); go_frame) | ((with_reducible apply wq_add); (focus rfl); (focus rfl); (focus rfl); (focus omega); (focus omega); go_frame) | ((with_reducible apply wq_sub); (focus rfl); (focus rfl); (focus rfl); (focus omega); (focus omega); go_frame) | ((with_reducible apply wq_mul); (focus rfl); (focus rfl); (focus rfl); (focus omega); (focus omega); go_frame) | ((with_reducible apply wq_rem); (focus rfl); (focus rfl); (focus rfl); (focus omega); (focus omega); go_frame) | ((with_reducible apply wq_eql); (focus rfl); (focus rfl); (focus rfl); go_frame) | ((with_reducible apply wq_neq); (focus rfl); (focus rfl); (focus rfl); go_frame) | ((with_reducible apply wq_lss); (focus rfl); (focus rfl); (focus rfl); go_frame) | ((with_reducible apply wq_leq); (focus rfl); (focus rfl); (focus rfl); go_frame) | ((with_reducible apply wq_gtr); (focus rfl); (focus rfl); (focus rfl); go_frame) | ((with_reducible apply wq_geq); (focus rfl); (focus rfl); (focus rfl); go_frame) | ((with_reducible apply wq_max2); (focus rfl); (focus rfl); (focus rfl); go_frame) | ((with_reducible apply wq_min2); (focus rfl); (focus rfl); (focus rfl); go_frame) | ((with_reducible apply wq_max3); (focus rfl); (focus rfl); (focus rfl); (focus rfl); go_frame) | ((with_reducible apply wq_min3); (focus rfl); (focus rfl); (focus rfl); (focus rfl); go_frame) | go_big_quiet_step (fail))); refine wpQuiet_nil ?_; rintro _ ⟨nq, rfl⟩
                      go_wp2
                      have HRd := Lib.hid (show RowS (((wc.drewN nq).setCell ⟨g, st * 2, none⟩ (.int .i64 j)).setCell ⟨g, st * 2 + 1, none⟩ (.int .i64 j)) g ((rowP sl ch ss pre f st j).set st ((j : Int), (j : Int))) from
                        RowS.set (w := wc.drewN nq) HRc.out (i := st) (by rw [rowP_length]; exact hstl) ((j : Int), (j : Int)))
                      have HSd := Lib.hid (show spn ((rowP sl ch ss pre f st j).set st ((j : Int), (j : Int))) st = ((j : Int), (j : Int)) by rw [spn_set _ _ _ (by rw [rowP_length]; exact hstl), if_pos rfl])
                      have HMd := Lib.hid (show MapOk (((wc.drewN nq).setCell ⟨g, st * 2, none⟩ (.int .i64 j)).setCell ⟨g, st * 2 + 1, none⟩ (.int .i64 j)) m (restG sl ss) from
                        HMc.out.keep ((Below.heap_setCell _ _ _ _ (by show m ≠ g; omega)).trans (Below.heap_setCell _ _ _ _ (by show m ≠ g; omega))))
                      have HNd := Lib.hid (show RowI (((wc.drewN nq).setCell ⟨g, st * 2, none⟩ (.int .i64 j)).setCell ⟨g, st * 2 + 1, none⟩ (.int .i64 j)) gn (nowL sl f ss st) from
                        HNc.out.keep ((Below.heap_setCell _ _ _ _ (by show gn ≠ g; omega)).trans (Below.heap_setCell _ _ _ _ (by show gn ≠ g; omega))))
                      have HBd := Lib.hid (((show BelX (fun x => x = m ∨ x = g) w3.heap.size w3 (wc.drewN nq) from ⟨HBc.out.os, HBc.out.tape, HBc.out.output, HBc.out.size, HBc.out.block⟩).setCell (p := ⟨g, st * 2, none⟩) (.inl (.inr rfl)) (.int .i64 j)).setCell (p := ⟨g, st * 2 + 1, none⟩) (.inl (.inr rfl)) (.int .i64 j))
                      generalize ((wc.drewN nq).setCell ⟨g, st * 2, none⟩ (.int .i64 j)).setCell ⟨g, st * 2 + 1, none⟩ (.int .i64 j) = wd at *
                      clear a1 a2 z1 z2
                      obtain ⟨y1, y2⟩ := HRd.out.at (i := st) (by rw [List.length_set, rowP_length]; exact hstl)
                      rw [HSd.out] at y1 y2
                      have x1 := frozen_of_row _ _ (st * 2) _ _ HRd.out
                      have x2 := frozen_of_row _ _ (st * 2 + 1) _ _ HRd.out
                      go_still_tail 18, (by kernel_rfl)
                      go_wp2
                      have HRe := Lib.hid (show RowS ((wd.setCell ⟨g, st * 2, none⟩ (.int .i64 (j))).setCell ⟨g, st * 2 + 1, none⟩ (.int .i64 (j))) g (rowP sl ch ss pre f st (j + 1)) by
                        rw [← HEQ.out]; exact HRd.out.set (i := st) (by rw [List.length_set, rowP_length]; exact hstl) ((j : Int), (j : Int)))
                      have HMe := Lib.hid (show MapOk ((wd.setCell ⟨g, st * 2, none⟩ (.int .i64 (j))).setCell ⟨g, st * 2 + 1, none⟩ (.int .i64 (j))) m (restG sl ss) from
                        HMd.out.keep ((Below.heap_setCell _ _ _ _ (by show m ≠ g; omega)).trans (Below.heap_setCell _ _ _ _ (by show m ≠ g; omega))))
                      have HNe := Lib.hid (show RowI ((wd.setCell ⟨g, st * 2, none⟩ (.int .i64 (j))).setCell ⟨g, st * 2 + 1, none⟩ (.int .i64 (j))) gn (nowL sl f ss st) from
                        HNd.out.keep ((Below.heap_setCell _ _ _ _ (by show gn ≠ g; omega)).trans (Below.heap_setCell _ _ _ _ (by show gn ≠ g; omega))))
                      have HBe := Lib.hid ((HBd.out.setCell (p := ⟨g, st * 2, none⟩) (.inl (.inr rfl)) (.int .i64 (j))).setCell (p := ⟨g, st * 2 + 1, none⟩) (.inl (.inr rfl)) (.int .i64 (j)))
                      go_roundw
                      case rel => exact ⟨j + 1, by omega, by go_num, HNe, HRe, HMe, Lib.hid ⟨HBe.out.os, HBe.out.tape, HBe.out.output, HBe.out.size, HBe.out.block⟩⟩
                      case measure => simp [intOf]; omega
                    · have hab' : decide (A > B) = false := by simp; omega
                      have HEQ := Lib.hid (show (rowP sl ch ss pre f st j).set st (min A j, max B j) = rowP sl ch ss pre f st (j + 1) by
                        rw [← HSET.out, HAB.out]
                        have e : updF (A, B) j = (min A j, max B j) := if_neg hab
                        rw [e])
                      go_wp2
                      refine wp_region_quiet_lit (by kernel_rfl) (by kernel_rfl) ?_; (repeat (first | ((with_reducible apply wq_ix Tryz.underlying24 sz3); (focus rfl); (focus rfl); (focus rfl); (focus omega); (try simp only [Nat.mul_one]); go_frame) | ((with_reducible apply wq_ix Tryz.underlying37 sz50); (focus rfl); (focus rfl); (focus rfl); (focus omega); (try simp only [Nat.mul_one]); go_frame) | ((with_reducible apply wq_ix Tryz.underlying35 sz47); (focus rfl); (focus rfl); (focus rfl); (focus omega); (try simp only [Nat.mul_one]); go_frame) | ((with_reducible apply wq_ix Tryz.underlying90 sz24); (focus rfl); (focus rfl); (focus rfl); (focus omega); (try simp only [Nat.mul_one]); go_frame) | ((with_reducible apply wq_ld ag3); (focus rfl); (focus rfl); (focus (rintro _ ⟨_, rfl⟩; first | exact a1 | exact a2)); go_frame) | ((with_reducible apply wq_ld ag24); (focus rfl); (focus rfl); (focus (rintro _ ⟨_, rfl⟩; first | exact a1 | exact a2)); go_frame) | ((with_reducible apply wq_ld ag37); (focus rfl); (focus rfl); (focus (rintro _ ⟨_, rfl⟩; first | exact a1 | exact a2)); go_frame) | ((with_reducible apply wq_ld ag90); (focus rfl); (focus rfl); (focus (rintro _ ⟨_, rfl⟩; first | exact a1 | exact a2)); go_frame) | ((with_reducible apply wq_ld ag35); (focus rfl); (focus rfl); (focus (rintro _ ⟨_, rfl⟩; first | exact a1 | exact a2)); go_frame) | ((with_reducible apply wq_add); (focus rfl); (focus rfl); (focus rfl); (focus omega); (focus omega); go_frame) | ((with_reducible apply wq_sub); (focus rfl); (focus rfl); (focus rfl); (focus omega); (focus omega); go_frame) | ((with_reducible apply wq_mul); (focus rfl); (focus rfl); (focus rfl); (focus omega); (focus omega); go_frame) | ((with_reducible apply wq_rem); (focus rfl); (focus rfl); (focus rfl); (focus omega); (focus omega); go_frame) | ((with_reducible apply wq_eql); (focus rfl); (focus rfl); (focus rfl); go_frame) | ((with_reducible apply wq_neq); (focus rfl); (focus rfl); (focus rfl); go_frame) | ((with_reducible apply wq_lss); (focus rfl); (focus rfl); (focus rfl); go_frame) | ((with_reducible apply wq_leq); (focus rfl); (focus rfl); (focus rfl); go_frame) | ((with_reducible apply wq_gtr); (focus rfl); (focus rfl); (focus rfl); go_frame) | ((with_reducible apply wq_geq); (focus rfl); (focus rfl); (focus rfl); go_frame) | ((with_reducible apply wq_max2); (focus rfl); (focus rfl); (focus rfl); go_frame) | ((with_reducible apply wq_min2); (focus rfl); (focus rfl); (focus rfl); go_frame) | ((with_reducible apply wq_max3); (focus rfl); (focus rfl); (focus rfl); (focus rfl); go_frame) | ((with_reducible apply wq_min3); (focus rfl); (focus rfl); (focus rfl); (focus rfl); go_frame) | go_big_quiet_step (fail))); refine wpQuiet_nil ?_; rintro _ ⟨nq, rfl⟩
                      go_wp2
                      have HRd := Lib.hid (show RowS (wc.drewN nq) g (rowP sl ch ss pre f st j) from HRc.out)
                      have HSd := HAB
                      have HMd := Lib.hid (show MapOk (wc.drewN nq) m (restG sl ss) from HMc.out.keep rfl)
                      have HNd := Lib.hid (show RowI (wc.drewN nq) gn (nowL sl f ss st) from HNc.out.keep rfl)
                      have HBd := Lib.hid (show BelX (fun x => x = m ∨ x = g) w3.heap.size w3 (wc.drewN nq) from ⟨HBc.out.os, HBc.out.tape, HBc.out.output, HBc.out.size, HBc.out.block⟩)
                      generalize wc.drewN nq = wd at *
                      clear a1 a2 z1 z2
                      obtain ⟨y1, y2⟩ := HRd.out.at (i := st) (by rw [rowP_length]; exact hstl)
                      rw [HSd.out] at y1 y2
                      have x1 := frozen_of_row _ _ (st * 2) _ _ HRd.out
                      have x2 := frozen_of_row _ _ (st * 2 + 1) _ _ HRd.out
                      go_still_tail 18, (by kernel_rfl)
                      go_wp2
                      have HRe := Lib.hid (show RowS ((wd.setCell ⟨g, st * 2, none⟩ (.int .i64 (min A j))).setCell ⟨g, st * 2 + 1, none⟩ (.int .i64 (max B j))) g (rowP sl ch ss pre f st (j + 1)) by
                        rw [← HEQ.out]; exact HRd.out.set (i := st) (by rw [rowP_length]; exact hstl) (min A j, max B j))
                      have HMe := Lib.hid (show MapOk ((wd.setCell ⟨g, st * 2, none⟩ (.int .i64 (min A j))).setCell ⟨g, st * 2 + 1, none⟩ (.int .i64 (max B j))) m (restG sl ss) from
                        HMd.out.keep ((Below.heap_setCell _ _ _ _ (by show m ≠ g; omega)).trans (Below.heap_setCell _ _ _ _ (by show m ≠ g; omega))))
                      have HNe := Lib.hid (show RowI ((wd.setCell ⟨g, st * 2, none⟩ (.int .i64 (min A j))).setCell ⟨g, st * 2 + 1, none⟩ (.int .i64 (max B j))) gn (nowL sl f ss st) from
                        HNd.out.keep ((Below.heap_setCell _ _ _ _ (by show gn ≠ g; omega)).trans (Below.heap_setCell _ _ _ _ (by show gn ≠ g; omega))))
                      have HBe := Lib.hid ((HBd.out.setCell (p := ⟨g, st * 2, none⟩) (.inl (.inr rfl)) (.int .i64 (min A j))).setCell (p := ⟨g, st * 2 + 1, none⟩) (.inl (.inr rfl)) (.int .i64 (max B j)))
                      go_roundw
                      case rel => exact ⟨j + 1, by omega, by go_num, HNe, HRe, HMe, Lib.hid ⟨HBe.out.os, HBe.out.tape, HBe.out.output, HBe.out.size, HBe.out.block⟩⟩
                      case measure => simp [intOf]; omega
            · obtain rfl : j = 31 := by omega
              have hjI : decide ((31 : Int) < 31) = false := by simp
              have carry : ∀ {pp : Addr} {v : Value}, pp.block ≠ m → pp.block ≠ g → w3.cell? pp = some v → wr.cell? pp = some v := fun {pp} {v} h1 h2 hc => (HB.out.cell (lt_of_cellq hc) (by show ¬ (pp.block = m ∨ pp.block = g); omega)).trans hc
              have j4 := carry (by show w1.heap.size ≠ m; omega) (by show w1.heap.size ≠ g; omega) c0
              have j5 := carry (by show w1.heap.size ≠ m; omega) (by show w1.heap.size ≠ g; omega) c1
              have j6 := carry (by show w1.heap.size ≠ m; omega) (by show w1.heap.size ≠ g; omega) c2
              have j7 := carry (by show w1.heap.size ≠ m; omega) (by show w1.heap.size ≠ g; omega) c3
              have j8 := carry (by show w1.heap.size ≠ m; omega) (by show w1.heap.size ≠ g; omega) c4
              have j9 := carry (by show w1.heap.size ≠ m; omega) (by show w1.heap.size ≠ g; omega) c5
              have hx7 : RdS wr (some ⟨b, off, none⟩) ss := (HX.out.below HB3.out).keep HB.out (fun a ha => by cases ha; exact ⟨by show b < w3.heap.size; omega, by show ¬ (b = m ∨ b = g); omega⟩)
              have hst1 : IntKind.i64.wrap ((st : Int) + 1) = (st : Int) + 1 := w64 _ (by omega) (by omega)
              rw [rowP_next] at HR
              clear carry
              by_cases hlast : st + 1 < ss.length
              · have hlast' : decide ((st : Int) + 1 < (ss.length : Int)) = true := by simp; omega
                have h137 := c137 lo hi sl ch (some ⟨b, off, none⟩) cap m ss hlen HSL.out HSP.out st hlast (some ⟨gn, 0, none⟩) 31 (fun h => nowF sl f ss st h) (fun x => nowF_range sl f ss st x) wr hx7 HN.out.rd
                clear hx7
                go_wp2_with fail
                refine h137.mono ?_
                rintro e wn ⟨gm, rfl, hgm, hrow, hbn⟩
                have HN' := Lib.hid (show RowI wn gm (nowL sl f ss (st + 1)) from hrow)
                have HR' := Lib.hid (show RowS wn g (rowP sl ch ss pre f (st + 1) 0) from (hbn.block g (block_lt HR.out)).trans HR.out)
                have HM' := Lib.hid (HM.out.below hbn)
                have HB' := Lib.hid (HB.out.trans ((belX_of hbn).mono HB.out.size))
                have hgm' : w3.heap.size ≤ gm := by have := HB.out.size; omega
                clear h137 hrow hbn j4 j5 j6 j7 j8 j9
                go_wp2
                go_roundw
                case rel => exact ⟨st + 1, gm, by omega, by go_num, rfl, hgm', fun _ => HN', HR', HM', HB'⟩
                case measure => simp [intOf]; omega
              · have hlast' : decide ((st : Int) + 1 < (ss.length : Int)) = false := by simp; omega
                clear hx7 j4 j5 j6 j7 j8 j9
                go_wp2
                go_roundw
                case rel => exact ⟨st + 1, gn, by omega, by go_num, rfl, hgn, fun h => absurd h hlast, HR, HM, HB⟩
                case measure => simp [intOf]; omega
        · obtain rfl : st = ss.length := by omega
          have hstI : decide ((ss.length : Int) < (ss.length : Int)) = false := by simp
          have hfw : IntKind.i64.wrap ((f : Int) + 1) = (f : Int) + 1 := w64 _ (by omega) (by omega)
          go_wp2
          go_roundw
          case rel => exact ⟨k + 1, by omega, by have := HF.out; congr 1; omega, Lib.hid (by rw [HPRE.out, ← rowP_end sl ch ss pre f 0]; exact HR6.out), HM6, HB6⟩
          case measure => simp [intOf]; omega
    · obtain rfl : k = (U - L + 1).toNat := by omega
      have hgt : decide (L + (((U - L + 1).toNat : Nat) : Int) ≤ U) = false := by simp; omega
      have d2' := (HB.out.cell (lt_of_cellq d2) (by show ¬ (b = m ∨ b = g); omega)).trans d2
      have HRF := Lib.hid (show RowS wr g (boundL sl ch ss) by
        rw [← rowB_all, HLU.out, ← List.take_of_length_le (l := rng L U) (i := (U - L + 1).toNat) (by rw [rng_length]; omega)]; exact HR.out)
      obtain ⟨a1, a2⟩ := HRF.out.at (i := 0) (by simp [boundL]; omega)
      simp only [Nat.zero_mul, Nat.zero_add] at a1 a2
      have hnl : (0 : Int) < (ss.length : Int) := by omega
      have HBW := Lib.hid (show Below w.heap.size w wr from ⟨HB.out.os.trans (HB3.out.os.trans HB0.out.os), HB.out.tape.trans (HB3.out.tape.trans HB0.out.tape), HB.out.output.trans (HB3.out.output.trans HB0.out.output), by have := HB.out.size; omega, fun x hx => (HB.out.block x (by omega) (by show ¬ (x = m ∨ x = g); omega)).trans ((HB3.out.block x (by omega)).trans (HB0.out.block x hx))⟩)
      obtain ⟨A, hA⟩ : ∃ A, (spn (boundL sl ch ss) 0).1 = A := ⟨_, rfl⟩
      obtain ⟨B, hB'⟩ : ∃ B, (spn (boundL sl ch ss) 0).2 = B := ⟨_, rfl⟩
      rw [hA] at a1
      rw [hB'] at a2
      have HA := Lib.hid hA
      have HBB := Lib.hid hB'
      clear hA hB' HR
      by_cases hab : A > B
      · have hab' : decide (A > B) = true := by simp; omega
        go_wp2
        refine wp_region_quiet_lit (by kernel_rfl) (by kernel_rfl) ?_; (repeat (first | ((with_reducible apply wq_ix Tryz.underlying24 sz3); (focus rfl); (focus rfl); (focus rfl); (focus omega); (try simp only [Nat.mul_one]); go_frame) | ((with_reducible apply wq_ix Tryz.underlying37 sz50); (focus rfl); (focus rfl); (focus rfl); (focus omega); (try simp only [Nat.mul_one]); go_frame) | ((with_reducible apply wq_ix Tryz.underlying35 sz47); (focus rfl); (focus rfl); (focus rfl); (focus omega); (try simp only [Nat.mul_one]); go_frame) | ((with_reducible apply wq_ix Tryz.underlying90 sz24); (focus rfl); (focus rfl); (focus rfl); (focus omega); (try simp only [Nat.mul_one]); go_frame) | ((with_reducible apply wq_ld ag3); (focus rfl); (focus rfl); (focus (rintro _ ⟨_, rfl⟩; first | exact a1 | exact a2)); go_frame) | ((with_reducible apply wq_ld ag24); (focus rfl); (focus rfl); (focus (rintro _ ⟨_, rfl⟩; first | exact a1 | exact a2)); go_frame) | ((with_reducible apply wq_ld ag37); (focus rfl); (focus rfl); (focus (rintro _ ⟨_, rfl⟩; first | exact a1 | exact a2)); go_frame) | ((with_reducible apply wq_ld ag90); (focus rfl); (focus rfl); (focus (rintro _ ⟨_, rfl⟩; first | exact a1 | exact a2)); go_frame) | ((with_reducible apply wq_ld ag35); (focus rfl); (focus rfl); (focus (rintro _ ⟨_, rfl⟩; first | exact a1 | exact a2)); go_frame) | ((with_reducible apply wq_add); (focus rfl); (focus rfl); (focus rfl); (focus omega); (focus omega); go_frame) | ((with_reducible apply wq_sub); (focus rfl); (focus rfl); (focus rfl); (focus omega); (focus omega); go_frame) | ((with_reducible apply wq_mul); (focus rfl); (focus rfl); (focus rfl); (focus omega); (focus omega); go_frame) | ((with_reducible apply wq_rem); (focus rfl); (focus rfl); (focus rfl); (focus omega); (focus omega); go_frame) | ((with_reducible apply wq_eql); (focus rfl); (focus rfl); (focus rfl); go_frame) | ((with_reducible apply wq_neq); (focus rfl); (focus rfl); (focus rfl); go_frame) | ((with_reducible apply wq_lss); (focus rfl); (focus rfl); (focus rfl); go_frame) | ((with_reducible apply wq_leq); (focus rfl); (focus rfl); (focus rfl); go_frame) | ((with_reducible apply wq_gtr); (focus rfl); (focus rfl); (focus rfl); go_frame) | ((with_reducible apply wq_geq); (focus rfl); (focus rfl); (focus rfl); go_frame) | ((with_reducible apply wq_max2); (focus rfl); (focus rfl); (focus rfl); go_frame) | ((with_reducible apply wq_min2); (focus rfl); (focus rfl); (focus rfl); go_frame) | ((with_reducible apply wq_max3); (focus rfl); (focus rfl); (focus rfl); (focus rfl); go_frame) | ((with_reducible apply wq_min3); (focus rfl); (focus rfl); (focus rfl); (focus rfl); go_frame) | go_big_quiet_step (fail))); refine wpQuiet_nil ?_; rintro _ ⟨nq, rfl⟩
        go_wp2
        refine ⟨rfl, ⟨.inr ⟨by rw [HA.out, HBB.out]; exact hab, rfl⟩, below_drewN HBW.out _⟩⟩
      · have hab' : decide (A > B) = false := by simp; omega
        go_wp2
        refine wp_region_quiet_lit (by kernel_rfl) (by kernel_rfl) ?_; (repeat (first | ((with_reducible apply wq_ix Tryz.underlying24 sz3); (focus rfl); (focus rfl); (focus rfl); (focus omega); (try simp only [Nat.mul_one]); go_frame) | ((with_reducible apply wq_ix Tryz.underlying37 sz50); (focus rfl); (focus rfl); (focus rfl); (focus omega); (try simp only [Nat.mul_one]); go_frame) | ((with_reducible apply wq_ix Tryz.underlying35 sz47); (focus rfl); (focus rfl); (focus rfl); (focus omega); (try simp only [Nat.mul_one]); go_frame) | ((with_reducible apply wq_ix Tryz.underlying90 sz24); (focus rfl); (focus rfl); (focus rfl); (focus omega); (try simp only [Nat.mul_one]); go_frame) | ((with_reducible apply wq_ld ag3); (focus rfl); (focus rfl); (focus (rintro _ ⟨_, rfl⟩; first | exact a1 | exact a2)); go_frame) | ((with_reducible apply wq_ld ag24); (focus rfl); (focus rfl); (focus (rintro _ ⟨_, rfl⟩; first | exact a1 | exact a2)); go_frame) | ((with_reducible apply wq_ld ag37); (focus rfl); (focus rfl); (focus (rintro _ ⟨_, rfl⟩; first | exact a1 | exact a2)); go_frame) | ((with_reducible apply wq_ld ag90); (focus rfl); (focus rfl); (focus (rintro _ ⟨_, rfl⟩; first | exact a1 | exact a2)); go_frame) | ((with_reducible apply wq_ld ag35); (focus rfl); (focus rfl); (focus (rintro _ ⟨_, rfl⟩; first | exact a1 | exact a2)); go_frame) | ((with_reducible apply wq_add); (focus rfl); (focus rfl); (focus rfl); (focus omega); (focus omega); go_frame) | ((with_reducible apply wq_sub); (focus rfl); (focus rfl); (focus rfl); (focus omega); (focus omega); go_frame) | ((with_reducible apply wq_mul); (focus rfl); (focus rfl); (focus rfl); (focus omega); (focus omega); go_frame) | ((with_reducible apply wq_rem); (focus rfl); (focus rfl); (focus rfl); (focus omega); (focus omega); go_frame) | ((with_reducible apply wq_eql); (focus rfl); (focus rfl); (focus rfl); go_frame) | ((with_reducible apply wq_neq); (focus rfl); (focus rfl); (focus rfl); go_frame) | ((with_reducible apply wq_lss); (focus rfl); (focus rfl); (focus rfl); go_frame) | ((with_reducible apply wq_leq); (focus rfl); (focus rfl); (focus rfl); go_frame) | ((with_reducible apply wq_gtr); (focus rfl); (focus rfl); (focus rfl); go_frame) | ((with_reducible apply wq_geq); (focus rfl); (focus rfl); (focus rfl); go_frame) | ((with_reducible apply wq_max2); (focus rfl); (focus rfl); (focus rfl); go_frame) | ((with_reducible apply wq_min2); (focus rfl); (focus rfl); (focus rfl); go_frame) | ((with_reducible apply wq_max3); (focus rfl); (focus rfl); (focus rfl); (focus rfl); go_frame) | ((with_reducible apply wq_min3); (focus rfl); (focus rfl); (focus rfl); (focus rfl); go_frame) | go_big_quiet_step (fail))); refine wpQuiet_nil ?_; rintro _ ⟨nq, rfl⟩
        go_wp2
        go_ret
        exact ⟨.inl ⟨by rw [HA.out, HBB.out]; omega, g, rfl, by omega, HRF.out⟩, below_drewN HBW.out _⟩
end Go.Proofs.YtncfgkhbenmpoaaGreatDoor
end

section
namespace Go.Proofs.YtncfgkhbenmpoaaGreatDoor
open Go Go.RowKit Go.Proofs Go.Shelf
set_option linter.unusedVariables false

theorem as151 (v : Value) (w : World) : (Instr.typeAssert (.iface 151 v) 20 151 true).run Tryz.prog w = .ok (.tuple #[v, .bool true]) w := by kernel_rfl
theorem replicate13 : Array.replicate 13 undef = #[undef, undef, undef, undef, undef, undef, undef, undef, undef, undef, undef, undef, undef] := by rfl

set_option maxRecDepth 100000 in
set_option maxHeartbeats 1000000 in
theorem catch_against (p : Addr) (v0 : Value) (x : Int) (older : List PanicEntry) (w : World) (hc : w.cell? p = some v0) (hz : w.frozen? p = false) :
    CallsD Tryz.prog 134 #[.pointer (some p)] (.panicking ({ v := .iface 151 (.agg #[.int .i64 x]), recovered := false } :: older)) w fun e u' w' =>
      e = .returned (.tuple #[]) ∧ u' = .panicking ({ v := .iface 151 (.agg #[.int .i64 x]), recovered := true } :: older) ∧ w' = (w.alloc (.cells #[.int .i64 x] 151)).setCell p (.int .i64 7) := by
  have hlt := lt_of_cellq hc
  have hne : p.block ≠ w.heap.size := by omega
  have ha := as151 (.agg #[.int .i64 x]) w
  have hc2 := ((below_alloc1 w (.cells #[.int .i64 x] 151)).cell hlt).trans hc
  have hz2 := ((below_alloc1 w (.cells #[.int .i64 x] 151)).frozen hlt).trans hz
  refine callsD_of_wpS Tryz.func134 rfl fun c₀ cs hu => ?_
  apply wpS_seq
  apply wpS_region
  simp [wpOpsS, go_sem, recoverD, hu, Tryz.ntmps134, Exit.thenS, replicate13]
  refine wpS_of_wp ?_
  go_wp2
  simp [bodyPostS, results, Tryz.results134]
set_option maxRecDepth 100000 in
theorem catch_idle (p : Addr) (w : World) :
    CallsD Tryz.prog 134 #[.pointer (some p)] .returning w fun e u' w' => e = .returned (.tuple #[]) ∧ u' = .returning ∧ w' = w := by
  refine callsD_of_wpS Tryz.func134 rfl fun c₀ cs hu => ?_
  apply wpS_seq
  apply wpS_region
  simp [wpOpsS, go_sem, recoverD, hu, Tryz.ntmps134, Exit.thenS, replicate13]
  refine wpS_of_wp ?_
  go_wp2
  cases c₀
  simp_all [bodyPostS, results, Tryz.results134]
end Go.Proofs.YtncfgkhbenmpoaaGreatDoor
end

section
namespace Go.Proofs.YtncfgkhbenmpoaaGreatDoor
open Go Go.RowKit Go.Proofs Go.Shelf
set_option linter.unusedVariables false

/-- whether there are spans to tell -/
def KnownOk (lo hi sl ch : Int) (n : Nat) (gs : List Gau) : Prop := GaOk lo hi n gs gs.length ∧ (spn (boundL sl ch (gaTo lo hi n gs gs.length)) 0).1 ≤ (spn (boundL sl ch (gaTo lo hi n gs gs.length)) 0).2
theorem ga_sp {lo hi sl ch : Int} {n : Nat} {gs : List Gau} (hr : ruleB lo hi sl ch = true) (hg : gausB n gs = true) : SpOk (gaTo lo hi n gs gs.length) := by
  unfold ruleB inB at hr
  simp only [Bool.and_eq_true, decide_eq_true_eq] at hr
  intro i hi'
  rw [gaTo_length] at hi'
  have := gaTo_range lo hi n gs (by omega) (by omega) hg gs.length (Nat.le_refl _) i hi'
  rw [gs_spn]; omega

def Inner (lo hi sl ch : Int) (n : Nat) (gs : List Gau) (Bo : Nat) (w : World) (e : Ending) (w' : World) : Prop :=
  ((KnownOk lo hi sl ch n gs ∧ e = .returned (.tuple #[]) ∧ ∃ g, w'.cell? ⟨Bo, 0, none⟩ = some (.slice (some ⟨g, 0, none⟩) n n) ∧ w.heap.size ≤ g ∧ RowS w' g (boundL sl ch (gaTo lo hi n gs gs.length))) ∨
   (¬ KnownOk lo hi sl ch n gs ∧ ∃ x, e = .panicked [{ v := .iface 151 (.agg #[.int .i64 x]), recovered := false }])) ∧ BelX (fun k => k = Bo) w.heap.size w w'

set_option maxRecDepth 100000 in
set_option maxHeartbeats 2000000 in
theorem c95 (lo hi sl ch : Int) (p : Option Addr) (cap : Nat) (n : Nat) (gs : List Gau) (Br Bn Bg Bo : Nat) (w : World) (hr : ruleB lo hi sl ch = true) (hn : 3 ≤ n ∧ n ≤ 24) (hx : RdG w p gs) (hl : gs.length ≤ 1000) (hg : gausB n gs = true)
    (k0 : w.cell? ⟨Br, 0, none⟩ = some (.int .i64 lo)) (k1 : w.cell? ⟨Br, 1, none⟩ = some (.int .i64 hi)) (k2 : w.cell? ⟨Br, 2, none⟩ = some (.int .i64 sl)) (k3 : w.cell? ⟨Br, 3, none⟩ = some (.int .i64 ch))
    (kn : w.cell? ⟨Bn, 0, none⟩ = some (.int .i64 n)) (kg : w.cell? ⟨Bg, 0, none⟩ = some (.slice p gs.length cap)) (v0 : Value) (ko : w.cell? ⟨Bo, 0, none⟩ = some v0) (fo : w.frozen? ⟨Bo, 0, none⟩ = false) :
    Calls Tryz.prog 95 #[.pointer (some ⟨Br, 0, none⟩), .pointer (some ⟨Bn, 0, none⟩), .pointer (some ⟨Bg, 0, none⟩), .pointer (some ⟨Bo, 0, none⟩)] w (Inner lo hi sl ch n gs Bo w) := by
  have h96 := c96 lo hi sl ch p cap n gs w hr hn hx hl hg
  have hbo := lt_of_cellq ko
  have HR := Lib.hid hr
  have HG := Lib.hid hg
  have HN := Lib.hid hn
  clear hr hn hx hg
  go_enter Tryz.func95, Tryz.ntmps95
  go_wp2_with fail
  refine h96.mono ?_
  rintro e w1 ⟨⟨hok, g, rfl, hgz, hrow⟩ | ⟨hno, x, rfl⟩, hb⟩
  · have k0 := (hb.cell (lt_of_cellq k0)).trans k0
    have k1 := (hb.cell (lt_of_cellq k1)).trans k1
    have k2 := (hb.cell (lt_of_cellq k2)).trans k2
    have k3 := (hb.cell (lt_of_cellq k3)).trans k3
    have ko := (hb.cell hbo).trans ko
    have fo := (hb.frozen hbo).trans fo
    have hru := HR.out
    unfold ruleB inB at hru
    simp only [Bool.and_eq_true, decide_eq_true_eq] at hru
    have h97 := c97 lo hi sl ch (some ⟨g, 0, none⟩) n (gaTo lo hi n gs gs.length) (by rw [gaTo_length]; have := HN.out; omega) (by rw [gaTo_length]; have := HN.out; omega) (by omega) (by omega) (ga_sp HR.out HG.out) w1 (RowS.rd hrow)
    rw [gaTo_length] at h97
    have HB := Lib.hid hb
    clear h96 hrow hb hru
    go_wp2_with fail
    refine h97.mono ?_
    rintro e w2 ⟨⟨hle, g2, rfl, hgz2, hrow2⟩ | ⟨hgt, rfl⟩, hb2⟩
    · rw [gaTo_length]
      have hb1 := HB.out.size
      have ko := (hb2.cell (lt_of_cellq ko)).trans ko
      have fo := (hb2.frozen (p := ⟨Bo, 0, none⟩) (by show Bo < w1.heap.size; have : Bo < w.heap.size := hbo; omega)).trans fo
      have HRR := Lib.hid hrow2
      have HB2 := Lib.hid (HB.out.trans (hb2.mono hb1))
      have HOK := Lib.hid (show KnownOk lo hi sl ch n gs from ⟨hok, hle⟩)
      have hbo' : Bo < w.heap.size := hbo
      clear h97 hrow2 hb2 hle hok
      go_wp2
      refine bodyPost_ret (results_none rfl _ _ _) rfl ?_
      refine ⟨.inl ⟨HOK.out, rfl, g2, World.cell?_setCell_same' _ _ _ (by rw [ko]; rfl), by omega, ?_⟩, BelX.setCell (X := fun k => k = Bo) (belX_of HB2.out) (p := ⟨Bo, 0, none⟩) (.inl rfl) _⟩
      exact (show _ = w2.heap[g2]? from Below.heap_setCell _ _ _ _ (by show g2 ≠ Bo; omega)).trans HRR.out
    · go_wp2
      refine ⟨rfl, .inr ⟨fun h => by have := h.2; omega, 0, rfl⟩, belX_of (HB.out.trans (hb2.mono HB.out.size))⟩
  · go_wp2
    refine ⟨rfl, .inr ⟨fun h => hno h.1, x, rfl⟩, belX_of hb⟩

def Tried (lo hi sl ch : Int) (n : Nat) (gs : List Gau) (Bo : Nat) (w : World) (e : Ending) (w' : World) : Prop :=
  ((KnownOk lo hi sl ch n gs ∧ e = .returned (.int .i64 0) ∧ ∃ g, w'.cell? ⟨Bo, 0, none⟩ = some (.slice (some ⟨g, 0, none⟩) n n) ∧ w.heap.size ≤ g ∧ RowS w' g (boundL sl ch (gaTo lo hi n gs gs.length))) ∨
   (¬ KnownOk lo hi sl ch n gs ∧ e = .returned (.int .i64 7))) ∧ BelX (fun k => k = Bo) w.heap.size w w'

set_option maxRecDepth 100000 in
set_option maxHeartbeats 2000000 in
theorem c94 (lo hi sl ch : Int) (p : Option Addr) (cap : Nat) (n : Nat) (gs : List Gau) (Br Bn Bg Bo : Nat) (w : World) (hr : ruleB lo hi sl ch = true) (hn : 3 ≤ n ∧ n ≤ 24) (hx : RdG w p gs) (hl : gs.length ≤ 1000) (hg : gausB n gs = true)
    (k0 : w.cell? ⟨Br, 0, none⟩ = some (.int .i64 lo)) (k1 : w.cell? ⟨Br, 1, none⟩ = some (.int .i64 hi)) (k2 : w.cell? ⟨Br, 2, none⟩ = some (.int .i64 sl)) (k3 : w.cell? ⟨Br, 3, none⟩ = some (.int .i64 ch))
    (kn : w.cell? ⟨Bn, 0, none⟩ = some (.int .i64 n)) (kg : w.cell? ⟨Bg, 0, none⟩ = some (.slice p gs.length cap)) (v0 : Value) (ko : w.cell? ⟨Bo, 0, none⟩ = some v0) (fo : w.frozen? ⟨Bo, 0, none⟩ = false) :
    Calls Tryz.prog 94 #[.func (.func 95) #[] #[.pointer (some ⟨Br, 0, none⟩), .pointer (some ⟨Bn, 0, none⟩), .pointer (some ⟨Bg, 0, none⟩), .pointer (some ⟨Bo, 0, none⟩)]] w (Tried lo hi sl ch n gs Bo w) := by
  have hmf : ∀ (fn : Fn) (first cap : Array Value) (w : World), (Instr.makeFunc fn first cap).run Tryz.prog w = .ok (.func fn first cap) w := fun _ _ _ _ => rfl
  obtain ⟨w0, e0, HS0, t0, F0, b0⟩ := box1 w (.int .i64 0) 27
  have hbo : Bo < w.heap.size := lt_of_cellq ko
  have h95 := c95 lo hi sl ch p cap n gs Br Bn Bg Bo w0 hr hn (hx.below b0) hl hg ((b0.cell (lt_of_cellq k0)).trans k0) ((b0.cell (lt_of_cellq k1)).trans k1) ((b0.cell (lt_of_cellq k2)).trans k2) ((b0.cell (lt_of_cellq k3)).trans k3) ((b0.cell (lt_of_cellq kn)).trans kn) ((b0.cell (lt_of_cellq kg)).trans kg) v0 ((b0.cell (lt_of_cellq ko)).trans ko) ((b0.frozen (p := ⟨Bo, 0, none⟩) hbo).trans fo)
  have hs0 := HS0.out
  clear hr hn hx hg k0 k1 k2 k3 kn kg ko fo
  have H0 := HS0
  clear hs0
  go_enter_defers Tryz.func94, Tryz.ntmps94
  go_wp2_with fail
  refine h95.mono ?_
  rintro e w1 ⟨⟨hok, rfl, g, hcell, hgz, hrow⟩ | ⟨hno, x, rfl⟩, hb⟩
  · have hs0 := HS0.out
    have t1 := (hb.cell (lt_of_cellq t0) (by show ¬ (w.heap.size = Bo); omega)).trans t0
    have f1 := (hb.frozen (p := ⟨w.heap.size, 0, none⟩) (lt_of_cellq t0) (by show ¬ (w.heap.size = Bo); omega)).trans F0.out
    clear hs0
    go_wp2
    have hs := HS0.out
    have hB : BelX (fun k => k = Bo) w.heap.size w (w1.setCell ⟨w.heap.size, 0, none⟩ (.int .i64 0)) :=
      ((belX_of b0).trans (hb.mono (by omega))).setCell (p := ⟨w.heap.size, 0, none⟩) (.inr (Nat.le_refl _)) _
    have hc1 : (w1.setCell ⟨w.heap.size, 0, none⟩ (.int .i64 0)).cell? ⟨w.heap.size, 0, none⟩ = some (.int .i64 0) := World.cell?_setCell_same' _ _ _ (by rw [t1]; rfl)
    have hc2 : (w1.setCell ⟨w.heap.size, 0, none⟩ (.int .i64 0)).cell? ⟨Bo, 0, none⟩ = some (.slice (some ⟨g, 0, none⟩) n n) := (World.cell?_of_block (w := w1) (Below.heap_setCell _ _ _ _ (by show Bo ≠ w.heap.size; omega))).trans hcell
    have hc3 : RowS (w1.setCell ⟨w.heap.size, 0, none⟩ (.int .i64 0)) g (boundL sl ch (gaTo lo hi n gs gs.length)) := (show _ = w1.heap[g]? from Below.heap_setCell _ _ _ _ (by show g ≠ w.heap.size; omega)).trans hrow
    refine leaves_cons (f := 134) (args := #[.pointer (some ⟨w.heap.size, 0, none⟩)]) (by simp) (by simp [go_sem]) ?_
    refine (catch_idle ⟨w.heap.size, 0, none⟩ _).mono ?_
    rintro e u' w'' ⟨rfl, rfl, rfl⟩
    simp [Leaves, settle, results, Tryz.results94, go_sem, hc1]
    exact ⟨.inl ⟨hok, rfl, g, hc2, by omega, hc3⟩, hB⟩
  · have hs0 := HS0.out
    have t1 := (hb.cell (lt_of_cellq t0) (by show ¬ (w.heap.size = Bo); omega)).trans t0
    have f1 := (hb.frozen (p := ⟨w.heap.size, 0, none⟩) (lt_of_cellq t0) (by show ¬ (w.heap.size = Bo); omega)).trans F0.out
    clear hs0
    go_wp2
    have hs := HS0.out
    have hB0 : BelX (fun k => k = Bo) w.heap.size w w1 := (belX_of b0).trans (hb.mono (by omega))
    have hW1 : w.heap.size < w1.heap.size := lt_of_cellq t1
    have hB : BelX (fun k => k = Bo) w.heap.size w ((w1.alloc (.cells #[.int .i64 x] 151)).setCell ⟨w.heap.size, 0, none⟩ (.int .i64 7)) :=
      (hB0.trans ((belX_of (below_alloc1 w1 _)).mono (by omega))).setCell (p := ⟨w.heap.size, 0, none⟩) (.inr (Nat.le_refl _)) _
    have hc1 : ((w1.alloc (.cells #[.int .i64 x] 151)).setCell ⟨w.heap.size, 0, none⟩ (.int .i64 7)).cell? ⟨w.heap.size, 0, none⟩ = some (.int .i64 7) := World.cell?_setCell_same' _ _ _ (by rw [((below_alloc1 w1 (.cells #[.int .i64 x] 151)).cell (lt_of_cellq t1)).trans t1]; rfl)
    refine leaves_cons (f := 134) (args := #[.pointer (some ⟨w.heap.size, 0, none⟩)]) (by simp) (by simp [go_sem]) ?_
    refine (catch_against ⟨w.heap.size, 0, none⟩ _ x [] _ t1 f1).mono ?_
    rintro e u' w'' ⟨rfl, rfl, rfl⟩
    simp [Leaves, settle, results, Tryz.results94, go_sem, hc1]
    exact ⟨.inr ⟨hno, rfl⟩, hB⟩
end Go.Proofs.YtncfgkhbenmpoaaGreatDoor
end

section
namespace Go.Proofs.YtncfgkhbenmpoaaGreatDoor
open Go Go.RowKit Go.Proofs Go.Shelf
set_option linter.unusedVariables false

def knownB (lo hi sl ch n : Int) (gs : List Gau) : Bool := ruleB lo hi sl ch && inB n 3 24 && decide (gs.length ≤ 8) && gausB n gs
def KnownPost (lo hi sl ch n : Int) (gs : List Gau) (w : World) (e : Ending) (w' : World) : Prop :=
  ((knownB lo hi sl ch n gs = false ∧ e = .returned (.tuple #[.slice none 0 0, .int .i64 2])) ∨
   (knownB lo hi sl ch n gs = true ∧ KnownOk lo hi sl ch n.toNat gs ∧ ∃ g, e = .returned (.tuple #[.slice (some ⟨g, 0, none⟩) n.toNat n.toNat, .int .i64 0]) ∧ w.heap.size ≤ g ∧ RowS w' g (boundL sl ch (gaTo lo hi n.toNat gs gs.length))) ∨
   (knownB lo hi sl ch n gs = true ∧ ¬ KnownOk lo hi sl ch n.toNat gs ∧ e = .returned (.tuple #[.slice none 0 0, .int .i64 7]))) ∧ Below w.heap.size w w'

set_option maxRecDepth 100000 in
set_option maxHeartbeats 2000000 in
theorem c32 (lo hi sl ch n : Int) (p : Option Addr) (cap : Nat) (gs : List Gau) (w : World) (hx : RdG w p gs) (hl : gs.length ≤ 1000000) :
    Calls Tryz.prog 32 #[.agg #[.int .i64 lo, .int .i64 hi, .int .i64 sl, .int .i64 ch], .int .i64 n, .slice p gs.length cap] w (KnownPost lo hi sl ch n gs w) := by
  obtain ⟨w0, e0, HS0, k0, k1, k2, k3, b0⟩ := box4 w (.int .i64 lo) (.int .i64 hi) (.int .i64 sl) (.int .i64 ch) 23
  obtain ⟨w1, e1, HS1, kn, _, b1⟩ := box1 w0 (.int .i64 n) 3
  obtain ⟨w2, e2, HS2, kg, _, b2⟩ := box1 w1 (.slice p gs.length cap) 35
  have b12 := b1.trans (b2.mono b1.size)
  have b02 := b0.trans (b12.mono b0.size)
  have k0 := (b12.cell (lt_of_cellq k0)).trans k0
  have k1 := (b12.cell (lt_of_cellq k1)).trans k1
  have k2 := (b12.cell (lt_of_cellq k2)).trans k2
  have k3 := (b12.cell (lt_of_cellq k3)).trans k3
  have kn := (b2.cell (lt_of_cellq kn)).trans kn
  have HX := Lib.hid (hx.below b02)
  have HB := Lib.hid b02
  have h82 := c82 lo hi sl ch w2
  clear hx b0 b1 b2 b12 b02
  cases h1 : ruleB lo hi sl ch
  · rw [h1] at h82
    have HN := Lib.hid (show knownB lo hi sl ch n gs = false by unfold knownB; rw [h1]; rfl)
    go_enter Tryz.func32, Tryz.ntmps32
    go_wp2_with fail
    refine h82.mono ?_
    rintro e w3 ⟨rfl, hb3⟩
    go_wp2
    refine bodyPost_ret (v := .tuple #[.slice none 0 0, .int .i64 2]) (by simp [results, Tryz.results32, go_sem]) rfl ?_
    exact ⟨.inl ⟨HN.out, rfl⟩, HB.out.trans (hb3.mono HB.out.size)⟩
  rw [h1] at h82
  cases h2 : inB n 3 24
  · have HN := Lib.hid (show knownB lo hi sl ch n gs = false by unfold knownB; rw [h1, h2]; rfl)
    have h90 := c90 n 3 24
    rw [h2] at h90
    go_enter Tryz.func32, Tryz.ntmps32
    go_wp2_with fail
    refine h82.mono ?_
    rintro e w3 ⟨rfl, hb3⟩
    have kn := (hb3.cell (lt_of_cellq kn)).trans kn
    go_wp2_with fail
    refine (h90 _).mono ?_
    rintro e w' ⟨rfl, rfl⟩
    go_wp2
    refine bodyPost_ret (v := .tuple #[.slice none 0 0, .int .i64 2]) (by simp [results, Tryz.results32, go_sem]) rfl ?_
    exact ⟨.inl ⟨HN.out, rfl⟩, HB.out.trans (hb3.mono HB.out.size)⟩
  have h90 := c90 n 3 24
  rw [h2] at h90
  have hn := h2
  unfold inB at hn
  simp only [Bool.and_eq_true, decide_eq_true_eq] at hn
  obtain ⟨hn3, hn24⟩ := hn
  by_cases h3 : gs.length ≤ 8
  rotate_left
  · have HN := Lib.hid (show knownB lo hi sl ch n gs = false by unfold knownB; rw [h1, h2, decide_eq_false h3]; rfl)
    have h3' : decide ((gs.length : Int) > 8) = true := by simp; omega
    go_enter Tryz.func32, Tryz.ntmps32
    go_wp2_with fail
    refine h82.mono ?_
    rintro e w3 ⟨rfl, hb3⟩
    have kn := (hb3.cell (lt_of_cellq kn)).trans kn
    have kg := (hb3.cell (lt_of_cellq kg)).trans kg
    go_wp2_with fail
    refine (h90 _).mono ?_
    rintro e w' ⟨rfl, rfl⟩
    go_wp2
    refine bodyPost_ret (v := .tuple #[.slice none 0 0, .int .i64 2]) (by simp [results, Tryz.results32, go_sem]) rfl ?_
    exact ⟨.inl ⟨HN.out, rfl⟩, HB.out.trans (hb3.mono HB.out.size)⟩
  have h3' : decide ((gs.length : Int) > 8) = false := by simp; omega
  have hmf : ∀ (fn : Fn) (first cap : Array Value) (w : World), (Instr.makeFunc fn first cap).run Tryz.prog w = .ok (.func fn first cap) w := fun _ _ _ _ => rfl
  go_enter Tryz.func32, Tryz.ntmps32
  go_wp2_with fail
  refine h82.mono ?_
  rintro e w3 ⟨rfl, hb3⟩
  have kn := (hb3.cell (lt_of_cellq kn)).trans kn
  have kg := (hb3.cell (lt_of_cellq kg)).trans kg
  have k0 := (hb3.cell (lt_of_cellq k0)).trans k0
  have k1 := (hb3.cell (lt_of_cellq k1)).trans k1
  have k2 := (hb3.cell (lt_of_cellq k2)).trans k2
  have k3 := (hb3.cell (lt_of_cellq k3)).trans k3
  go_wp2_with fail
  refine (h90 _).mono ?_
  rintro e w' ⟨rfl, rfl⟩
  have h91 := c91 p cap gs w0.heap.size n w3 (HX.out.below hb3) hl kn (by omega)
  go_wp2_with fail
  refine h91.mono ?_
  rintro e w4 ⟨rfl, hb4⟩
  have HB4 := Lib.hid ((HB.out.trans (hb3.mono HB.out.size)).trans (hb4.mono (by have := HB.out.size; have := hb3.size; omega)))
  have kn := (hb4.cell (lt_of_cellq kn)).trans kn
  have kg := (hb4.cell (lt_of_cellq kg)).trans kg
  have k0 := (hb4.cell (lt_of_cellq k0)).trans k0
  have k1 := (hb4.cell (lt_of_cellq k1)).trans k1
  have k2 := (hb4.cell (lt_of_cellq k2)).trans k2
  have k3 := (hb4.cell (lt_of_cellq k3)).trans k3
  have HX4 := Lib.hid ((HX.out.below hb3).below hb4)
  clear h82 h90 h91 hb3 hb4 e0 e1 e2
  cases h4 : gausB n gs
  · have HN := Lib.hid (show knownB lo hi sl ch n gs = false by unfold knownB; rw [h1, h2, decide_eq_true h3, h4]; rfl)
    go_wp2
    refine bodyPost_ret (v := .tuple #[.slice none 0 0, .int .i64 2]) (by simp [results, Tryz.results32, go_sem]) rfl ?_
    exact ⟨.inl ⟨HN.out, rfl⟩, HB4.out⟩
  have HN := Lib.hid (show knownB lo hi sl ch n gs = true by unfold knownB; rw [h1, h2, decide_eq_true h3, h4]; rfl)
  obtain ⟨m, rfl⟩ : ∃ m : Nat, n = m := ⟨n.toNat, by omega⟩
  obtain ⟨w5, e5, HS5, ko, F5, b5⟩ := box1 w4 (.slice none 0 0) 37
  have h94 := c94 lo hi sl ch p cap m gs w.heap.size w0.heap.size w1.heap.size w4.heap.size w5 h1 (by omega) (HX4.out.below b5) (by omega) h4 ((b5.cell (lt_of_cellq k0)).trans k0) ((b5.cell (lt_of_cellq k1)).trans k1) ((b5.cell (lt_of_cellq k2)).trans k2) ((b5.cell (lt_of_cellq k3)).trans k3) ((b5.cell (lt_of_cellq kn)).trans kn) ((b5.cell (lt_of_cellq kg)).trans kg) _ ko F5.out
  have HB5 := Lib.hid b5
  clear k0 k1 k2 k3 kn kg b5 ko
  go_wp2_with fail
  refine h94.mono ?_
  rintro e w6 ⟨⟨hok, rfl, g, hcell, hgz, hrow⟩ | ⟨hno, rfl⟩, hb6⟩
  · have HR := Lib.hid hrow
    have HB6 := Lib.hid hb6
    clear hrow hb6 h94 e5
    go_wp2
    refine bodyPost_ret (v := .tuple #[.slice (some ⟨g, 0, none⟩) m m, .int .i64 0]) (by simp [results, Tryz.results32, go_sem]) rfl ?_
    have h5 := HS5.out
    have h40 := HB4.out.size
    refine ⟨.inr (.inl ⟨HN.out, by rw [Int.toNat_natCast]; exact hok, g, by rw [Int.toNat_natCast], by omega, by rw [Int.toNat_natCast]; exact HR.out⟩), ?_⟩
    have hb := (belX_of (X := fun k => k = w4.heap.size) (HB4.out.trans (HB5.out.mono h40))).trans (HB6.out.mono (by omega))
    exact ⟨hb.os, hb.tape, hb.output, hb.size, fun x hx => hb.block x hx (by show ¬ (x = w4.heap.size); omega)⟩
  · have HB6 := Lib.hid hb6
    clear hb6 h94 e5
    go_wp2
    refine bodyPost_ret (v := .tuple #[.slice none 0 0, .int .i64 7]) (by simp [results, Tryz.results32, go_sem]) rfl ?_
    have h5 := HS5.out
    have h40 := HB4.out.size
    refine ⟨.inr (.inr ⟨HN.out, by rw [Int.toNat_natCast]; exact hno, rfl⟩), ?_⟩
    have hb := (belX_of (X := fun k => k = w4.heap.size) (HB4.out.trans (HB5.out.mono h40))).trans (HB6.out.mono (by omega))
    exact ⟨hb.os, hb.tape, hb.output, hb.size, fun x hx => hb.block x hx (by show ¬ (x = w4.heap.size); omega)⟩
end Go.Proofs.YtncfgkhbenmpoaaGreatDoor
end
