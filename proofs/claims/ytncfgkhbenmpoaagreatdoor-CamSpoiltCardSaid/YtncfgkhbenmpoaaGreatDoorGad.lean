/-
  The law of checks (the walk): a book of which one digit was changed is never read.
-/
import Derived.Test.YtncfgkhbenmpoaaGreatDoorGac
import Derived.Laws.IdiomStrings
import Derived.Deep.Cut
section
namespace Go.Proofs.YtncfgkhbenmpoaaGreatDoor
open Go Go.RowKit Go.Proofs Go.Shelf
set_option linter.unusedVariables false

theorem conv_bytes (s : ByteArray) (w : World) : ∃ cap wB, (convert 9 102 (.string s)).run Tryz.prog w = .ok (.slice (some ⟨w.heap.size, 0, none⟩) s.size cap) wB ∧
    (∀ j, j < s.size → wB.cell? ⟨w.heap.size, j, none⟩ = some (.int .u8 (byteAt s j)) ∧ wB.frozen? ⟨w.heap.size, j, none⟩ = false) ∧ Below w.heap.size w wB := by
  have h := run_bytes_of_string (P := Tryz.prog) w 9 102 5 s Tryz.underlying9 Tryz.underlying102 Tryz.underlying5
  refine ⟨_, _, h, fun j hj => ⟨?_, ?_⟩, ?_⟩
  · show (w.drew.alloc _).cell? ⟨w.drew.heap.size, j, none⟩ = _
    rw [World.cell?_alloc_mark, bytesRow_at s _ j hj]
    unfold byteAt Array.getD
    rw [dif_pos (show j < s.data.size from hj)]; rfl
  · show (w.drew.alloc _).frozen? ⟨w.drew.heap.size, j, none⟩ = _
    rw [World.frozen?_alloc_mark]
    have hz : s.data.size ≤ (bytesRow s (grownCap w s.size 0 5)).size := by unfold bytesRow; simp
    have hj' : j < s.data.size := hj
    rw [decide_eq_false (by omega), Bool.false_and]
  · exact ((Below.refl w.heap.size w).drew).trans (below_alloc1 w.drew _)
/-- the text with one byte put -/
def putF (s : ByteArray) (k : Nat) (b : UInt8) : ByteArray := ⟨(s.data.toList.set k b).toArray⟩
theorem putF_size (s : ByteArray) (k : Nat) (b : UInt8) : (putF s k b).size = s.size := by rw [size_toList, size_toList]; simp [putF]
theorem byteAt_list (s : ByteArray) (j : Nat) (hj : j < s.data.toList.length) : byteAt s j = ((s.data.toList[j]).toNat : Int) := by
  rw [byteAt_get, List.getElem?_eq_getElem hj]; rfl
theorem conv_back (s : ByteArray) (k d : Nat) (hd : d < 10) (hk : k < s.size) (B cap : Nat) (w : World) (hc : ∀ j, j < s.size → w.cell? ⟨B, j, none⟩ = some (.int .u8 (if j = k then 48 + (d : Int) else byteAt s j))) :
    (convert 102 9 (.slice (some ⟨B, 0, none⟩) s.size cap)).run Tryz.prog w = .ok (.string (putF s k (UInt8.ofNat (48 + d)))) w := by
  have hl : (s.data.toList.set k (UInt8.ofNat (48 + d))).length = s.size := by rw [List.length_set, size_toList]
  have h := run_convert_bytes_back (P := Tryz.prog) w 102 9 5 ⟨B, 0, none⟩ cap (s.data.toList.set k (UInt8.ofNat (48 + d))) Tryz.underlying102 Tryz.underlying5 Tryz.underlying9 (fun j hj => by
    rw [add_new]
    have hj' : j < s.size := by rw [← hl]; exact hj
    rw [hc j hj', List.getElem_set]
    by_cases e : k = j
    · subst e
      rw [if_pos rfl, if_pos rfl]
      congr 2
      rw [UInt8.toNat_ofNat']; omega
    · rw [if_neg (Ne.symm e), if_neg e, byteAt_list s j (by rw [← size_toList]; exact hj')])
  rw [hl] at h
  exact h
theorem spoilt_none {lo hi sl ch : Int} {css : List (List Int)} (hr : ruleB lo hi sl ch = true) (hc : camsB css = true) {T : ByteArray} (hT : textF lo hi sl ch css = T) {k d : Nat} (hk : k < T.size) (hd : d < 10) (hb : 48 ≤ byteAt T k ∧ byteAt T k ≤ 57) (hne : byteAt T k - 48 ≠ (d : Int)) :
    ∀ lo hi sl ch cs, ¬ Bk (putF T k (UInt8.ofNat (48 + d))) lo hi sl ch cs := by
  intro lo' hi' sl' ch' cs hbk
  have hkl : k < T.data.toList.length := by rw [← size_toList]; exact hk
  have e := byteAt_list T k hkl
  have hbd : (UInt8.ofNat (48 + d)).toNat = 48 + d := by rw [UInt8.toNat_ofNat']; omega
  have hput : (textF lo' hi' sl' ch' cs).data.toList = T.data.toList.set k (UInt8.ofNat (48 + d)) := by rw [hbk.2.2]; simp [putF]
  refine spoilt_law hr hc k (T.data.toList[k]) (UInt8.ofNat (48 + d)) ?_ ?_ ?_ ?_ ?_ ?_ (lo' := lo') (hi' := hi') (sl' := sl') (ch' := ch') (css' := cs)
  · rw [hT]; exact List.getElem?_eq_getElem hkl
  · rw [hput, List.getElem?_set_self hkl]
  · rw [e] at hb; omega
  · rw [hbd]; omega
  · intro h
    rw [e, h, hbd] at hne
    omega
  · intro j hj
    rw [hput, hT, List.getElem?_set_ne (Ne.symm hj)]

set_option maxRecDepth 100000 in
set_option maxHeartbeats 4000000 in
theorem law23 (lo hi sl ch : Int) (p : Option Addr) (cap : Nat) (css : List (List Int)) (a dg : Int) (m : Int) (w : World) (hx : RdC w p css) (hm : w.cell? ⟨1, 0, none⟩ = some (.int .i64 m)) (ht : Lib.TabIs Tryz.prog w "internal/strconv.uint64pow10" .u64 Lib.pow10Tab) :
    Calls Tryz.prog 23 #[.agg #[.int .i64 lo, .int .i64 hi, .int .i64 sl, .int .i64 ch], .slice p css.length cap, .int .i64 a, .int .i64 dg] w (LawPost w) := by
  obtain ⟨w0, e0, HS0, k0, k1, k2, k3, b0⟩ := box4 w (.int .i64 lo) (.int .i64 hi) (.int .i64 sl) (.int .i64 ch) 23
  have HX := Lib.hid (hx.below b0)
  have HB := Lib.hid b0
  have km := (b0.cell (lt_of_cellq hm)).trans hm
  have HI := Lib.hid ((itoaR_full ht).below b0)
  clear hx b0 hm ht
  go_enter Tryz.func23, Tryz.ntmps23
  (go_wp2_with fail); refine (c71 p cap css _ HX.out).mono ?_; rintro e wn ⟨rfl, rfl⟩
  clear e0
  cases hTT : (fewB css); (case false => ((clear hTT); (go_wp2_with fail); refine (c25 _).mono ?_; rintro e wn ⟨rfl, bq⟩; replace HB := Lib.hid (HB.out.trans (bq.mono HB.out.size)); clear bq; go_wp2; go_ret; exact ⟨rfl, HB.out⟩)); have S1 := Lib.hid hTT; clear hTT
  have HL := Lib.hid (len_of_few S1.out)
  (go_wp2_with fail); refine (c27 lo hi sl ch _).mono ?_; rintro e wn ⟨rfl, bq⟩; replace HB := Lib.hid (HB.out.trans (bq.mono HB.out.size)); replace HX := Lib.hid (HX.out.below bq); replace HI := Lib.hid (HI.out.below bq); replace k0 := (bq.cell (lt_of_cellq k0)).trans k0; replace k1 := (bq.cell (lt_of_cellq k1)).trans k1; replace k2 := (bq.cell (lt_of_cellq k2)).trans k2; replace k3 := (bq.cell (lt_of_cellq k3)).trans k3; replace km := (bq.cell (lt_of_cellq km)).trans km; clear bq
  cases hTT : (ruleB lo hi sl ch); (case false => ((clear hTT); (go_wp2_with fail); refine (c25 _).mono ?_; rintro e wn ⟨rfl, bq⟩; replace HB := Lib.hid (HB.out.trans (bq.mono HB.out.size)); clear bq; go_wp2; go_ret; exact ⟨rfl, HB.out⟩)); have HR := Lib.hid hTT; clear hTT
  (go_wp2_with fail); refine (c73 p cap css _ HX.out HL.out).mono ?_; rintro e wn ⟨rfl, rfl⟩
  cases hTT : (camsB css); (case false => ((clear hTT); (go_wp2_with fail); refine (c25 _).mono ?_; rintro e wn ⟨rfl, bq⟩; replace HB := Lib.hid (HB.out.trans (bq.mono HB.out.size)); clear bq; go_wp2; go_ret; exact ⟨rfl, HB.out⟩)); have HC := Lib.hid hTT; clear hTT
  by_cases h1 : dg < 0
  case pos => (go_wp2_with fail); refine (c25 _).mono ?_; rintro e wn ⟨rfl, bq⟩; replace HB := Lib.hid (HB.out.trans (bq.mono HB.out.size)); clear bq; go_wp2; go_ret; exact ⟨rfl, HB.out⟩
  by_cases h2 : dg > 9
  case pos => (go_wp2_with fail); refine (c25 _).mono ?_; rintro e wn ⟨rfl, bq⟩; replace HB := Lib.hid (HB.out.trans (bq.mono HB.out.size)); clear bq; go_wp2; go_ret; exact ⟨rfl, HB.out⟩
  obtain ⟨d, rfl⟩ : ∃ d : Nat, dg = d := ⟨dg.toNat, by omega⟩
  have hd : d < 10 := by omega
  have HD := Lib.hid hd
  have h1I : decide ((d : Int) < 0) = false := decide_eq_false h1
  have h2I : decide ((d : Int) > 9) = false := decide_eq_false h2
  have h2J : decide (9 < (d : Int)) = false := decide_eq_false h2
  clear hd h1 h2
  obtain ⟨T, hT⟩ : ∃ T, textF lo hi sl ch css = T := ⟨_, rfl⟩
  have HT := Lib.hid hT
  have HTZ := Lib.hid (show T.size ≤ 400 by rw [← hT]; exact book_size HR.out HC.out)
  (go_wp2_with fail); refine (c72_ok lo hi sl ch p cap css _ HX.out HL.out (by rw [HR.out, HC.out]; rfl) T hT).mono ?_; rintro e wn ⟨rfl, bq⟩; replace HB := Lib.hid (HB.out.trans (bq.mono HB.out.size)); replace HI := Lib.hid (HI.out.below bq); replace km := (bq.cell (lt_of_cellq km)).trans km; clear bq
  clear hT
  by_cases g1 : a < 0
  case pos => (go_wp2_with fail); refine (c25 _).mono ?_; rintro e wn ⟨rfl, bq⟩; replace HB := Lib.hid (HB.out.trans (bq.mono HB.out.size)); clear bq; go_wp2; go_ret; exact ⟨rfl, HB.out⟩
  by_cases g2 : a ≥ (T.size : Int)
  case pos => (go_wp2_with fail); refine (c25 _).mono ?_; rintro e wn ⟨rfl, bq⟩; replace HB := Lib.hid (HB.out.trans (bq.mono HB.out.size)); clear bq; go_wp2; go_ret; exact ⟨rfl, HB.out⟩
  obtain ⟨k, rfl⟩ : ∃ k : Nat, a = k := ⟨a.toNat, by omega⟩
  have hkT : k < T.size := by omega
  have g1I : decide ((k : Int) < 0) = false := decide_eq_false g1
  have hix := ix_byte T k hkT
  have hby := byteAt_range T k
  have HKT := Lib.hid hkT
  obtain ⟨B, hB⟩ : ∃ B, byteAt T k = B := ⟨_, rfl⟩
  have HBB := Lib.hid hB
  rw [hB] at hix hby
  clear hB
  have g2I : decide ((k : Int) ≥ (T.size : Int)) = false := by simp; omega
  have g2J : decide ((T.size : Int) ≤ (k : Int)) = false := by simp; omega
  by_cases g3 : B < 48
  case pos => (go_wp2_with fail); refine (c25 _).mono ?_; rintro e wn ⟨rfl, bq⟩; replace HB := Lib.hid (HB.out.trans (bq.mono HB.out.size)); clear bq; go_wp2; go_ret; exact ⟨rfl, HB.out⟩
  by_cases g4 : B > 57
  case pos => (go_wp2_with fail); refine (c25 _).mono ?_; rintro e wn ⟨rfl, bq⟩; replace HB := Lib.hid (HB.out.trans (bq.mono HB.out.size)); clear bq; go_wp2; go_ret; exact ⟨rfl, HB.out⟩
  have g3I : decide (B < 48) = false := decide_eq_false g3
  have g4I : decide (B > 57) = false := decide_eq_false g4
  have g4J : decide (57 < B) = false := decide_eq_false g4
  have hw1 : IntKind.u8.wrap (B - 48) = B - 48 := by rw [IntKind.wrap_u8]; omega
  have hw2 : IntKind.i64.wrap (B - 48) = B - 48 := w64 _ (by omega) (by omega)
  by_cases g5 : B - 48 = (d : Int)
  case pos => (go_wp2_with fail); refine (c25 _).mono ?_; rintro e wn ⟨rfl, bq⟩; replace HB := Lib.hid (HB.out.trans (bq.mono HB.out.size)); clear bq; go_wp2; go_ret; exact ⟨rfl, HB.out⟩
  have g5I : (B - 48 == (d : Int)) = false := by rw [beq_eq_false_iff_ne]; exact g5
  have HNB := Lib.hid (spoilt_none HR.out HC.out HT.out HKT.out HD.out (by rw [HBB.out]; omega) (by rw [HBB.out]; exact g5))
  obtain ⟨cp, wB, hcv, hcl, hbB⟩ := conv_bytes T wn
  have hu1 : IntKind.i64.wrap (48 + (d : Int)) = 48 + (d : Int) := w64 _ (by have := HD.out; omega) (by have := HD.out; omega)
  have hu2 : IntKind.u8.wrap (48 + (d : Int)) = 48 + (d : Int) := by rw [IntKind.wrap_u8]; have := HD.out; omega
  have q0 := (hcl k HKT.out).1
  have q1 := (hcl k HKT.out).2
  obtain ⟨wC, hwC⟩ : ∃ wC, wB.setCell ⟨wn.heap.size, k, none⟩ (.int .u8 (48 + (d : Int))) = wC := ⟨_, rfl⟩
  have hcb := conv_back T k d HD.out HKT.out wn.heap.size cp wC (fun j hj => by
    rw [← hwC]
    by_cases e : j = k
    · subst e
      rw [if_pos rfl]
      exact World.cell?_setCell_same' _ _ _ (by rw [q0]; rfl)
    · rw [if_neg e, World.cell?_setCell_other _ _ _ _ (by intro h; cases h; exact e rfl)]
      exact (hcl j hj).1)
  have hbC : Below wn.heap.size wn wC := by rw [← hwC]; exact hbB.setCell (Nat.le_refl _) _
  have km2 := (hbC.cell (lt_of_cellq km)).trans km
  have HI2 := Lib.hid (HI.out.below hbC)
  replace HB := Lib.hid (HB.out.trans (hbC.mono HB.out.size))
  obtain ⟨T', hT'⟩ : ∃ T', putF T k (UInt8.ofNat (48 + d)) = T' := ⟨_, rfl⟩
  have HTZ2 := Lib.hid (show T'.size ≤ 400 by rw [← hT', putF_size]; exact HTZ.out)
  rw [hT'] at hcb HNB
  clear hT' hcl hbB hbC km hkT g1 g2 g3 g4 g5
  (go_wp2_with fail)
  refine (c74_of m _ (by have := HTZ2.out; omega) km2 HI2.out (fun _ _ _ _ _ _ h => read_none HTZ2.out HNB.out h)).mono ?_
  rintro e wn ⟨⟨pc, cc, rfl, hrd⟩, bq⟩
  replace HB := Lib.hid (HB.out.trans (bq.mono HB.out.size))
  clear hrd bq hwC hcv hcb q0 q1 km2
  go_upto_region 11 with (fail)
  obtain ⟨wb, eb, HSb, x0, x1, x2, x3, bb⟩ := box4 wn (.int .i64 0) (.int .i64 0) (.int .i64 0) (.int .i64 0) 23
  rw [eb]
  replace HB := Lib.hid (HB.out.trans (bb.mono HB.out.size))
  clear eb bb
  (go_wp2_with fail); refine (c25 _).mono ?_; rintro e wn ⟨rfl, bq⟩; replace HB := Lib.hid (HB.out.trans (bq.mono HB.out.size)); clear bq; go_wp2; go_ret; exact ⟨rfl, HB.out⟩
end Go.Proofs.YtncfgkhbenmpoaaGreatDoor
end
