/-
  The law of books that are read (the walk).
-/
import Derived.Test.YtncfgkhbenmpoaaGreatDoorGab
section
namespace Go.Proofs.YtncfgkhbenmpoaaGreatDoor
open Go Go.RowKit Go.Proofs Go.Shelf
set_option linter.unusedVariables false

def Told74 (s : ByteArray) (a b c d : Int) (cs : List (List Int)) (er : Int) (w : World) (e : Ending) (w' : World) : Prop :=
  (∃ p cp, e = .returned (.tuple #[.agg #[.int .i64 a, .int .i64 b, .int .i64 c, .int .i64 d], .slice p cs.length cp, .int .i64 er]) ∧ RdC w' p cs) ∧ Below w.heap.size w w'
theorem c74_of {s : ByteArray} {a b c d er : Int} {cs : List (List Int)} (m : Int) (w : World) (hs : s.size ≤ 1000) (hm : w.cell? ⟨1, 0, none⟩ = some (.int .i64 m)) (hI : ItoaR 1000 w)
    (h : ∀ a' b' c' d' cs' er', ReadR s a' b' c' d' cs' er' → a' = a ∧ b' = b ∧ c' = c ∧ d' = d ∧ cs' = cs ∧ er' = er) : Calls Tryz.prog 74 #[.string s] w (Told74 s a b c d cs er w) :=
  (c74 s m w (by omega) hm hI).mono (by
    rintro e w' ⟨⟨a', b', c', d', cs', p, cp, er', rfl, h1, h2⟩, hb⟩
    obtain ⟨rfl, rfl, rfl, rfl, rfl, rfl⟩ := h _ _ _ _ _ _ h2
    exact ⟨⟨p, cp, rfl, h1⟩, hb⟩)
def Told77 (a b c d : Int) (cs : List (List Int)) (is : Bool) (w : World) (e : Ending) (w' : World) : Prop :=
  (∃ p cp, e = .returned (.tuple #[.agg #[.int .i64 a, .int .i64 b, .int .i64 c, .int .i64 d], .slice p cs.length cp, .bool is]) ∧ RdC w' p cs) ∧ Below w.heap.size w w'
theorem c77_none {s : ByteArray} (w : World) (hs : s.size ≤ 500) (hn : ∀ lo hi sl ch cs, ¬ Bk s lo hi sl ch cs) : Calls Tryz.prog 77 #[.string s] w fun e w' => ∃ a b c d cs, Told77 a b c d cs false w e w' :=
  (c77 s w hs).mono (by
    rintro e w' ⟨⟨a', b', c', d', cs', p, cp, is, rfl, h1, h2⟩, hb⟩
    rcases h2 with ⟨rfl, _⟩ | ⟨_, h3, _⟩
    · exact ⟨a', b', c', d', cs', ⟨p, cp, rfl, h1⟩, hb⟩
    · exact absurd h3 (hn _ _ _ _ _))
theorem c77_any {s : ByteArray} (w : World) (hs : s.size ≤ 500) : Calls Tryz.prog 77 #[.string s] w fun e w' => ∃ a b c d cs is, Told77 a b c d cs is w e w' :=
  (c77 s w hs).mono (by
    rintro e w' ⟨⟨a', b', c', d', cs', p, cp, is, rfl, h1, h2⟩, hb⟩
    exact ⟨a', b', c', d', cs', is, ⟨p, cp, rfl, h1⟩, hb⟩)
theorem c77_good {s : ByteArray} {a b c d : Int} {cs : List (List Int)} (w : World) (hs : s.size ≤ 500) (hb : Bk s a b c d cs) : Calls Tryz.prog 77 #[.string s] w fun e w' => Told77 a b c d cs true w e w' ∧ cs.length ≤ 500 ∧ ∀ i, i < cs.length → (gl cs i).length ≤ 500 :=
  (c77 s w hs).mono (by
    rintro e w' ⟨⟨a', b', c', d', cs', p, cp, is, rfl, h1, h2⟩, hbl⟩
    rcases h2 with ⟨_, h3, _⟩ | ⟨rfl, h3, h4⟩
    · exact absurd hb (h3 _ _ _ _ _)
    · obtain ⟨rfl, rfl, rfl, rfl, rfl⟩ := bk_unique hb h3
      exact ⟨⟨⟨p, cp, rfl, h1⟩, hbl⟩, h4⟩)

set_option maxRecDepth 100000 in
set_option maxHeartbeats 4000000 in
theorem law22 (s : ByteArray) (m : Int) (w : World) (hm : w.cell? ⟨1, 0, none⟩ = some (.int .i64 m)) (ht : Lib.TabIs Tryz.prog w "internal/strconv.uint64pow10" .u64 Lib.pow10Tab) :
    Calls Tryz.prog 22 #[.string s] w (LawPost w) := by
  have HB := Lib.hid (Below.refl w.heap.size w)
  have HI := Lib.hid (itoaR_full ht)
  have km := hm
  clear hm ht
  by_cases h5 : s.size > 500
  · have h5I : decide ((s.size : Int) > 500) = true := by simp; omega
    clear h5
    go_enter Tryz.func22, Tryz.ntmps22
    (go_wp2_with fail); refine (c25 _).mono ?_; rintro e wn ⟨rfl, bq⟩; replace HB := Lib.hid (HB.out.trans (bq.mono HB.out.size)); clear bq; go_wp2; go_ret; exact ⟨rfl, HB.out⟩
  have h5I : decide ((s.size : Int) > 500) = false := by simp; omega
  have HS5 := Lib.hid (show s.size ≤ 500 by omega)
  clear h5
  by_cases h4 : s.size > 400
  · have h4I : decide ((s.size : Int) > 400) = true := by simp; omega
    have HS4 := Lib.hid h4
    clear h4
    go_enter Tryz.func22, Tryz.ntmps22
    (go_wp2_with fail); refine (c74_of m _ (by have := HS5.out; omega) km HI.out (fun _ _ _ _ _ _ h => read_long HS4.out h)).mono ?_; rintro e wn ⟨⟨pc, cc, rfl, hrd⟩, bq⟩; replace HB := Lib.hid (HB.out.trans (bq.mono HB.out.size)); replace HI := Lib.hid (HI.out.below bq); replace km := (bq.cell (lt_of_cellq km)).trans km; clear bq
    (go_wp2_with fail)
    obtain ⟨wb, eb, HSb, x0, x1, x2, x3, bb⟩ := box4 wn (.int .i64 0) (.int .i64 0) (.int .i64 0) (.int .i64 0) 23
    rw [eb]
    replace HB := Lib.hid (HB.out.trans (bb.mono HB.out.size))
    clear hrd bb km eb
    refine (c77_any _ HS5.out).mono ?_
    rintro e w2 ⟨a, b, c, d, cs, is, ⟨pd, cd, rfl, _⟩, bq⟩
    replace HB := Lib.hid (HB.out.trans (bq.mono HB.out.size))
    replace x0 := (bq.cell (lt_of_cellq x0)).trans x0
    replace x1 := (bq.cell (lt_of_cellq x1)).trans x1
    replace x2 := (bq.cell (lt_of_cellq x2)).trans x2
    replace x3 := (bq.cell (lt_of_cellq x3)).trans x3
    clear bq
    obtain ⟨wc, ec, HSc, y0, y1, y2, y3, bc⟩ := box4 w2 (.int .i64 a) (.int .i64 b) (.int .i64 c) (.int .i64 d) 23
    replace HB := Lib.hid (HB.out.trans (bc.mono HB.out.size))
    replace x0 := (bc.cell (lt_of_cellq x0)).trans x0
    replace x1 := (bc.cell (lt_of_cellq x1)).trans x1
    replace x2 := (bc.cell (lt_of_cellq x2)).trans x2
    replace x3 := (bc.cell (lt_of_cellq x3)).trans x3
    clear bc
    (go_wp2_with fail); refine (c25 _).mono ?_; rintro e wn ⟨rfl, bq⟩; replace HB := Lib.hid (HB.out.trans (bq.mono HB.out.size)); clear bq; go_wp2; go_ret; exact ⟨rfl, HB.out⟩
  have h4I : decide ((s.size : Int) > 400) = false := by simp; omega
  have HS4 := Lib.hid (show s.size ≤ 400 by omega)
  clear h4
  by_cases hbk : ∃ a b c d cs, Bk s a b c d cs
  case neg =>
    have HNB := Lib.hid (show ∀ lo hi sl ch cs, ¬ Bk s lo hi sl ch cs from fun lo hi sl ch cs h => hbk ⟨lo, hi, sl, ch, cs, h⟩)
    clear hbk
    go_enter Tryz.func22, Tryz.ntmps22
    (go_wp2_with fail); refine (c74_of m _ (by have := HS5.out; omega) km HI.out (fun _ _ _ _ _ _ h => read_none HS4.out HNB.out h)).mono ?_; rintro e wn ⟨⟨pc, cc, rfl, hrd⟩, bq⟩; replace HB := Lib.hid (HB.out.trans (bq.mono HB.out.size)); replace HI := Lib.hid (HI.out.below bq); replace km := (bq.cell (lt_of_cellq km)).trans km; clear bq
    (go_wp2_with fail)
    obtain ⟨wb, eb, HSb, x0, x1, x2, x3, bb⟩ := box4 wn (.int .i64 0) (.int .i64 0) (.int .i64 0) (.int .i64 0) 23
    rw [eb]
    replace HB := Lib.hid (HB.out.trans (bb.mono HB.out.size))
    clear hrd bb km eb
    refine (c77_none _ HS5.out HNB.out).mono ?_
    rintro e w2 ⟨a, b, c, d, cs, ⟨pd, cd, rfl, _⟩, bq⟩
    replace HB := Lib.hid (HB.out.trans (bq.mono HB.out.size))
    replace x0 := (bq.cell (lt_of_cellq x0)).trans x0
    replace x1 := (bq.cell (lt_of_cellq x1)).trans x1
    replace x2 := (bq.cell (lt_of_cellq x2)).trans x2
    replace x3 := (bq.cell (lt_of_cellq x3)).trans x3
    clear bq
    obtain ⟨wc, ec, HSc, y0, y1, y2, y3, bc⟩ := box4 w2 (.int .i64 a) (.int .i64 b) (.int .i64 c) (.int .i64 d) 23
    replace HB := Lib.hid (HB.out.trans (bc.mono HB.out.size))
    replace x0 := (bc.cell (lt_of_cellq x0)).trans x0
    replace x1 := (bc.cell (lt_of_cellq x1)).trans x1
    replace x2 := (bc.cell (lt_of_cellq x2)).trans x2
    replace x3 := (bc.cell (lt_of_cellq x3)).trans x3
    clear bc
    (go_wp2_with fail); refine (c25 _).mono ?_; rintro e wn ⟨rfl, bq⟩; replace HB := Lib.hid (HB.out.trans (bq.mono HB.out.size)); clear bq; go_wp2; go_ret; exact ⟨rfl, HB.out⟩
  obtain ⟨a, b, c, d, cs, hb⟩ := hbk
  have HBK := Lib.hid hb
  clear hb
  cases hf : (ruleB a b c d && camsB cs) with
  | false =>
    have HF := Lib.hid hf
    go_enter Tryz.func22, Tryz.ntmps22
    (go_wp2_with fail); refine (c74_of m _ (by have := HS5.out; omega) km HI.out (fun _ _ _ _ _ _ h => read_bad HS4.out HBK.out HF.out h)).mono ?_; rintro e wn ⟨⟨pc, cc, rfl, hrd⟩, bq⟩; replace HB := Lib.hid (HB.out.trans (bq.mono HB.out.size)); replace HI := Lib.hid (HI.out.below bq); replace km := (bq.cell (lt_of_cellq km)).trans km; clear bq
    (go_wp2_with fail)
    obtain ⟨wb, eb, HSb, x0, x1, x2, x3, bb⟩ := box4 wn (.int .i64 0) (.int .i64 0) (.int .i64 0) (.int .i64 0) 23
    rw [eb]
    replace HB := Lib.hid (HB.out.trans (bb.mono HB.out.size))
    have HRD := Lib.hid (hrd.below bb)
    have bb0 := Lib.hid bb
    clear hrd bb km eb
    refine (c77_good _ HS5.out HBK.out).mono ?_
    rintro e w2 ⟨⟨⟨pd, cd, rfl, hre⟩, bq⟩, hl1, hl2⟩
    replace HB := Lib.hid (HB.out.trans (bq.mono HB.out.size))
    replace HRD := Lib.hid (HRD.out.below bq)
    replace HI := Lib.hid ((HI.out.below bb0.out).below bq)
    replace x0 := (bq.cell (lt_of_cellq x0)).trans x0
    replace x1 := (bq.cell (lt_of_cellq x1)).trans x1
    replace x2 := (bq.cell (lt_of_cellq x2)).trans x2
    replace x3 := (bq.cell (lt_of_cellq x3)).trans x3
    clear bq
    obtain ⟨wc, ec, HSc, y0, y1, y2, y3, bc⟩ := box4 w2 (.int .i64 a) (.int .i64 b) (.int .i64 c) (.int .i64 d) 23
    replace HB := Lib.hid (HB.out.trans (bc.mono HB.out.size))
    replace HRD := Lib.hid (HRD.out.below bc)
    have HRE := Lib.hid (hre.below bc)
    replace HI := Lib.hid (HI.out.below bc)
    clear hre
    replace x0 := (bc.cell (lt_of_cellq x0)).trans x0
    replace x1 := (bc.cell (lt_of_cellq x1)).trans x1
    replace x2 := (bc.cell (lt_of_cellq x2)).trans x2
    replace x3 := (bc.cell (lt_of_cellq x3)).trans x3
    clear bc
    have HL := Lib.hid (show LenC cs from ⟨by omega, fun i hi' => by have := hl2 i hi'; omega⟩)
    clear hl1 hl2
    cases hr : ruleB a b c d with
    | false =>
      clear hf
      (go_wp2_with fail); refine (c27 a b c d _).mono ?_; rw [hr]; rintro e wn ⟨rfl, bq⟩; replace HB := Lib.hid (HB.out.trans (bq.mono HB.out.size)); replace x0 := (bq.cell (lt_of_cellq x0)).trans x0; replace x1 := (bq.cell (lt_of_cellq x1)).trans x1; replace x2 := (bq.cell (lt_of_cellq x2)).trans x2; replace x3 := (bq.cell (lt_of_cellq x3)).trans x3; clear bq
      clear ec
      (go_wp2_with fail); refine (c25 _).mono ?_; rintro e wn ⟨rfl, bq⟩; replace HB := Lib.hid (HB.out.trans (bq.mono HB.out.size)); clear bq; go_wp2; go_ret; exact ⟨rfl, HB.out⟩
    | true =>
      rw [hr] at hf
      have hc : camsB cs = false := hf
      clear hf
      (go_wp2_with fail); refine (c27 a b c d _).mono ?_; rw [hr]; rintro e wn ⟨rfl, bq⟩; replace HB := Lib.hid (HB.out.trans (bq.mono HB.out.size)); replace HRE := Lib.hid (HRE.out.below bq); replace x0 := (bq.cell (lt_of_cellq x0)).trans x0; replace x1 := (bq.cell (lt_of_cellq x1)).trans x1; replace x2 := (bq.cell (lt_of_cellq x2)).trans x2; replace x3 := (bq.cell (lt_of_cellq x3)).trans x3; clear bq
      clear ec
      (go_wp2_with fail); refine (c73 pd cd cs _ HRE.out HL.out).mono ?_; rw [hc]; rintro e wn ⟨rfl, rfl⟩
      (go_wp2_with fail); refine (c25 _).mono ?_; rintro e wn ⟨rfl, bq⟩; replace HB := Lib.hid (HB.out.trans (bq.mono HB.out.size)); clear bq; go_wp2; go_ret; exact ⟨rfl, HB.out⟩
  | true =>
    have HF := Lib.hid hf
    have hr : ruleB a b c d = true := by rw [Bool.and_eq_true] at hf; exact hf.1
    have hc : camsB cs = true := by rw [Bool.and_eq_true] at hf; exact hf.2
    have HTS := Lib.hid (show textF a b c d cs = s from HBK.out.2.2)
    have HCL := Lib.hid (show cs.length ≤ 4 ∧ ∀ i, i < cs.length → (gl cs i).length ≤ 24 from ⟨(camsB_parts hc).1, fun i hi' => (cam_small ((camsB_parts hc).2 i hi')).2⟩)
    clear hf
    go_enter Tryz.func22, Tryz.ntmps22
    (go_wp2_with fail); refine (c74_of m _ (by have := HS5.out; omega) km HI.out (fun _ _ _ _ _ _ h => read_good HS4.out HBK.out HF.out h)).mono ?_; rintro e wn ⟨⟨pc, cc, rfl, hrd⟩, bq⟩; replace HB := Lib.hid (HB.out.trans (bq.mono HB.out.size)); replace HI := Lib.hid (HI.out.below bq); replace km := (bq.cell (lt_of_cellq km)).trans km; clear bq
    (go_wp2_with fail)
    obtain ⟨wb, eb, HSb, x0, x1, x2, x3, bb⟩ := box4 wn (.int .i64 a) (.int .i64 b) (.int .i64 c) (.int .i64 d) 23
    rw [eb]
    replace HB := Lib.hid (HB.out.trans (bb.mono HB.out.size))
    have HRD := Lib.hid (hrd.below bb)
    have bb0 := Lib.hid bb
    clear hrd bb km eb
    refine (c77_good _ HS5.out HBK.out).mono ?_
    rintro e w2 ⟨⟨⟨pd, cd, rfl, hre⟩, bq⟩, hl1, hl2⟩
    replace HB := Lib.hid (HB.out.trans (bq.mono HB.out.size))
    replace HRD := Lib.hid (HRD.out.below bq)
    replace HI := Lib.hid ((HI.out.below bb0.out).below bq)
    replace x0 := (bq.cell (lt_of_cellq x0)).trans x0
    replace x1 := (bq.cell (lt_of_cellq x1)).trans x1
    replace x2 := (bq.cell (lt_of_cellq x2)).trans x2
    replace x3 := (bq.cell (lt_of_cellq x3)).trans x3
    clear bq
    obtain ⟨wc, ec, HSc, y0, y1, y2, y3, bc⟩ := box4 w2 (.int .i64 a) (.int .i64 b) (.int .i64 c) (.int .i64 d) 23
    replace HB := Lib.hid (HB.out.trans (bc.mono HB.out.size))
    replace HRD := Lib.hid (HRD.out.below bc)
    have HRE := Lib.hid (hre.below bc)
    replace HI := Lib.hid (HI.out.below bc)
    clear hre
    replace x0 := (bc.cell (lt_of_cellq x0)).trans x0
    replace x1 := (bc.cell (lt_of_cellq x1)).trans x1
    replace x2 := (bc.cell (lt_of_cellq x2)).trans x2
    replace x3 := (bc.cell (lt_of_cellq x3)).trans x3
    clear bc
    have HL := Lib.hid (show LenC cs from ⟨by omega, fun i hi' => by have := hl2 i hi'; omega⟩)
    clear hl1 hl2
    (go_wp2_with fail); refine (c27 a b c d _).mono ?_; rw [hr]; rintro e wn ⟨rfl, bq⟩; replace HB := Lib.hid (HB.out.trans (bq.mono HB.out.size)); replace HRE := Lib.hid (HRE.out.below bq); replace HRD := Lib.hid (HRD.out.below bq); replace x0 := (bq.cell (lt_of_cellq x0)).trans x0; replace x1 := (bq.cell (lt_of_cellq x1)).trans x1; replace x2 := (bq.cell (lt_of_cellq x2)).trans x2; replace x3 := (bq.cell (lt_of_cellq x3)).trans x3; replace y0 := (bq.cell (lt_of_cellq y0)).trans y0; replace y1 := (bq.cell (lt_of_cellq y1)).trans y1; replace y2 := (bq.cell (lt_of_cellq y2)).trans y2; replace y3 := (bq.cell (lt_of_cellq y3)).trans y3; clear bq
    clear ec
    (go_wp2_with fail); refine (c73 pd cd cs _ HRE.out HL.out).mono ?_; rw [hc]; rintro e wn ⟨rfl, rfl⟩
    clear hr hc
    (go_wp2_with fail); refine (c72_ok a b c d pc cc cs _ HRD.out HL.out HF.out s HTS.out).mono ?_; rintro e wn ⟨rfl, bq⟩; replace HB := Lib.hid (HB.out.trans (bq.mono HB.out.size)); replace HRE := Lib.hid (HRE.out.below bq); replace HRD := Lib.hid (HRD.out.below bq); replace x0 := (bq.cell (lt_of_cellq x0)).trans x0; replace x1 := (bq.cell (lt_of_cellq x1)).trans x1; replace x2 := (bq.cell (lt_of_cellq x2)).trans x2; replace x3 := (bq.cell (lt_of_cellq x3)).trans x3; replace y0 := (bq.cell (lt_of_cellq y0)).trans y0; replace y1 := (bq.cell (lt_of_cellq y1)).trans y1; replace y2 := (bq.cell (lt_of_cellq y2)).trans y2; replace y3 := (bq.cell (lt_of_cellq y3)).trans y3; clear bq
    (go_wp2_with fail); refine (c76 pc cc cs pd cd cs _ HRD.out HRE.out (by have := HCL.out.1; omega) (fun i hi' => by have := HCL.out.2 i hi'; omega)).mono ?_; rintro e wn ⟨rfl, nq, hq⟩; (have bq := below_dr hq); clear hq; replace HB := Lib.hid (HB.out.trans (bq.mono HB.out.size)); replace HRE := Lib.hid (HRE.out.below bq); replace x0 := (bq.cell (lt_of_cellq x0)).trans x0; clear bq
    (go_wp2_with fail); refine (c25 _).mono ?_; rintro e wn ⟨rfl, bq⟩; replace HB := Lib.hid (HB.out.trans (bq.mono HB.out.size)); clear bq; go_wp2; go_ret; exact ⟨rfl, HB.out⟩
end Go.Proofs.YtncfgkhbenmpoaaGreatDoor
end
