/-
  The laws of motions that are shown: stations.
  The laws of motions that are shown: places and passes, retreats.
-/
import Derived.Test.YtncfgkhbenmpoaaGreatDoorGk
import Derived.Test.YtncfgkhbenmpoaaGreatDoorGj
section
namespace Go.Proofs.YtncfgkhbenmpoaaGreatDoor
open Go Go.RowKit Go.Proofs
set_option linter.unusedVariables false
attribute [local go_sem] imax2 imin2

set_option maxRecDepth 100000 in
theorem c47_no (u : Int) (q : Option Addr) (cap : Nat) (o : List Int) (f z : Int) (w : World) (hx : RdI w q o) (hl : o.length ≤ 17592186044416) (h : (motB u o && inB f 0 2000 && inB z 0 2000 && decide (f ≤ z)) = false) :
    Calls Tryz.prog 47 #[.agg #[.int .i64 u, .slice q o.length cap], .int .i64 f, .int .i64 z] w fun e w' => e = .returned (.tuple #[.slice none 0 0, .int .i64 2]) ∧ Below w.heap.size w w' := by
  obtain ⟨w0, e0, HS, k0, k1, b0⟩ := box2 w (.int .i64 u) (.slice q o.length cap) 61
  have HX := Lib.hid (hx.below b0)
  have HB := Lib.hid b0
  have HOK := Lib.hid h
  clear hx b0 h
  go_enter Tryz.func47, Tryz.ntmps47
  (go_wp2_with fail); refine (c103 u q cap o _ HX.out hl).mono ?_; rintro e wn ⟨rfl, bq⟩; replace HB := Lib.hid (HB.out.trans (bq.mono HB.out.size)); replace HX := Lib.hid (HX.out.below bq); clear bq
  clear e0
  cases hTT : (motB u o); (case false => ((clear hTT); go_wp2; go_ret2; exact ⟨rfl, HB.out⟩)); have H1 := Lib.hid hTT; clear hTT
  (go_wp2_with fail); refine (c104 _ _).mono ?_; rintro e wn ⟨rfl, rfl⟩
  cases hTT : (inB f 0 2000); (case false => ((clear hTT); go_wp2; go_ret2; exact ⟨rfl, HB.out⟩)); have H2 := Lib.hid hTT; clear hTT
  (go_wp2_with fail); refine (c104 _ _).mono ?_; rintro e wn ⟨rfl, rfl⟩
  cases hTT : (inB z 0 2000); (case false => ((clear hTT); go_wp2; go_ret2; exact ⟨rfl, HB.out⟩)); have H3 := Lib.hid hTT; clear hTT
  by_cases h4 : f ≤ z
  · exact absurd HOK.out (by rw [H1.out, H2.out, H3.out, decide_eq_true h4]; simp)
  · go_wp2
    go_ret2
    exact ⟨rfl, HB.out⟩

set_option maxRecDepth 100000 in
set_option maxHeartbeats 1000000 in
theorem law9 (u : Int) (q : Option Addr) (cap : Nat) (o : List Int) (f z : Int) (w : World) (hx : RdI w q o) :
    Calls Tryz.prog 9 #[.agg #[.int .i64 u, .slice q o.length cap], .int .i64 f, .int .i64 z] w (LawPost w) := by
  obtain ⟨w0, e0, HS, k0, k1, b0⟩ := box2 w (.int .i64 u) (.slice q o.length cap) 61
  have HX := Lib.hid (hx.below b0)
  have HB := Lib.hid b0
  clear hx b0
  go_enter Tryz.func9, Tryz.ntmps9
  (go_wp2_with fail); refine (c46 u q o.length cap _).mono ?_; rintro e wn ⟨rfl, bq⟩; replace HB := Lib.hid (HB.out.trans (bq.mono HB.out.size)); replace HX := Lib.hid (HX.out.below bq); replace k0 := (bq.cell (lt_of_cellq k0)).trans k0; replace k1 := (bq.cell (lt_of_cellq k1)).trans k1; clear bq
  clear e0
  cases hTT : (decide (o.length ≤ 27)); (case false => ((clear hTT); (go_wp2_with fail); refine (c25 _).mono ?_; rintro e wn ⟨rfl, bq⟩; replace HB := Lib.hid (HB.out.trans (bq.mono HB.out.size)); clear bq; go_wp2; go_ret; exact ⟨rfl, HB.out⟩)); have HSH := Lib.hid hTT; clear hTT
  have hl := of_decide_eq_true HSH.out
  cases hok : (motB u o && inB f 0 2000 && inB z 0 2000 && decide (f ≤ z)) with
  | false =>
    have HOK := Lib.hid hok
    clear hok
    (go_wp2_with fail); refine (c47_no u q cap o f z _ HX.out (by omega) HOK.out).mono ?_; rintro e wn ⟨rfl, bq⟩; replace HB := Lib.hid (HB.out.trans (bq.mono HB.out.size)); replace HX := Lib.hid (HX.out.below bq); replace k0 := (bq.cell (lt_of_cellq k0)).trans k0; replace k1 := (bq.cell (lt_of_cellq k1)).trans k1; clear bq
    (go_wp2_with fail); refine (c48 u q cap o _ HX.out (by omega)).mono ?_; rintro e wn ⟨rfl, bq⟩; replace HB := Lib.hid (HB.out.trans (bq.mono HB.out.size)); replace HX := Lib.hid (HX.out.below bq); replace k0 := (bq.cell (lt_of_cellq k0)).trans k0; replace k1 := (bq.cell (lt_of_cellq k1)).trans k1; clear bq
    cases hTT : (motB u o); (case false => ((clear hTT); (go_wp2_with fail); refine (c25 _).mono ?_; rintro e wn ⟨rfl, bq⟩; replace HB := Lib.hid (HB.out.trans (bq.mono HB.out.size)); clear bq; go_wp2; go_ret; exact ⟨rfl, HB.out⟩)); have H1 := Lib.hid hTT; clear hTT
    (go_wp2_with fail); refine (c49 _ _).mono ?_; rintro e wn ⟨rfl, rfl⟩
    cases hTT : (inB f 0 2000); (case false => ((clear hTT); (go_wp2_with fail); refine (c25 _).mono ?_; rintro e wn ⟨rfl, bq⟩; replace HB := Lib.hid (HB.out.trans (bq.mono HB.out.size)); clear bq; go_wp2; go_ret; exact ⟨rfl, HB.out⟩)); have H2 := Lib.hid hTT; clear hTT
    (go_wp2_with fail); refine (c49 _ _).mono ?_; rintro e wn ⟨rfl, rfl⟩
    cases hTT : (inB z 0 2000); (case false => ((clear hTT); (go_wp2_with fail); refine (c25 _).mono ?_; rintro e wn ⟨rfl, bq⟩; replace HB := Lib.hid (HB.out.trans (bq.mono HB.out.size)); clear bq; go_wp2; go_ret; exact ⟨rfl, HB.out⟩)); have H3 := Lib.hid hTT; clear hTT
    by_cases h4 : f ≤ z
    · exact absurd HOK.out (by rw [H1.out, H2.out, H3.out, decide_eq_true h4]; simp)
    · (go_wp2_with fail); refine (c25 _).mono ?_; rintro e wn ⟨rfl, bq⟩; replace HB := Lib.hid (HB.out.trans (bq.mono HB.out.size)); clear bq; go_wp2; go_ret; exact ⟨rfl, HB.out⟩
  | true =>
    rw [Bool.and_eq_true, Bool.and_eq_true, Bool.and_eq_true] at hok
    obtain ⟨⟨⟨h1, h2⟩, h3⟩, h4⟩ := hok
    have hfz : f ≤ z := of_decide_eq_true h4
    have H1 := Lib.hid h1
    have H2 := Lib.hid h2
    have H3 := Lib.hid h3
    obtain ⟨hf1, hf2⟩ : 0 ≤ f ∧ f ≤ 2000 := by unfold inB at h2; simpa using h2
    obtain ⟨hz1, hz2⟩ : 0 ≤ z ∧ z ≤ 2000 := by unfold inB at h3; simpa using h3
    have hn := staF_le u o f (z - f + 1).toNat
    obtain ⟨l, hle⟩ : ∃ l, staF u o f (z - f + 1).toNat = l := ⟨_, rfl⟩
    have hll : l.length ≤ 10000 := by rw [hle] at hn; omega
    have HLE := Lib.hid hle
    clear h1 h2 h3 h4 hn hle
    (go_wp2_with fail); refine (c47_ok u q cap o f z _ HX.out H1.out H2.out H3.out hfz).mono ?_; rw [HLE.out]; rintro e wn ⟨⟨p, c, rfl, hrd⟩, bq⟩; replace HB := Lib.hid (HB.out.trans (bq.mono HB.out.size)); replace HX := Lib.hid (HX.out.below bq); replace k0 := (bq.cell (lt_of_cellq k0)).trans k0; replace k1 := (bq.cell (lt_of_cellq k1)).trans k1; clear bq
    have HR := Lib.hid hrd
    clear hrd
    (go_wp2_with fail); refine (c48 u q cap o _ HX.out (by omega)).mono ?_; rw [H1.out]; rintro e wn ⟨rfl, bq⟩; replace HB := Lib.hid (HB.out.trans (bq.mono HB.out.size)); replace HX := Lib.hid (HX.out.below bq); replace HR := Lib.hid (HR.out.below bq); replace k0 := (bq.cell (lt_of_cellq k0)).trans k0; replace k1 := (bq.cell (lt_of_cellq k1)).trans k1; clear bq
    (go_wp2_with fail); refine (c49 _ _).mono ?_; rw [H2.out]; rintro e wn ⟨rfl, rfl⟩
    (go_wp2_with fail); refine (c49 _ _).mono ?_; rw [H3.out]; rintro e wn ⟨rfl, rfl⟩
    (go_wp2_with fail); refine (c50 u q cap o f z _ HX.out (motB_mot H1.out) hf1 hz2 hfz).mono ?_; rw [HLE.out]; rintro e wn ⟨⟨p2, c2, rfl, hrd⟩, bq⟩; replace HB := Lib.hid (HB.out.trans (bq.mono HB.out.size)); replace HX := Lib.hid (HX.out.below bq); replace HR := Lib.hid (HR.out.below bq); clear bq
    have HR2 := Lib.hid hrd
    clear hrd
    (go_wp2_with fail); refine (c30 p c l p2 c2 l _ HR.out HR2.out (by omega)).mono ?_; rw [decide_eq_true rfl]; rintro e wn ⟨rfl, nq, hq⟩; (have bq := below_dr hq); clear hq; replace HB := Lib.hid (HB.out.trans (bq.mono HB.out.size)); clear bq
    (go_wp2_with fail); refine (c25 _).mono ?_; rintro e wn ⟨rfl, bq⟩; replace HB := Lib.hid (HB.out.trans (bq.mono HB.out.size)); clear bq; go_wp2; go_ret; exact ⟨rfl, HB.out⟩
end Go.Proofs.YtncfgkhbenmpoaaGreatDoor
end

section
namespace Go.Proofs.YtncfgkhbenmpoaaGreatDoor
open Go Go.RowKit Go.Proofs
set_option linter.unusedVariables false
attribute [local go_sem] imax2 imin2

set_option maxRecDepth 100000 in
theorem c54_no (u : Int) (q : Option Addr) (cap : Nat) (o : List Int) (z t : Int) (w : World) (hx : RdI w q o) (hl : o.length ≤ 17592186044416) (h : (motB u o && inB z (-200000) 200000 && inB t 0 2000) = false) :
    Calls Tryz.prog 54 #[.agg #[.int .i64 u, .slice q o.length cap], .int .i64 z, .int .i64 t] w fun e w' => e = .returned (.tuple #[.slice none 0 0, .int .i64 2]) ∧ Below w.heap.size w w' := by
  obtain ⟨w0, e0, HS, k0, k1, b0⟩ := box2 w (.int .i64 u) (.slice q o.length cap) 61
  have HX := Lib.hid (hx.below b0)
  have HB := Lib.hid b0
  have HOK := Lib.hid h
  clear hx b0 h
  go_enter Tryz.func54, Tryz.ntmps54
  (go_wp2_with fail); refine (c103 u q cap o _ HX.out hl).mono ?_; rintro e wn ⟨rfl, bq⟩; replace HB := Lib.hid (HB.out.trans (bq.mono HB.out.size)); replace HX := Lib.hid (HX.out.below bq); clear bq
  clear e0
  cases hTT : (motB u o); (case false => ((clear hTT); go_wp2; go_ret2; exact ⟨rfl, HB.out⟩)); have H1 := Lib.hid hTT; clear hTT
  (go_wp2_with fail); refine (c90 _ _ _ _).mono ?_; rintro e wn ⟨rfl, rfl⟩
  cases hTT : (inB z (-200000) 200000); (case false => ((clear hTT); go_wp2; go_ret2; exact ⟨rfl, HB.out⟩)); have H2 := Lib.hid hTT; clear hTT
  (go_wp2_with fail); refine (c104 _ _).mono ?_; rintro e wn ⟨rfl, rfl⟩
  cases hTT : (inB t 0 2000); (case false => ((clear hTT); go_wp2; go_ret2; exact ⟨rfl, HB.out⟩)); have H3 := Lib.hid hTT; clear hTT
  exact absurd HOK.out (by rw [H1.out, H2.out, H3.out]; simp)

set_option maxRecDepth 100000 in
theorem c51_no (u : Int) (q : Option Addr) (cap : Nat) (o : List Int) (t : Int) (w : World) (hx : RdI w q o) (hl : o.length ≤ 17592186044416) (h : (motB u o && inB t 0 2000) = false) :
    Calls Tryz.prog 51 #[.agg #[.int .i64 u, .slice q o.length cap], .int .i64 t] w fun e w' => e = .returned (.tuple #[.int .i64 0, .int .i64 0, .int .i64 0, .int .i64 2]) ∧ Below w.heap.size w w' := by
  obtain ⟨w0, e0, HS, k0, k1, b0⟩ := box2 w (.int .i64 u) (.slice q o.length cap) 61
  have HX := Lib.hid (hx.below b0)
  have HB := Lib.hid b0
  have HOK := Lib.hid h
  clear hx b0 h
  go_enter Tryz.func51, Tryz.ntmps51
  (go_wp2_with fail); refine (c103 u q cap o _ HX.out hl).mono ?_; rintro e wn ⟨rfl, bq⟩; replace HB := Lib.hid (HB.out.trans (bq.mono HB.out.size)); replace HX := Lib.hid (HX.out.below bq); clear bq
  clear e0
  cases hTT : (motB u o); (case false => ((clear hTT); go_wp2; (try simp only [Exit.inBlock, Exit.then]); refine bodyPost_ret (v := .tuple #[.int .i64 0, .int .i64 0, .int .i64 0, .int .i64 2]) (by simp [results, Tryz.results51, go_sem]) rfl ⟨rfl, HB.out⟩)); have H1 := Lib.hid hTT; clear hTT
  (go_wp2_with fail); refine (c104 _ _).mono ?_; rintro e wn ⟨rfl, rfl⟩
  cases hTT : (inB t 0 2000); (case false => ((clear hTT); go_wp2; (try simp only [Exit.inBlock, Exit.then]); refine bodyPost_ret (v := .tuple #[.int .i64 0, .int .i64 0, .int .i64 0, .int .i64 2]) (by simp [results, Tryz.results51, go_sem]) rfl ⟨rfl, HB.out⟩)); have H3 := Lib.hid hTT; clear hTT
  exact absurd HOK.out (by rw [H1.out, H3.out]; simp)

theorem place_ok {u : Int} {o : List Int} {t : Int} {w : World} {e : Ending} {w' : World} (h : PlacePost u o t w e w') (ho : (motB u o && inB t 0 2000) = true) : e = .returned (.tuple #[.int .i64 (plc u o t), .int .i64 0]) ∧ Below w.heap.size w w' := by
  obtain ⟨b, e⟩ := h; rw [if_pos ho] at e; exact ⟨e, b⟩
theorem place_no {u : Int} {o : List Int} {t : Int} {w : World} {e : Ending} {w' : World} (h : PlacePost u o t w e w') (ho : (motB u o && inB t 0 2000) = false) : e = .returned (.tuple #[.int .i64 0, .int .i64 2]) ∧ Below w.heap.size w w' := by
  obtain ⟨b, e⟩ := h; rw [if_neg (by rw [ho]; simp)] at e; exact ⟨e, b⟩
theorem c53_ok (u : Int) (q : Option Addr) (cap : Nat) (o : List Int) (t : Int) (w : World) (hx : RdI w q o) (hm : motB u o = true) (ht : inB t 0 2000 = true) :
    Calls Tryz.prog 53 #[.agg #[.int .i64 u, .slice q o.length cap], .int .i64 t] w fun e w' => e = .returned (.tuple #[.int .i64 (plc u o t), .int .i64 0]) ∧ Below w.heap.size w w' :=
  (c53 u q cap o t w hx (by have := (motB_mot hm).l1; omega)).mono fun e w' h => place_ok h (by rw [hm, ht]; rfl)
theorem c53_no (u : Int) (q : Option Addr) (cap : Nat) (o : List Int) (t : Int) (w : World) (hx : RdI w q o) (hl : o.length ≤ 17592186044416) (h : (motB u o && inB t 0 2000) = false) :
    Calls Tryz.prog 53 #[.agg #[.int .i64 u, .slice q o.length cap], .int .i64 t] w fun e w' => e = .returned (.tuple #[.int .i64 0, .int .i64 2]) ∧ Below w.heap.size w w' :=
  (c53 u q cap o t w hx hl).mono fun e w' hp => place_no hp h

set_option maxRecDepth 100000 in
set_option maxHeartbeats 1000000 in
theorem law12 (u : Int) (q : Option Addr) (cap : Nat) (o : List Int) (t z : Int) (w : World) (hx : RdI w q o) :
    Calls Tryz.prog 12 #[.agg #[.int .i64 u, .slice q o.length cap], .int .i64 t, .int .i64 z] w (LawPost w) := by
  obtain ⟨w0, e0, HS, k0, k1, b0⟩ := box2 w (.int .i64 u) (.slice q o.length cap) 61
  have HX := Lib.hid (hx.below b0)
  have HB := Lib.hid b0
  clear hx b0
  go_enter Tryz.func12, Tryz.ntmps12
  (go_wp2_with fail); refine (c46 u q o.length cap _).mono ?_; rintro e wn ⟨rfl, bq⟩; replace HB := Lib.hid (HB.out.trans (bq.mono HB.out.size)); replace HX := Lib.hid (HX.out.below bq); replace k0 := (bq.cell (lt_of_cellq k0)).trans k0; replace k1 := (bq.cell (lt_of_cellq k1)).trans k1; clear bq
  clear e0
  cases hTT : (decide (o.length ≤ 27)); (case false => ((clear hTT); (go_wp2_with fail); refine (c25 _).mono ?_; rintro e wn ⟨rfl, bq⟩; replace HB := Lib.hid (HB.out.trans (bq.mono HB.out.size)); clear bq; go_wp2; go_ret; exact ⟨rfl, HB.out⟩)); have HSH := Lib.hid hTT; clear hTT
  have hl := of_decide_eq_true HSH.out
  cases hok : (motB u o && inB t 0 2000) with
  | false =>
    have HOK := Lib.hid hok
    clear hok
    (go_wp2_with fail); refine (c53_no u q cap o t _ HX.out (by omega) HOK.out).mono ?_; rintro e wn ⟨rfl, bq⟩; replace HB := Lib.hid (HB.out.trans (bq.mono HB.out.size)); replace HX := Lib.hid (HX.out.below bq); replace k0 := (bq.cell (lt_of_cellq k0)).trans k0; replace k1 := (bq.cell (lt_of_cellq k1)).trans k1; clear bq
    (go_wp2_with fail); refine (c54_no u q cap o z t _ HX.out (by omega) (by have := HOK.out; cases h1 : motB u o <;> cases h2 : inB t 0 2000 <;> simp_all)).mono ?_; rintro e wn ⟨rfl, bq⟩; replace HB := Lib.hid (HB.out.trans (bq.mono HB.out.size)); replace HX := Lib.hid (HX.out.below bq); replace k0 := (bq.cell (lt_of_cellq k0)).trans k0; replace k1 := (bq.cell (lt_of_cellq k1)).trans k1; clear bq
    (go_wp2_with fail); refine (c48 u q cap o _ HX.out (by omega)).mono ?_; rintro e wn ⟨rfl, bq⟩; replace HB := Lib.hid (HB.out.trans (bq.mono HB.out.size)); replace HX := Lib.hid (HX.out.below bq); replace k0 := (bq.cell (lt_of_cellq k0)).trans k0; replace k1 := (bq.cell (lt_of_cellq k1)).trans k1; clear bq
    cases hTT : (motB u o); (case false => ((clear hTT); (go_wp2_with fail); refine (c25 _).mono ?_; rintro e wn ⟨rfl, bq⟩; replace HB := Lib.hid (HB.out.trans (bq.mono HB.out.size)); clear bq; go_wp2; go_ret; exact ⟨rfl, HB.out⟩)); have H1 := Lib.hid hTT; clear hTT
    (go_wp2_with fail); refine (c49 _ _).mono ?_; rintro e wn ⟨rfl, rfl⟩
    cases hTT : (inB t 0 2000); (case false => ((clear hTT); (go_wp2_with fail); refine (c25 _).mono ?_; rintro e wn ⟨rfl, bq⟩; replace HB := Lib.hid (HB.out.trans (bq.mono HB.out.size)); clear bq; go_wp2; go_ret; exact ⟨rfl, HB.out⟩)); have H2 := Lib.hid hTT; clear hTT
    exact absurd HOK.out (by rw [H1.out, H2.out]; simp)
  | true =>
    rw [Bool.and_eq_true] at hok
    obtain ⟨h1, h2⟩ := hok
    have H1 := Lib.hid h1
    have H2 := Lib.hid h2
    obtain ⟨hf1, hf2⟩ : 0 ≤ t ∧ t ≤ 2000 := by unfold inB at h2; simpa using h2
    obtain ⟨n, rfl⟩ : ∃ n : Nat, t = n := ⟨t.toNat, by omega⟩
    have HMO := Lib.hid (motB_mot h1)
    clear h1 h2
    have HPL : ∃ x, plc u o n = x := ⟨_, rfl⟩
    obtain ⟨x, hxx⟩ := HPL
    have HXX := Lib.hid hxx
    clear hxx
    (go_wp2_with fail); refine (c53_ok u q cap o n _ HX.out H1.out H2.out).mono ?_; rw [HXX.out]; rintro e wn ⟨rfl, bq⟩; replace HB := Lib.hid (HB.out.trans (bq.mono HB.out.size)); replace HX := Lib.hid (HX.out.below bq); replace k0 := (bq.cell (lt_of_cellq k0)).trans k0; replace k1 := (bq.cell (lt_of_cellq k1)).trans k1; clear bq
    cases hz : inB z (-200000) 200000 with
    | false =>
      have HZ := Lib.hid hz
      clear hz
      (go_wp2_with fail); refine (c54_no u q cap o z n _ HX.out (by omega) (by rw [HZ.out]; simp)).mono ?_; rintro e wn ⟨rfl, bq⟩; replace HB := Lib.hid (HB.out.trans (bq.mono HB.out.size)); replace HX := Lib.hid (HX.out.below bq); replace k0 := (bq.cell (lt_of_cellq k0)).trans k0; replace k1 := (bq.cell (lt_of_cellq k1)).trans k1; clear bq
      (go_wp2_with fail); refine (c48 u q cap o _ HX.out (by omega)).mono ?_; rw [H1.out]; rintro e wn ⟨rfl, bq⟩; replace HB := Lib.hid (HB.out.trans (bq.mono HB.out.size)); replace HX := Lib.hid (HX.out.below bq); replace k0 := (bq.cell (lt_of_cellq k0)).trans k0; replace k1 := (bq.cell (lt_of_cellq k1)).trans k1; clear bq
      (go_wp2_with fail); refine (c49 _ _).mono ?_; rw [H2.out]; rintro e wn ⟨rfl, rfl⟩
      (go_wp2_with fail); refine (c55 u q cap o n _ HX.out HMO.out (by omega)).mono ?_; rw [HXX.out]; rintro e wn ⟨rfl, bq⟩; replace HB := Lib.hid (HB.out.trans (bq.mono HB.out.size)); replace HX := Lib.hid (HX.out.below bq); replace k0 := (bq.cell (lt_of_cellq k0)).trans k0; replace k1 := (bq.cell (lt_of_cellq k1)).trans k1; clear bq
      have hxn : (x != x) = false := by simp
      (go_wp2_with fail); refine (c56 _ _).mono ?_; rw [HZ.out]; rintro e wn ⟨rfl, rfl⟩
      (go_wp2_with fail); refine (c25 _).mono ?_; rintro e wn ⟨rfl, bq⟩; replace HB := Lib.hid (HB.out.trans (bq.mono HB.out.size)); clear bq; go_wp2; go_ret; exact ⟨rfl, HB.out⟩
    | true =>
      have HZ := Lib.hid hz
      clear hz
      have hn := passF_le u o z (n + 1)
      obtain ⟨l, hle⟩ : ∃ l, passF u o z (n + 1) = l := ⟨_, rfl⟩
      have hll : l.length ≤ 10000 := by rw [hle] at hn; omega
      have HLE := Lib.hid hle
      clear hn hle
      (go_wp2_with fail); refine (c54_ok u q cap o z n _ HX.out H1.out HZ.out (by omega)).mono ?_; rw [HLE.out]; rintro e wn ⟨⟨p, c, rfl, hrd⟩, bq⟩; replace HB := Lib.hid (HB.out.trans (bq.mono HB.out.size)); replace HX := Lib.hid (HX.out.below bq); replace k0 := (bq.cell (lt_of_cellq k0)).trans k0; replace k1 := (bq.cell (lt_of_cellq k1)).trans k1; clear bq
      have HR := Lib.hid hrd
      clear hrd
      (go_wp2_with fail); refine (c48 u q cap o _ HX.out (by omega)).mono ?_; rw [H1.out]; rintro e wn ⟨rfl, bq⟩; replace HB := Lib.hid (HB.out.trans (bq.mono HB.out.size)); replace HX := Lib.hid (HX.out.below bq); replace HR := Lib.hid (HR.out.below bq); replace k0 := (bq.cell (lt_of_cellq k0)).trans k0; replace k1 := (bq.cell (lt_of_cellq k1)).trans k1; clear bq
      (go_wp2_with fail); refine (c49 _ _).mono ?_; rw [H2.out]; rintro e wn ⟨rfl, rfl⟩
      (go_wp2_with fail); refine (c55 u q cap o n _ HX.out HMO.out (by omega)).mono ?_; rw [HXX.out]; rintro e wn ⟨rfl, bq⟩; replace HB := Lib.hid (HB.out.trans (bq.mono HB.out.size)); replace HX := Lib.hid (HX.out.below bq); replace HR := Lib.hid (HR.out.below bq); replace k0 := (bq.cell (lt_of_cellq k0)).trans k0; replace k1 := (bq.cell (lt_of_cellq k1)).trans k1; clear bq
      have hxn : (x != x) = false := by simp
      (go_wp2_with fail); refine (c56 _ _).mono ?_; rw [HZ.out]; rintro e wn ⟨rfl, rfl⟩
      (go_wp2_with fail); refine (c57 u q cap o z n _ HX.out HMO.out (by omega)).mono ?_; rw [HLE.out]; rintro e wn ⟨⟨p2, c2, rfl, hrd⟩, bq⟩; replace HB := Lib.hid (HB.out.trans (bq.mono HB.out.size)); replace HX := Lib.hid (HX.out.below bq); replace HR := Lib.hid (HR.out.below bq); clear bq
      have HR2 := Lib.hid hrd
      clear hrd
      (go_wp2_with fail); refine (c30 p c l p2 c2 l _ HR.out HR2.out (by omega)).mono ?_; rw [decide_eq_true rfl]; rintro e wn ⟨rfl, nq, hq⟩; (have bq := below_dr hq); clear hq; replace HB := Lib.hid (HB.out.trans (bq.mono HB.out.size)); clear bq
      (go_wp2_with fail); refine (c25 _).mono ?_; rintro e wn ⟨rfl, bq⟩; replace HB := Lib.hid (HB.out.trans (bq.mono HB.out.size)); clear bq; go_wp2; go_ret; exact ⟨rfl, HB.out⟩

set_option maxRecDepth 100000 in
set_option maxHeartbeats 1000000 in
theorem law10 (u : Int) (q : Option Addr) (cap : Nat) (o : List Int) (t : Int) (w : World) (hx : RdI w q o) :
    Calls Tryz.prog 10 #[.agg #[.int .i64 u, .slice q o.length cap], .int .i64 t] w (LawPost w) := by
  obtain ⟨w0, e0, HS, k0, k1, b0⟩ := box2 w (.int .i64 u) (.slice q o.length cap) 61
  have HX := Lib.hid (hx.below b0)
  have HB := Lib.hid b0
  clear hx b0
  go_enter Tryz.func10, Tryz.ntmps10
  (go_wp2_with fail); refine (c46 u q o.length cap _).mono ?_; rintro e wn ⟨rfl, bq⟩; replace HB := Lib.hid (HB.out.trans (bq.mono HB.out.size)); replace HX := Lib.hid (HX.out.below bq); replace k0 := (bq.cell (lt_of_cellq k0)).trans k0; replace k1 := (bq.cell (lt_of_cellq k1)).trans k1; clear bq
  clear e0
  cases hTT : (decide (o.length ≤ 27)); (case false => ((clear hTT); (go_wp2_with fail); refine (c25 _).mono ?_; rintro e wn ⟨rfl, bq⟩; replace HB := Lib.hid (HB.out.trans (bq.mono HB.out.size)); clear bq; go_wp2; go_ret; exact ⟨rfl, HB.out⟩)); have HSH := Lib.hid hTT; clear hTT
  have hl := of_decide_eq_true HSH.out
  cases hok : (motB u o && inB t 0 2000) with
  | false =>
    have HOK := Lib.hid hok
    clear hok
    (go_wp2_with fail); refine (c51_no u q cap o t _ HX.out (by omega) HOK.out).mono ?_; rintro e wn ⟨rfl, bq⟩; replace HB := Lib.hid (HB.out.trans (bq.mono HB.out.size)); replace HX := Lib.hid (HX.out.below bq); replace k0 := (bq.cell (lt_of_cellq k0)).trans k0; replace k1 := (bq.cell (lt_of_cellq k1)).trans k1; clear bq
    (go_wp2_with fail); refine (c48 u q cap o _ HX.out (by omega)).mono ?_; rintro e wn ⟨rfl, bq⟩; replace HB := Lib.hid (HB.out.trans (bq.mono HB.out.size)); replace HX := Lib.hid (HX.out.below bq); replace k0 := (bq.cell (lt_of_cellq k0)).trans k0; replace k1 := (bq.cell (lt_of_cellq k1)).trans k1; clear bq
    cases hTT : (motB u o); (case false => ((clear hTT); (go_wp2_with fail); refine (c25 _).mono ?_; rintro e wn ⟨rfl, bq⟩; replace HB := Lib.hid (HB.out.trans (bq.mono HB.out.size)); clear bq; go_wp2; go_ret; exact ⟨rfl, HB.out⟩)); have H1 := Lib.hid hTT; clear hTT
    (go_wp2_with fail); refine (c49 _ _).mono ?_; rintro e wn ⟨rfl, rfl⟩
    cases hTT : (inB t 0 2000); (case false => ((clear hTT); (go_wp2_with fail); refine (c25 _).mono ?_; rintro e wn ⟨rfl, bq⟩; replace HB := Lib.hid (HB.out.trans (bq.mono HB.out.size)); clear bq; go_wp2; go_ret; exact ⟨rfl, HB.out⟩)); have H2 := Lib.hid hTT; clear hTT
    exact absurd HOK.out (by rw [H1.out, H2.out]; simp)
  | true =>
    rw [Bool.and_eq_true] at hok
    obtain ⟨h1, h2⟩ := hok
    have H1 := Lib.hid h1
    have H2 := Lib.hid h2
    obtain ⟨hf1, hf2⟩ : 0 ≤ t ∧ t ≤ 2000 := by unfold inB at h2; simpa using h2
    obtain ⟨n, rfl⟩ : ∃ n : Nat, t = n := ⟨t.toNat, by omega⟩
    clear h1 h2
    obtain ⟨r, hr⟩ : ∃ r, retTo u o (staF u o 0 (n + 1)) ((staF u o 0 (n + 1)).length - 1) = r := ⟨_, rfl⟩
    have HR := Lib.hid hr
    clear hr
    obtain ⟨x, y, v⟩ := r
    (go_wp2_with fail); refine (c51_ok u q cap o n _ HX.out H1.out (by omega)).mono ?_; rw [HR.out]; rintro e wn ⟨rfl, bq⟩; replace HB := Lib.hid (HB.out.trans (bq.mono HB.out.size)); replace HX := Lib.hid (HX.out.below bq); replace k0 := (bq.cell (lt_of_cellq k0)).trans k0; replace k1 := (bq.cell (lt_of_cellq k1)).trans k1; clear bq
    (go_wp2_with fail); refine (c48 u q cap o _ HX.out (by omega)).mono ?_; rw [H1.out]; rintro e wn ⟨rfl, bq⟩; replace HB := Lib.hid (HB.out.trans (bq.mono HB.out.size)); replace HX := Lib.hid (HX.out.below bq); replace k0 := (bq.cell (lt_of_cellq k0)).trans k0; replace k1 := (bq.cell (lt_of_cellq k1)).trans k1; clear bq
    (go_wp2_with fail); refine (c49 _ _).mono ?_; rw [H2.out]; rintro e wn ⟨rfl, rfl⟩
    (go_wp2_with fail); refine (c52 u q cap o n _ HX.out H1.out (by omega)).mono ?_; rw [HR.out]; rintro e wn ⟨rfl, bq⟩; replace HB := Lib.hid (HB.out.trans (bq.mono HB.out.size)); replace HX := Lib.hid (HX.out.below bq); clear bq
    have hx1 : (x == x) = true := by simp
    have hx2 : (y == y) = true := by simp
    have hx3 : (v == v) = true := by simp
    (go_wp2_with fail); refine (c25 _).mono ?_; rintro e wn ⟨rfl, bq⟩; replace HB := Lib.hid (HB.out.trans (bq.mono HB.out.size)); clear bq; go_wp2; go_ret; exact ⟨rfl, HB.out⟩
end Go.Proofs.YtncfgkhbenmpoaaGreatDoor
end
