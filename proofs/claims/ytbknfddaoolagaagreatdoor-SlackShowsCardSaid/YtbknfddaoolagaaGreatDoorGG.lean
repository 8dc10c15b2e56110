/-
  The references' comparisons of lists of numbers and of spans.
  The references' words on what is as defined, and short lists: contracts.
  The references' word on what a piece is: contract.
-/
import Derived.Test.YtbknfddaoolagaaGreatDoorGF
import Derived.Test.YtbknfddaoolagaaGreatDoorGB
import Derived.Test.YtbknfddaoolagaaGreatDoorGC
section
namespace Go.Proofs.YtbknfddaoolagaaGreatDoor
open Go Go.RowKit Go.Proofs
set_option linter.unusedVariables false
attribute [local go_sem] imax2 imin2

theorem drew_add (w : World) (m n : Nat) : (w.drewN m).drewN n = w.drewN (m + n) := by simp [World.drewN, Nat.add_assoc]
set_option maxHeartbeats 400000 in
set_option maxRecDepth 100000 in
theorem c_same (p : Option Addr) (cap : Nat) (xs : List Int) (q : Option Addr) (cap' : Nat) (ys : List Int) (w : World) (hx : RdI w p xs) (hy : RdI w q ys) (hl : xs.length ≤ 1000000) :
    Calls Tryz.prog 38 #[.slice p xs.length cap, .slice q ys.length cap'] w fun e w' => e = .returned (.bool (decide (xs = ys))) ∧ ∃ n, w' = w.drewN n := by
  by_cases h3 : xs.length = ys.length
  · have HL := Lib.hid h3
    have h3' : ((xs.length : Int) != (ys.length : Int)) = false := by simp [h3]
    clear h3
    go_enter Tryz.func38, Tryz.ntmps38
    go_wp2
    go_loopw [5] (fun i wr => ∃ k : Nat, k ≤ xs.length ∧ i = .int .i64 k ∧ Hid (∀ j, j < k → gi xs j = gi ys j) ∧ ∃ m, wr = w.drewN m) (fun i _ => xs.length - (intOf i).toNat)
    case atStart => exact ⟨0, by omega, rfl, Lib.hid (by intro j hj; omega), 0, by rfl⟩
    case round =>
      obtain ⟨k, hk, rfl, HK, m, rfl⟩ := hrel
      by_cases hlt : k < xs.length
      · obtain ⟨b, off, rfl, hc⟩ := hx.at hlt
        have hlt2 : k < ys.length := by have := HL.out; omega
        obtain ⟨b', off', rfl, hc'⟩ := hy.at hlt2; have h1 := hc k hlt; have h2 := hc' k hlt2; clear hc hx hc' hy
        by_cases he : gi xs k = gi ys k
        · have HE := Lib.hid he
          have he' : (gi xs k != gi ys k) = false := by simp [he]
          clear he; go_wp2; refine wp_region_quiet_lit (by kernel_rfl) (by kernel_rfl) ?_; (repeat (first | ((with_reducible first | apply wq_ix Tryz.underlying24 szI | apply wq_ix Tryz.underlying38 szSp | apply wq_ix Tryz.underlying23 szM | apply wq_ix Tryz.underlying25 szR | apply wq_ix Tryz.underlying51 szL | apply wq_ix Tryz.underlying91 szT); (focus rfl); (focus rfl); (focus rfl); (focus omega); (try simp only [Nat.mul_one]); go_frame) | ((with_reducible first | apply wq_ld agI | apply wq_ld agB | apply wq_ld agLI | apply wq_ld agLS | apply wq_ld agLM | apply wq_ld agLR | apply wq_ld agLL | apply wq_ld agLT); (focus rfl); (focus rfl); (focus (rintro _ ⟨_, rfl⟩; first | exact h1 | exact h2)); go_frame) | ((with_reducible first | apply wq_add | apply wq_sub | apply wq_mul | apply wq_rem); (focus rfl); (focus rfl); (focus rfl); (focus omega); (focus omega); go_frame) | ((with_reducible first | apply wq_eql | apply wq_neq | apply wq_lss | apply wq_leq | apply wq_gtr | apply wq_geq | apply wq_max2 | apply wq_min2); (focus rfl); (focus rfl); (focus rfl); go_frame) | ((with_reducible first | apply wq_max3 | apply wq_min3); (focus rfl); (focus rfl); (focus rfl); (focus rfl); go_frame) | go_big_quiet_step (fail))); refine wpQuiet_nil ?_; rintro _ ⟨nq, rfl⟩
          go_wp2; go_roundw
          case rel =>
            refine ⟨k + 1, by omega, by go_num, Lib.hid fun j hj => ?_, _, rfl⟩
            rcases Nat.lt_or_ge j k with h | h
            · exact HK.out j h
            · obtain rfl : j = k := by omega
              exact HE.out
          case measure => simp [intOf]; omega
        · have HE := Lib.hid he
          have he' : (gi xs k != gi ys k) = true := by simp [he]
          clear he; go_wp2; refine wp_region_quiet_lit (by kernel_rfl) (by kernel_rfl) ?_; (repeat (first | ((with_reducible first | apply wq_ix Tryz.underlying24 szI | apply wq_ix Tryz.underlying38 szSp | apply wq_ix Tryz.underlying23 szM | apply wq_ix Tryz.underlying25 szR | apply wq_ix Tryz.underlying51 szL | apply wq_ix Tryz.underlying91 szT); (focus rfl); (focus rfl); (focus rfl); (focus omega); (try simp only [Nat.mul_one]); go_frame) | ((with_reducible first | apply wq_ld agI | apply wq_ld agB | apply wq_ld agLI | apply wq_ld agLS | apply wq_ld agLM | apply wq_ld agLR | apply wq_ld agLL | apply wq_ld agLT); (focus rfl); (focus rfl); (focus (rintro _ ⟨_, rfl⟩; first | exact h1 | exact h2)); go_frame) | ((with_reducible first | apply wq_add | apply wq_sub | apply wq_mul | apply wq_rem); (focus rfl); (focus rfl); (focus rfl); (focus omega); (focus omega); go_frame) | ((with_reducible first | apply wq_eql | apply wq_neq | apply wq_lss | apply wq_leq | apply wq_gtr | apply wq_geq | apply wq_max2 | apply wq_min2); (focus rfl); (focus rfl); (focus rfl); go_frame) | ((with_reducible first | apply wq_max3 | apply wq_min3); (focus rfl); (focus rfl); (focus rfl); (focus rfl); go_frame) | go_big_quiet_step (fail))); refine wpQuiet_nil ?_; rintro _ ⟨nq, rfl⟩
          go_wp2; go_ret; refine ⟨?_, m + nq, drew_add _ _ _⟩; rw [decide_eq_false (fun e => HE.out (by rw [e]))]; rfl
      · obtain rfl : k = xs.length := by omega
        go_wp2; go_ret; refine ⟨?_, m, rfl⟩; rw [decide_eq_true (gi_ext HL.out HK.out)]; rfl
  · have h3' : ((xs.length : Int) != (ys.length : Int)) = true := by simp; omega
    have HL := Lib.hid h3; clear h3
    go_enter Tryz.func38, Tryz.ntmps38
    go_wp2; go_ret; refine ⟨?_, 0, rfl⟩; rw [decide_eq_false (fun e => HL.out (by rw [e]))]; rfl

theorem gmx_ext {xs ys : List (Int × Int)} (hl : xs.length = ys.length) (h : ∀ j, j < xs.length → gm xs j = gm ys j) : xs = ys := by
  apply List.ext_getElem hl; intro i h1 h2; have := h i h1; unfold gm at this
  simpa [h1, h2] using this

theorem wq_neq50 {C : World → Prop} {ops : Array Oper} {Q : Act → Prop} {rest : List Oper} {a : Act} {d : Nat} {x y : Operand} {ty : TypeId} {pos : String} {af : Array Edge} {g : Option (Nat × Bool)} {a1 a2 b1 b2 : Int}
    (hw : Region.wanted ⟨some d, .binOp .neq 44 x y 44, ty, pos, af, g⟩ (yielded ops a.tmps) = true) (hx : a.eval x = .agg #[.int .i64 a1, .int .i64 a2]) (hy : a.eval y = .agg #[.int .i64 b1, .int .i64 b2])
    (hk : wpQuiet Tryz.prog ops C Q rest (a.put (some d) (.bool (!(a1 == b1 && a2 == b2))))) : wpQuiet Tryz.prog ops C Q (⟨some d, .binOp .neq 44 x y 44, ty, pos, af, g⟩ :: rest) a :=
  wq hw (q_val (o := ⟨some d, .binOp .neq 44 x y 44, ty, pos, af, g⟩) (.bool (!(a1 == b1 && a2 == b2))) (fun w _ => by
    unfold execOp; dsimp only; rw [hx, hy]; by_cases h1 : a1 = b1 <;> by_cases h2 : a2 = b2 <;> simp [go_sem, h1, h2]) hk)

theorem scells {w : World} {b o : Nat} {v0 v1 : Value} (h0 : w.cell? ⟨b, o, none⟩ = some v0) (h1 : w.cell? ⟨b, o + 1, none⟩ = some v1) :
    ∀ j v, [v0, v1][j]? = some v → w.cell? ((⟨b, o, none⟩ : Addr).add j) = some v := by
  intro j v hj; have e : (⟨b, o, none⟩ : Addr).add j = ⟨b, o + j, none⟩ := by unfold Addr.add; split <;> simp_all
  rw [e]
  match j, hj with
  | 0, hj => simp at hj; subst hj; exact h0
  | 1, hj => simp at hj; subst hj; exact h1

theorem qcells {w : World} {cs : List Value} {ad : Addr} (h : ∀ j v, cs[j]? = some v → w.cell? (ad.add j) = some v) : ∀ w', (∃ n, w' = w.drewN n) → ∀ j v, cs[j]? = some v → w'.cell? (ad.add j) = some v := by
  rintro _ ⟨n, rfl⟩; exact h

set_option maxHeartbeats 400000 in
set_option maxRecDepth 100000 in
theorem c_sameSpans (p : Option Addr) (cap : Nat) (xs : List (Int × Int)) (q : Option Addr) (cap' : Nat) (ys : List (Int × Int)) (w : World) (hx : RdS w p xs) (hy : RdS w q ys) (hl : xs.length ≤ 1000000) :
    Calls Tryz.prog 36 #[.slice p xs.length cap, .slice q ys.length cap'] w fun e w' => e = .returned (.bool (decide (xs = ys))) ∧ ∃ n, w' = w.drewN n := by
  by_cases h3 : xs.length = ys.length
  · have HL := Lib.hid h3
    have h3' : ((xs.length : Int) != (ys.length : Int)) = false := by simp [h3]
    clear h3
    go_enter Tryz.func36, Tryz.ntmps36
    go_wp2
    go_loopw [5] (fun i wr => ∃ k : Nat, k ≤ xs.length ∧ i = .int .i64 k ∧ Hid (∀ j, j < k → gm xs j = gm ys j) ∧ ∃ m, wr = w.drewN m) (fun i _ => xs.length - (intOf i).toNat)
    case atStart => exact ⟨0, by omega, rfl, Lib.hid (by intro j hj; omega), 0, by rfl⟩
    case round =>
      obtain ⟨k, hk, rfl, HK, m, rfl⟩ := hrel
      by_cases hlt : k < xs.length
      · obtain ⟨b, off, rfl, hc⟩ := hx.at hlt
        have hlt2 : k < ys.length := by have := HL.out; omega
        obtain ⟨b', off', rfl, hc'⟩ := hy.at hlt2; have h1 := qcells (w := w.drewN m) (scells (w := w.drewN m) (hc k hlt).1 (hc k hlt).2); have h2 := qcells (w := w.drewN m) (scells (w := w.drewN m) (hc' k hlt2).1 (hc' k hlt2).2); have H1 := Lib.hid h1; have H2 := Lib.hid h2; clear hc hx hc' hy h1 h2
        by_cases he : gm xs k = gm ys k
        · have HE := Lib.hid he
          have he' : (!((gm xs k).1 == (gm ys k).1 && (gm xs k).2 == (gm ys k).2)) = false := by simp [he]
          clear he; go_wp2; refine wp_region_quiet_lit (by kernel_rfl) (by kernel_rfl) ?_; (repeat (first | ((with_reducible refine wq_lda agSp szSp ?_ ?_ ?_ H1.out ?_); (focus rfl); (focus rfl); (focus rfl); go_frame) | ((with_reducible refine wq_lda agSp szSp ?_ ?_ ?_ H2.out ?_); (focus rfl); (focus rfl); (focus rfl); go_frame) | ((with_reducible apply wq_neq50); (focus rfl); (focus rfl); (focus rfl); go_frame) | (rw [he']) | ((with_reducible first | apply wq_ix Tryz.underlying24 szI | apply wq_ix Tryz.underlying38 szSp | apply wq_ix Tryz.underlying23 szM | apply wq_ix Tryz.underlying25 szR | apply wq_ix Tryz.underlying51 szL | apply wq_ix Tryz.underlying91 szT); (focus rfl); (focus rfl); (focus rfl); (focus omega); (try simp only [Nat.mul_one]); go_frame) | ((with_reducible first | apply wq_ld agI | apply wq_ld agB | apply wq_ld agLI | apply wq_ld agLS | apply wq_ld agLM | apply wq_ld agLR | apply wq_ld agLL | apply wq_ld agLT); (focus rfl); (focus rfl); (focus (rintro _ ⟨_, rfl⟩; first | fail)); go_frame) | ((with_reducible first | apply wq_add | apply wq_sub | apply wq_mul | apply wq_rem); (focus rfl); (focus rfl); (focus rfl); (focus omega); (focus omega); go_frame) | ((with_reducible first | apply wq_eql | apply wq_neq | apply wq_lss | apply wq_leq | apply wq_gtr | apply wq_geq | apply wq_max2 | apply wq_min2); (focus rfl); (focus rfl); (focus rfl); go_frame) | ((with_reducible first | apply wq_max3 | apply wq_min3); (focus rfl); (focus rfl); (focus rfl); (focus rfl); go_frame) | go_big_quiet_step (fail))); refine wpQuiet_nil ?_; rintro _ ⟨nq, rfl⟩
          go_wp2; go_roundw
          case rel =>
            refine ⟨k + 1, by omega, by go_num, Lib.hid fun j hj => ?_, _, rfl⟩
            rcases Nat.lt_or_ge j k with h | h
            · exact HK.out j h
            · obtain rfl : j = k := by omega
              exact HE.out
          case measure => simp [intOf]; omega
        · have HE := Lib.hid he
          have he' : (!((gm xs k).1 == (gm ys k).1 && (gm xs k).2 == (gm ys k).2)) = true := by
            rw [Bool.not_eq_true', Bool.and_eq_false_iff]
            by_cases h : (gm xs k).1 = (gm ys k).1
            · right; simp; intro h2; exact he (Prod.ext h h2)
            · left; simp [h]
          clear he; go_wp2; refine wp_region_quiet_lit (by kernel_rfl) (by kernel_rfl) ?_; (repeat (first | ((with_reducible refine wq_lda agSp szSp ?_ ?_ ?_ H1.out ?_); (focus rfl); (focus rfl); (focus rfl); go_frame) | ((with_reducible refine wq_lda agSp szSp ?_ ?_ ?_ H2.out ?_); (focus rfl); (focus rfl); (focus rfl); go_frame) | ((with_reducible apply wq_neq50); (focus rfl); (focus rfl); (focus rfl); go_frame) | (rw [he']) | ((with_reducible first | apply wq_ix Tryz.underlying24 szI | apply wq_ix Tryz.underlying38 szSp | apply wq_ix Tryz.underlying23 szM | apply wq_ix Tryz.underlying25 szR | apply wq_ix Tryz.underlying51 szL | apply wq_ix Tryz.underlying91 szT); (focus rfl); (focus rfl); (focus rfl); (focus omega); (try simp only [Nat.mul_one]); go_frame) | ((with_reducible first | apply wq_ld agI | apply wq_ld agB | apply wq_ld agLI | apply wq_ld agLS | apply wq_ld agLM | apply wq_ld agLR | apply wq_ld agLL | apply wq_ld agLT); (focus rfl); (focus rfl); (focus (rintro _ ⟨_, rfl⟩; first | fail)); go_frame) | ((with_reducible first | apply wq_add | apply wq_sub | apply wq_mul | apply wq_rem); (focus rfl); (focus rfl); (focus rfl); (focus omega); (focus omega); go_frame) | ((with_reducible first | apply wq_eql | apply wq_neq | apply wq_lss | apply wq_leq | apply wq_gtr | apply wq_geq | apply wq_max2 | apply wq_min2); (focus rfl); (focus rfl); (focus rfl); go_frame) | ((with_reducible first | apply wq_max3 | apply wq_min3); (focus rfl); (focus rfl); (focus rfl); (focus rfl); go_frame) | go_big_quiet_step (fail))); refine wpQuiet_nil ?_; rintro _ ⟨nq, rfl⟩
          go_wp2; go_ret; refine ⟨?_, m + nq, drew_add _ _ _⟩; rw [decide_eq_false (fun e => HE.out (by rw [e]))]; rfl
      · obtain rfl : k = xs.length := by omega
        go_wp2; go_ret; refine ⟨?_, m, rfl⟩; rw [decide_eq_true (gmx_ext HL.out HK.out)]; rfl
  · have h3' : ((xs.length : Int) != (ys.length : Int)) = true := by simp; omega
    have HL := Lib.hid h3; clear h3
    go_enter Tryz.func36, Tryz.ntmps36
    go_wp2; go_ret; refine ⟨?_, 0, rfl⟩; rw [decide_eq_false (fun e => HL.out (by rw [e]))]; rfl
end Go.Proofs.YtbknfddaoolagaaGreatDoor
end

section
namespace Go.Proofs.YtbknfddaoolagaaGreatDoor
open Go Go.RowKit Go.Proofs
set_option linter.unusedVariables false
set_option linter.unusedSimpArgs false
attribute [local go_sem] imax2 imin2

def shortB (p : Pc) : Bool := decide (p.ms.length ≤ 6) && decide (p.mv.length ≤ 10) && decide (p.rs.length ≤ 8)
theorem short_iff {p : Pc} : shortB p = true ↔ p.ms.length ≤ 6 ∧ p.mv.length ≤ 10 ∧ p.rs.length ≤ 8 := by
  unfold shortB; simp only [Bool.and_eq_true, decide_eq_true_eq, and_assoc]
theorem short_len {p : Pc} (h : shortB p = true) : LenOk p := by
  have := short_iff.1 h; exact ⟨by omega, by omega, by omega⟩
set_option maxRecDepth 100000 in
theorem c_short (pm pv pr : Option Addr) (cm cv cr : Nat) (p : Pc) (w : World) :
    Calls Tryz.prog 11 #[.agg #[.slice pm p.ms.length cm, .slice pv p.mv.length cv, .slice pr p.rs.length cr]] w fun e w' => e = .returned (.bool (shortB p)) ∧ Below w.heap.size w w' := by
  obtain ⟨w0, e0, HS0, k0, k1, k2, b0⟩ := box3 w (.slice pm p.ms.length cm) (.slice pv p.mv.length cv) (.slice pr p.rs.length cr) 27; have HB := Lib.hid b0; clear b0
  by_cases h1 : p.ms.length ≤ 6
  case neg =>
    have H := Lib.hid (show shortB p = false by unfold shortB; simp [h1]); have h1' : ¬ (p.ms.length : Int) ≤ 6 := by omega
    go_enter Tryz.func11, Tryz.ntmps11
    go_wp2; go_ret; exact ⟨by rw [H.out]; rfl, HB.out⟩
  by_cases h2 : p.mv.length ≤ 10
  case neg =>
    have H := Lib.hid (show shortB p = false by unfold shortB; simp [h1, h2]); have h1' : (p.ms.length : Int) ≤ 6 := by omega
    have h2' : ¬ (p.mv.length : Int) ≤ 10 := by omega
    go_enter Tryz.func11, Tryz.ntmps11
    go_wp2; go_ret; exact ⟨by rw [H.out]; rfl, HB.out⟩
  by_cases h3 : p.rs.length ≤ 8
  case neg =>
    have H := Lib.hid (show shortB p = false by unfold shortB; simp [h1, h2, h3]); have h1' : (p.ms.length : Int) ≤ 6 := by omega
    have h2' : (p.mv.length : Int) ≤ 10 := by omega
    have h3' : ¬ (p.rs.length : Int) ≤ 8 := by omega
    go_enter Tryz.func11, Tryz.ntmps11
    go_wp2; go_ret; exact ⟨by rw [H.out]; rfl, HB.out⟩
  · have H := Lib.hid (show shortB p = true by unfold shortB; simp [h1, h2, h3])
    have h1' : (p.ms.length : Int) ≤ 6 := by omega
    have h2' : (p.mv.length : Int) ≤ 10 := by omega
    have h3' : (p.rs.length : Int) ≤ 8 := by omega
    go_enter Tryz.func11, Tryz.ntmps11
    go_wp2; go_ret; exact ⟨by rw [H.out]; rfl, HB.out⟩
theorem r_Last (pm : Option Addr) (cm : Nat) (n : Nat) (v1 v2 : Value) (a : Int) (w : World) :
    Calls Tryz.prog 46 #[.agg #[.slice pm n cm, v1, v2], .int .i64 a] w fun e w' => e = .returned (.bool (inB a 1 n)) ∧ Below w.heap.size w w' := by
  obtain ⟨w0, e0, HS0, k0, k1, k2, b0⟩ := box3 w (.slice pm n cm) v1 v2 27; have HB := Lib.hid b0; clear b0
  go_enter Tryz.func46, Tryz.ntmps46
  go_wp2_with fail; refine (r_in _ _ _ _).mono ?_; rintro e wn ⟨rfl, rfl⟩; go_wp2; go_ret; exact ⟨rfl, HB.out⟩
set_option maxHeartbeats 800000 in
set_option maxRecDepth 100000 in
theorem r_Within (pm pv pr : Option Addr) (cm cv cr : Nat) (p : Pc) (q : Option Addr) (cq : Nat) (pl : List Int) (w : World) (hp : RdS w pm p.ms) (hq : RdI w q pl) (hle : pl.length ≤ p.ms.length) (hl : p.ms.length ≤ 1000000) :
    Calls Tryz.prog 131 #[.agg #[.slice pm p.ms.length cm, .slice pv p.mv.length cv, .slice pr p.rs.length cr], .slice q pl.length cq] w fun e w' => e = .returned (.bool (withinB p pl)) ∧ Below w.heap.size w w' := by
  obtain ⟨w0, e0, HS0, k0, k1, k2, b0⟩ := box3 w (.slice pm p.ms.length cm) (.slice pv p.mv.length cv) (.slice pr p.rs.length cr) 27; have HB := Lib.hid b0; have HQ := Lib.hid (hq.below b0); have HP := Lib.hid (hp.below b0); clear b0 hq hp
  go_enter Tryz.func131, Tryz.ntmps131
  go_wp2; clear e0
  go_loopw [5] (fun i wr => ∃ k : Nat, k ≤ pl.length ∧ i = .int .i64 k ∧ Hid (∀ j, j < k → inB (gi pl j) (gm p.ms j).1 (gm p.ms j).2 = true) ∧ ∃ n, wr = w0.drewN n) (fun i _ => pl.length - (intOf i).toNat)
  case atStart => exact ⟨0, Nat.zero_le _, rfl, Lib.hid (fun j hj => by omega), 0, rfl⟩
  case round =>
    obtain ⟨k, hk, rfl, HK, m, hwr⟩ := hrel; have HW := Lib.hid hwr
    by_cases hlt : k < pl.length
    · have hki : (k : Int) < (pl.length : Int) := by omega
      have hlt2 : k < p.ms.length := by omega
      have hki2 : (k : Int) < (p.ms.length : Int) := by omega
      obtain ⟨b, off, rfl, hc⟩ := HQ.out.at hlt; obtain ⟨b', off', rfl, hc'⟩ := HP.out.at hlt2; have d0 : wr.cell? ⟨b, off + k, none⟩ = some (.int .i64 (gi pl k)) := by rw [hwr]; exact hc k hlt
      have d1 : wr.cell? ⟨b', off' + k * 2, none⟩ = some (.int .i64 (gm p.ms k).1) := by rw [hwr]; exact (hc' k hlt2).1
      have d2 : wr.cell? ⟨b', off' + k * 2 + 1, none⟩ = some (.int .i64 (gm p.ms k).2) := by rw [hwr]; exact (hc' k hlt2).2
      have q0 : wr.cell? ⟨w.heap.size, 0, none⟩ = some (.slice (some ⟨b', off', none⟩) p.ms.length cm) := by rw [hwr]; exact k0
      clear hc hc' hwr
      cases hb : inB (gi pl k) (gm p.ms k).1 (gm p.ms k).2 with
      | false =>
        have H := Lib.hid (show withinB p pl = false by
          cases hh : withinB p pl with
          | false => rfl
          | true =>
            have := withinB_iff.1 hh k hlt; rw [inB_iff.2 this] at hb; cases hb)
        have HC := Lib.hid (fun W => show Calls Tryz.prog 45 #[.int .i64 (gi pl k), .int .i64 (gm p.ms k).1, .int .i64 (gm p.ms k).2] W fun e w' => e = .returned (.bool false) ∧ w' = W by
          have h := r_in (gi pl k) (gm p.ms k).1 (gm p.ms k).2 W; rw [hb] at h; exact h.mono fun e w' h => ⟨h.1, h.2.symm⟩)
        clear hb; go_wp2; refine wp_region_quiet_lit (by kernel_rfl) (by kernel_rfl) ?_; (repeat (first | ((with_reducible first | apply wq_ix Tryz.underlying24 szI | apply wq_ix Tryz.underlying38 szSp | apply wq_ix Tryz.underlying23 szM | apply wq_ix Tryz.underlying25 szR | apply wq_ix Tryz.underlying51 szL | apply wq_ix Tryz.underlying91 szT); (focus rfl); (focus rfl); (focus rfl); (focus omega); (try simp only [Nat.mul_one]); go_frame) | ((with_reducible first | apply wq_ld agI | apply wq_ld agB | apply wq_ld agLI | apply wq_ld agLS | apply wq_ld agLM | apply wq_ld agLR | apply wq_ld agLL | apply wq_ld agLT); (focus rfl); (focus rfl); (focus (rintro _ ⟨_, rfl⟩; first | exact q0 | exact d0 | exact d1 | exact d2)); go_frame) | ((with_reducible first | apply wq_add | apply wq_sub | apply wq_mul | apply wq_rem); (focus rfl); (focus rfl); (focus rfl); (focus omega); (focus omega); go_frame) | ((with_reducible first | apply wq_eql | apply wq_neq | apply wq_lss | apply wq_leq | apply wq_gtr | apply wq_geq | apply wq_max2 | apply wq_min2); (focus rfl); (focus rfl); (focus rfl); go_frame) | ((with_reducible first | apply wq_max3 | apply wq_min3); (focus rfl); (focus rfl); (focus rfl); (focus rfl); go_frame) | go_big_quiet_step ((exact Calls.quiet_of_same (HC.out _))))); refine wpQuiet_nil ?_; rintro _ ⟨nq, rfl⟩
        go_wp2; go_ret; exact ⟨by rw [H.out]; rfl, by rw [HW.out]; exact below_drewN (below_drewN HB.out _) _⟩
      | true =>
        have H := Lib.hid hb
        have HC := Lib.hid (fun W => show Calls Tryz.prog 45 #[.int .i64 (gi pl k), .int .i64 (gm p.ms k).1, .int .i64 (gm p.ms k).2] W fun e w' => e = .returned (.bool true) ∧ w' = W by
          have h := r_in (gi pl k) (gm p.ms k).1 (gm p.ms k).2 W; rw [hb] at h; exact h.mono fun e w' h => ⟨h.1, h.2.symm⟩)
        clear hb; go_wp2; refine wp_region_quiet_lit (by kernel_rfl) (by kernel_rfl) ?_; (repeat (first | ((with_reducible first | apply wq_ix Tryz.underlying24 szI | apply wq_ix Tryz.underlying38 szSp | apply wq_ix Tryz.underlying23 szM | apply wq_ix Tryz.underlying25 szR | apply wq_ix Tryz.underlying51 szL | apply wq_ix Tryz.underlying91 szT); (focus rfl); (focus rfl); (focus rfl); (focus omega); (try simp only [Nat.mul_one]); go_frame) | ((with_reducible first | apply wq_ld agI | apply wq_ld agB | apply wq_ld agLI | apply wq_ld agLS | apply wq_ld agLM | apply wq_ld agLR | apply wq_ld agLL | apply wq_ld agLT); (focus rfl); (focus rfl); (focus (rintro _ ⟨_, rfl⟩; first | exact q0 | exact d0 | exact d1 | exact d2)); go_frame) | ((with_reducible first | apply wq_add | apply wq_sub | apply wq_mul | apply wq_rem); (focus rfl); (focus rfl); (focus rfl); (focus omega); (focus omega); go_frame) | ((with_reducible first | apply wq_eql | apply wq_neq | apply wq_lss | apply wq_leq | apply wq_gtr | apply wq_geq | apply wq_max2 | apply wq_min2); (focus rfl); (focus rfl); (focus rfl); go_frame) | ((with_reducible first | apply wq_max3 | apply wq_min3); (focus rfl); (focus rfl); (focus rfl); (focus rfl); go_frame) | go_big_quiet_step ((exact Calls.quiet_of_same (HC.out _))))); refine wpQuiet_nil ?_; rintro _ ⟨nq, rfl⟩
        go_wp2; go_roundw
        case rel =>
          refine ⟨k + 1, by omega, by go_num, Lib.hid fun j hj => ?_, m + nq, by rw [HW.out]; exact drew_add _ _ _⟩
          rcases Nat.lt_or_ge j k with h | h
          · exact HK.out j h
          · obtain rfl : j = k := by omega
            exact H.out
        case measure => simp [intOf]; omega
    · obtain rfl : k = pl.length := by omega
      have hki : ¬ (pl.length : Int) < (pl.length : Int) := by omega
      have H := Lib.hid (withinB_iff.2 fun i hi => inB_iff.1 (HK.out i hi)); go_wp2; go_ret; exact ⟨by rw [H.out]; rfl, below_drewN HB.out _⟩
end Go.Proofs.YtbknfddaoolagaaGreatDoor
end

section
namespace Go.Proofs.YtbknfddaoolagaaGreatDoor
open Go Go.RowKit Go.Proofs
set_option linter.unusedVariables false
set_option linter.unusedSimpArgs false
attribute [local go_sem] imax2 imin2

theorem all_badP {α : Type} {f : α → Bool} (d : α) {l : List α} {k : Nat} (hk : k < l.length) (h : f (l.getD k d) = false) : l.all f = false := by
  cases hh : l.all f with
  | false => rfl
  | true => have := (all_at d l).1 hh k hk; rw [h] at this; cases this
theorem upto_succ {P : Nat → Prop} {k : Nat} (h : ∀ j, j < k → P j) (hk : P k) : ∀ j, j < k + 1 → P j := fun j hj => by
  rcases Nat.lt_or_ge j k with h1 | h1
  · exact h j h1
  · obtain rfl : j = k := by omega
    exact hk
set_option maxHeartbeats 1600000 in
set_option maxRecDepth 100000 in
theorem r_Piece (pm pv pr : Option Addr) (cm cv cr : Nat) (p : Pc) (w : World) (hp : RdP w pm pv pr p) (hl : LenOk p) :
    Calls Tryz.prog 8 #[.agg #[.slice pm p.ms.length cm, .slice pv p.mv.length cv, .slice pr p.rs.length cr]] w fun e w' => e = .returned (.bool (pieceB p)) ∧ Below w.heap.size w w' := by
  obtain ⟨hl1, hl2, hl3⟩ := hl; obtain ⟨w0, e0, HS0, k0, k1, k2, b0⟩ := box3 w (.slice pm p.ms.length cm) (.slice pv p.mv.length cv) (.slice pr p.rs.length cr) 27; have HP := Lib.hid (hp.below b0); have HB := Lib.hid b0; have HQ := Lib.hid (pieceB_parts p); have HK0 := Lib.hid (And.intro k0 (And.intro k1 k2)); clear b0 hp
  rcases h1 : inB (p.ms.length : Int) 1 4 with _ | _
  · have H := Lib.hid (show pieceB p = false by rw [HQ.out]; simp [h1])
    go_enter Tryz.func8, Tryz.ntmps8
    go_wp2_with fail; refine (r_in _ _ _ _).mono ?_; rw [h1]; rintro e wn ⟨rfl, rfl⟩; clear e0; go_wp2; go_ret; exact ⟨by rw [H.out]; rfl, HB.out⟩
  by_cases h2 : (p.mv.length : Int) ≤ 8
  case neg =>
    have H := Lib.hid (show pieceB p = false by rw [HQ.out]; simp [h1, h2])
    go_enter Tryz.func8, Tryz.ntmps8
    go_wp2_with fail; refine (r_in _ _ _ _).mono ?_; rw [h1]; rintro e wn ⟨rfl, rfl⟩; clear e0; go_wp2; go_ret; exact ⟨by rw [H.out]; rfl, HB.out⟩
  by_cases h3 : (p.rs.length : Int) ≤ 6
  case neg =>
    have H := Lib.hid (show pieceB p = false by rw [HQ.out]; simp [h1, h2, h3])
    go_enter Tryz.func8, Tryz.ntmps8
    go_wp2_with fail; refine (r_in _ _ _ _).mono ?_; rw [h1]; rintro e wn ⟨rfl, rfl⟩; clear e0; go_wp2; go_ret; exact ⟨by rw [H.out]; rfl, HB.out⟩
  have H123 := Lib.hid (And.intro h1 (And.intro h2 h3))
  go_enter Tryz.func8, Tryz.ntmps8
  go_wp2_with fail; refine (r_in _ _ _ _).mono ?_; rw [h1]; rintro e wn ⟨rfl, rfl⟩; clear e0 h1; go_wp2; clear k0 k1 k2
  go_loopw [3] (fun i wr => ∃ k : Nat, k ≤ p.ms.length ∧ i = .int .i64 k ∧ Hid (∀ j, j < k → meshB (gm p.ms j) = true) ∧ Hid (Below w0.heap.size w0 wr)) (fun i _ => p.ms.length - (intOf i).toNat)
  case atStart => exact ⟨0, Nat.zero_le _, rfl, Lib.hid (fun j hj => by omega), Lib.hid (Below.refl _ _)⟩
  case round =>
    obtain ⟨k, hk, rfl, HK, HY⟩ := hrel; have HBB := Lib.hid (HB.out.trans (HY.out.mono HB.out.size)); have q0 := (HY.out.cell (lt_of_cellq HK0.out.1)).trans HK0.out.1
    by_cases hlt : k < p.ms.length
    · have hki : (k : Int) < (p.ms.length : Int) := by omega
      obtain ⟨b, off, rfl, hc⟩ := ((HP.out.below HY.out).ms).at hlt; obtain ⟨d0, d1⟩ := hc k hlt; have HBAD := Lib.hid (show meshB (gm p.ms k) = false → pieceB p = false from fun h => by rw [HQ.out, all_badP (0, 0) hlt (show meshB (p.ms.getD k (0, 0)) = false from h)]; simp); have HNX := Lib.hid (show meshB (gm p.ms k) = true → ∀ j, j < k + 1 → meshB (gm p.ms j) = true from upto_succ HK.out); obtain ⟨M, hM⟩ : ∃ M, gm p.ms k = M := ⟨_, rfl⟩; rw [hM] at d0 d1 HBAD HNX; obtain ⟨lo, hi⟩ := M; obtain ⟨w4, e4, HS4, y0, y1, b4⟩ := box2 wr (.int .i64 lo) (.int .i64 hi) 44; have HB4 := Lib.hid (HBB.out.trans (b4.mono HBB.out.size)); have HY4 := Lib.hid (HY.out.trans (b4.mono HY.out.size)); clear hc hM b4
      by_cases g1 : lo < 0
      · have H := Lib.hid (HBAD.out (by unfold meshB; simp; omega))
        go_wp2; go_ret; exact ⟨by rw [H.out]; rfl, HB4.out⟩
      by_cases g2 : lo > hi
      · have H := Lib.hid (HBAD.out (by unfold meshB; simp; omega))
        go_wp2; go_ret; exact ⟨by rw [H.out]; rfl, HB4.out⟩
      by_cases g3 : hi > 100
      · have H := Lib.hid (HBAD.out (by unfold meshB; simp; omega))
        go_wp2; go_ret; exact ⟨by rw [H.out]; rfl, HB4.out⟩
      have hw : IntKind.i64.wrap (hi - lo) = hi - lo := w64 _ (by omega) (by omega)
      by_cases g4 : hi - lo > 4
      · have H := Lib.hid (HBAD.out (by unfold meshB; simp; omega))
        go_wp2; go_ret; exact ⟨by rw [H.out]; rfl, HB4.out⟩
      · have H := Lib.hid (HNX.out (by unfold meshB; simp; omega))
        go_wp2; go_roundw
        case rel => exact ⟨k + 1, by omega, by go_num, H, HY4⟩
        case measure => simp [intOf]; omega
    · obtain rfl : k = p.ms.length := by omega
      have hki : ¬ (p.ms.length : Int) < (p.ms.length : Int) := by omega
      have HMS := Lib.hid (show p.ms.all meshB = true from (all_at (0, 0) p.ms).2 HK.out); clear HK; go_wp2
      go_loopw [5] (fun i wr => ∃ k : Nat, k ≤ p.mv.length ∧ i = .int .i64 k ∧ Hid (∀ j, j < k → inB (gi p.mv j) (-300) 300 = true) ∧ Hid (Below w0.heap.size w0 wr)) (fun i _ => p.mv.length - (intOf i).toNat)
      case atStart => exact ⟨0, Nat.zero_le _, rfl, Lib.hid (fun j hj => by omega), HY⟩
      case round =>
        clear q0; obtain ⟨k, hk, rfl, HK, HY⟩ := hrel; have HBB := Lib.hid (HB.out.trans (HY.out.mono HB.out.size)); have q1 := (HY.out.cell (lt_of_cellq HK0.out.2.1)).trans HK0.out.2.1
        by_cases hlt : k < p.mv.length
        · have hki : (k : Int) < (p.mv.length : Int) := by omega
          obtain ⟨b, off, rfl, hc⟩ := ((HP.out.below HY.out).mv).at hlt; have d0 := hc k hlt; clear hc
          cases hb : inB (gi p.mv k) (-300) 300 with
          | false =>
            have H := Lib.hid (show pieceB p = false by rw [HQ.out, all_badP (f := fun x => inB x (-300) 300) 0 hlt (show inB (p.mv.getD k 0) (-300) 300 = false from hb)]; simp); go_wp2_with fail; refine (r_in _ _ _ _).mono ?_; rw [hb]; rintro e wn ⟨rfl, rfl⟩; go_wp2; go_ret; exact ⟨by rw [H.out]; rfl, HBB.out⟩
          | true =>
            have H := Lib.hid (upto_succ HK.out hb); go_wp2_with fail; refine (r_in _ _ _ _).mono ?_; rw [hb]; rintro e wn ⟨rfl, rfl⟩; clear hb; go_wp2; go_roundw
            case rel => exact ⟨k + 1, by omega, by go_num, H, HY⟩
            case measure => simp [intOf]; omega
        · obtain rfl : k = p.mv.length := by omega
          have hki : ¬ (p.mv.length : Int) < (p.mv.length : Int) := by omega
          have HMV := Lib.hid (show (p.mv.all fun x => inB x (-300) 300) = true from (all_at (f := fun x => inB x (-300) 300) 0 p.mv).2 HK.out); clear HK; go_wp2
          go_loopw [6] (fun i wr => ∃ k : Nat, k ≤ p.rs.length ∧ i = .int .i64 k ∧ Hid (∀ j, j < k → readB p.ms.length p.mv.length (gr p.rs j) = true) ∧ Hid (Below w0.heap.size w0 wr)) (fun i _ => p.rs.length - (intOf i).toNat)
          case atStart => exact ⟨0, Nat.zero_le _, rfl, Lib.hid (fun j hj => by omega), HY⟩
          case round =>
            clear q1; obtain ⟨k, hk, rfl, HK, HY⟩ := hrel; have HBB := Lib.hid (HB.out.trans (HY.out.mono HB.out.size)); have q0 := (HY.out.cell (lt_of_cellq HK0.out.1)).trans HK0.out.1; have q1 := (HY.out.cell (lt_of_cellq HK0.out.2.1)).trans HK0.out.2.1; have q2 := (HY.out.cell (lt_of_cellq HK0.out.2.2)).trans HK0.out.2.2
            by_cases hlt : k < p.rs.length
            · have hki : (k : Int) < (p.rs.length : Int) := by omega
              obtain ⟨b, off, rfl, hc⟩ := ((HP.out.below HY.out).rs).at hlt; obtain ⟨d0, d1, d2, d3⟩ := hc k hlt; have HBAD := Lib.hid (show readB p.ms.length p.mv.length (gr p.rs k) = false → pieceB p = false from fun h => by rw [HQ.out, all_badP rd0 hlt (show readB p.ms.length p.mv.length (p.rs.getD k rd0) = false from h)]; simp); have HNX := Lib.hid (show readB p.ms.length p.mv.length (gr p.rs k) = true → ∀ j, j < k + 1 → readB p.ms.length p.mv.length (gr p.rs j) = true from upto_succ HK.out); obtain ⟨M, hM⟩ : ∃ M, gr p.rs k = M := ⟨_, rfl⟩; rw [hM] at d0 d1 d2 d3 HBAD HNX; obtain ⟨a, c, s, o⟩ := M; obtain ⟨w4, e4, HS4, y0, y1, y2, y3, b4⟩ := box4 wr (.int .i64 a) (.int .i64 c) (.int .i64 s) (.int .i64 o) 87; have HB4 := Lib.hid (HBB.out.trans (b4.mono HBB.out.size)); have HY4 := Lib.hid (HY.out.trans (b4.mono HY.out.size)); have q0 := (b4.cell (lt_of_cellq q0)).trans q0; have q1 := (b4.cell (lt_of_cellq q1)).trans q1
              have q2 := (b4.cell (lt_of_cellq q2)).trans q2; clear hc hM b4
              rcases g1 : inB a 0 (p.mv.length : Int) with _ | _
              · have H := Lib.hid (HBAD.out (by unfold readB; simp [g1]))
                go_wp2_with fail; refine (r_in _ _ _ _).mono ?_; rw [g1]; rintro e wn ⟨rfl, rfl⟩; clear e4; go_wp2; go_ret; exact ⟨by rw [H.out]; rfl, HB4.out⟩
              rcases g2 : inB c 1 (p.ms.length : Int) with _ | _
              · have H := Lib.hid (HBAD.out (by unfold readB; simp [g2]))
                go_wp2_with fail; refine (r_in _ _ _ _).mono ?_; rw [g1]; rintro e wn ⟨rfl, rfl⟩; clear e4; go_wp2_with fail; refine (r_Last _ _ _ _ _ _ _).mono ?_; rw [g2]; rintro e wn2 ⟨rfl, b5⟩; have HB5 := Lib.hid (HB4.out.trans (b5.mono HB4.out.size)); clear b5; go_wp2; go_ret; exact ⟨by rw [H.out]; rfl, HB5.out⟩
              go_wp2_with fail; refine (r_in _ _ _ _).mono ?_; rw [g1]; rintro e wn ⟨rfl, rfl⟩; clear e4; go_wp2_with fail; refine (r_Last _ _ _ _ _ _ _).mono ?_; rw [g2]; rintro e wn2 ⟨rfl, b5⟩; have HB5 := Lib.hid (HB4.out.trans (b5.mono HB4.out.size)); have HY5 := Lib.hid (HY4.out.trans (b5.mono HY4.out.size)); have y2 := (b5.cell (lt_of_cellq y2)).trans y2; have y3 := (b5.cell (lt_of_cellq y3)).trans y3; clear b5 q0 q1 q2; go_wp2_with fail; refine (r_in _ _ _ _).mono ?_
              rcases g3 : inB s (-5000) 5000 with _ | _
              · have H := Lib.hid (HBAD.out (by unfold readB; simp [g3]))
                rintro e wn ⟨rfl, rfl⟩; go_wp2; go_ret; exact ⟨by rw [H.out]; rfl, HB5.out⟩
              rintro e wn ⟨rfl, rfl⟩; go_wp2_with fail; refine (r_in _ _ _ _).mono ?_
              rcases g4 : inB o 0 50 with _ | _
              · have H := Lib.hid (HBAD.out (by unfold readB; simp [g4]))
                rintro e wn ⟨rfl, rfl⟩; go_wp2; go_ret; exact ⟨by rw [H.out]; rfl, HB5.out⟩
              · have H := Lib.hid (HNX.out (by unfold readB; simp [g1, g2, g3, g4]))
                rintro e wn ⟨rfl, rfl⟩; clear g1 g2 g3 g4; go_wp2; go_roundw
                case rel => exact ⟨k + 1, by omega, by go_num, H, HY5⟩
                case measure => simp [intOf]; omega
            · obtain rfl : k = p.rs.length := by omega
              have hki : ¬ (p.rs.length : Int) < (p.rs.length : Int) := by omega
              have H := Lib.hid (show pieceB p = true by
                rw [HQ.out, HMS.out, HMV.out, H123.out.1, (all_at rd0 p.rs).2 HK.out, decide_eq_true H123.out.2.1, decide_eq_true H123.out.2.2]; rfl)
              go_wp2; go_ret; exact ⟨by rw [H.out]; rfl, HBB.out⟩
end Go.Proofs.YtbknfddaoolagaaGreatDoor
end
