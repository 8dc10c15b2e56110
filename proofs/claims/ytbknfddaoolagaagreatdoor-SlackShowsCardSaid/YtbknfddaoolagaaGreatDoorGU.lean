/-
  cmp.Compare, cmp.Or, slices.Compare on ints: contracts.
  What is left of a truth's plays when some meshes are renewed: contract of the closure.
  Which of two renewals is the better one: contract of the closure (printed by slkbetter.py).
  The first of some renewals than which none is better: contract.
  Renewals in memory: a row of them and its parts; which sets are kept, step by step.
-/
import Derived.Test.YtbknfddaoolagaaGreatDoorGF
import Derived.Test.YtbknfddaoolagaaGreatDoorGC
import Derived.Test.YtbknfddaoolagaaGreatDoorGO
import Derived.Test.YtbknfddaoolagaaGreatDoorGH
section
namespace Go.Proofs.YtbknfddaoolagaaGreatDoor
open Go Go.RowKit Go.Proofs
set_option linter.unusedVariables false
set_option linter.unusedSimpArgs false
attribute [local go_sem] imax2 imin2

def cmpI (a b : Int) : Int := if a < b then -1 else if b < a then 1 else 0
theorem cmpI_neg (a b : Int) : cmpI a b < 0 ↔ a < b := by unfold cmpI; split <;> (try split) <;> omega
theorem cmpI_zero (a b : Int) : cmpI a b = 0 ↔ a = b := by unfold cmpI; split <;> (try split) <;> omega
theorem cmpI_in (a b : Int) : -1 ≤ cmpI a b ∧ cmpI a b ≤ 1 := by unfold cmpI; split <;> (try split) <;> omega
def cmpL : List Int → List Int → Int
  | [], [] => 0
  | [], _ :: _ => -1
  | _ :: _, [] => 1
  | x :: a, y :: b => if cmpI x y ≠ 0 then cmpI x y else cmpL a b
theorem cmpL_in : ∀ a b, -1 ≤ cmpL a b ∧ cmpL a b ≤ 1
  | [], [] => by simp [cmpL]
  | [], _ :: _ => by simp [cmpL]
  | _ :: _, [] => by simp [cmpL]
  | x :: a, y :: b => by
    rw [cmpL]; have := cmpI_in x y; have := cmpL_in a b
    split <;> omega
theorem cmpL_neg : ∀ a b, cmpL a b < 0 ↔ lexB a b = true
  | [], [] => by simp [cmpL, lexB]
  | [], _ :: _ => by simp [cmpL, lexB]
  | _ :: _, [] => by simp [cmpL, lexB]
  | x :: a, y :: b => by
    rw [cmpL, lexB]
    by_cases h : x = y
    · rw [if_pos h, if_neg (by rw [(cmpI_zero x y).2 h]; decide)]
      exact cmpL_neg a b
    · rw [if_neg h, if_pos (fun hc => h ((cmpI_zero x y).1 hc)), decide_eq_true_eq]
      exact cmpI_neg x y
theorem cmpL_zero : ∀ a b, cmpL a b = 0 → a = b
  | [], [] => fun _ => rfl
  | [], _ :: _ => by simp [cmpL]
  | _ :: _, [] => by simp [cmpL]
  | x :: a, y :: b => by
    rw [cmpL]; intro h
    by_cases hc : cmpI x y ≠ 0
    · rw [if_pos hc] at h; exact absurd h hc
    · rw [if_neg hc] at h
      rw [(cmpI_zero x y).1 (by simpa using hc), cmpL_zero a b h]
theorem c_isNaN (x : Int) (w : World) : Calls Tryz.prog 121 #[.int .i64 x] w fun e w' => e = .returned (.bool false) ∧ w = w' := by
  go_enter Tryz.func121, Tryz.ntmps121
  go_wp2; go_ret; exact ⟨by simp, rfl⟩
theorem c_compare (x y : Int) (w : World) : Calls Tryz.prog 79 #[.int .i64 x, .int .i64 y] w fun e w' => e = .returned (.int .i64 (cmpI x y)) ∧ w = w' := by
  by_cases h1 : x < y
  · have HE := Lib.hid (show cmpI x y = -1 by unfold cmpI; rw [if_pos h1])
    go_enter Tryz.func79, Tryz.ntmps79
    go_wp2_with fail; refine (c_isNaN x _).mono ?_; rintro e w1 ⟨rfl, rfl⟩; go_wp2_with fail; refine (c_isNaN y _).mono ?_; rintro e w1 ⟨rfl, rfl⟩; go_wp2; go_ret; exact ⟨by rw [HE.out]; rfl, rfl⟩
  · by_cases h2 : y < x
    · have HE := Lib.hid (show cmpI x y = 1 by unfold cmpI; rw [if_neg h1, if_pos h2])
      go_enter Tryz.func79, Tryz.ntmps79
      go_wp2_with fail; refine (c_isNaN x _).mono ?_; rintro e w1 ⟨rfl, rfl⟩; go_wp2_with fail; refine (c_isNaN y _).mono ?_; rintro e w1 ⟨rfl, rfl⟩; go_wp2; go_ret; exact ⟨by rw [HE.out]; rfl, rfl⟩
    · have HE := Lib.hid (show cmpI x y = 0 by unfold cmpI; rw [if_neg h1, if_neg h2])
      go_enter Tryz.func79, Tryz.ntmps79
      go_wp2_with fail; refine (c_isNaN x _).mono ?_; rintro e w1 ⟨rfl, rfl⟩; go_wp2_with fail; refine (c_isNaN y _).mono ?_; rintro e w1 ⟨rfl, rfl⟩; go_wp2; go_ret; exact ⟨by rw [HE.out]; rfl, rfl⟩
set_option maxHeartbeats 800000 in
set_option maxRecDepth 100000 in
theorem c_slcmp (p q : Option Addr) (cap cap' : Nat) (xs ys : List Int) (w : World) (hx : RdI w p xs) (hy : RdI w q ys) (hl : xs.length ≤ 1000000) (hly : ys.length ≤ 1000000) :
    Calls Tryz.prog 80 #[.slice p xs.length cap, .slice q ys.length cap'] w fun e w' => e = .returned (.int .i64 (cmpL xs ys)) ∧ w = w' := by
  have HX := Lib.hid hx; have HY := Lib.hid hy; clear hx hy
  go_enter Tryz.func80, Tryz.ntmps80
  go_wp2
  go_loop [11] (fun i => ∃ k : Nat, k ≤ xs.length ∧ k ≤ ys.length ∧ i = .int .i64 k ∧ Hid (cmpL (xs.drop k) (ys.drop k) = cmpL xs ys)) (fun i => xs.length - (intOf i).toNat)
  case atStart => exact ⟨0, by omega, by omega, rfl, Lib.hid rfl⟩
  case round =>
    obtain ⟨k, hk, hky, rfl, HD⟩ := hrel
    by_cases hlt : k < xs.length
    · obtain ⟨b, off, rfl, hc⟩ := HX.out.at hlt
      have e1 := hc k hlt
      have hdx : xs.drop k = gi xs k :: xs.drop (k + 1) := by
        rw [List.drop_eq_getElem_cons hlt]
        congr 1
        unfold gi; simp [hlt]
      by_cases hl2 : k < ys.length
      · obtain ⟨b2, off2, rfl, hc2⟩ := HY.out.at hl2
        have e2 := hc2 k hl2
        have hdy : ys.drop k = gi ys k :: ys.drop (k + 1) := by
          rw [List.drop_eq_getElem_cons hl2]
          congr 1
          unfold gi; simp [hl2]
        have hcm := HD.out; rw [hdx, hdy, cmpL] at hcm; have HCM := Lib.hid hcm; have hi1 : (k : Int) < (xs.length : Int) := by omega
        have hi2 : (k : Int) < (ys.length : Int) := by omega
        have hi3 : ¬ (ys.length : Int) ≤ (k : Int) := by omega
        clear hc hc2 hdx hdy hcm; have hcall := c_compare (gi xs k) (gi ys k) w; obtain ⟨c, hce⟩ : ∃ c, cmpI (gi xs k) (gi ys k) = c := ⟨_, rfl⟩; rw [hce] at hcall HCM; clear hce
        by_cases hz : c = 0
        · subst hz
          have HN := Lib.hid (show cmpL (xs.drop (k + 1)) (ys.drop (k + 1)) = cmpL xs ys by have h := HCM.out; rwa [if_neg (by decide)] at h); go_wp2_with fail; refine hcall.mono ?_; clear hcall; rintro e w1 ⟨rfl, rfl⟩; go_wp2; go_round
          case rel => exact ⟨k + 1, by omega, by omega, by go_num, HN⟩
          case measure => simp [intOf]; omega
        · have HN := Lib.hid (show c = cmpL xs ys by have h := HCM.out; rwa [if_pos hz] at h)
          go_wp2_with fail; refine hcall.mono ?_; clear hcall; rintro e w1 ⟨rfl, rfl⟩; go_wp2; go_ret; exact ⟨by rw [← HN.out]; rfl, rfl⟩
      · have hdy : ys.drop k = [] := List.drop_eq_nil_of_le (by omega)
        have HN := Lib.hid (show cmpL xs ys = 1 by rw [← HD.out, hdx, hdy]; rfl); have hi3 : (ys.length : Int) ≤ (k : Int) := by omega
        clear hc hdx hdy; go_wp2; go_ret; exact ⟨by rw [HN.out]; rfl, rfl⟩
    · obtain rfl : k = xs.length := by omega
      have hdx : xs.drop xs.length = [] := List.drop_eq_nil_of_le (Nat.le_refl _); have hd := HD.out; rw [hdx] at hd
      by_cases hl2 : xs.length < ys.length
      · have HN := Lib.hid (show cmpL xs ys = -1 by
          rw [← hd, List.drop_eq_getElem_cons hl2]; rfl)
        have hi3 : (xs.length : Int) < (ys.length : Int) := by omega
        clear hdx hd; go_wp2; go_ret; exact ⟨by rw [HN.out]; rfl, rfl⟩
      · have HN := Lib.hid (show cmpL xs ys = 0 by
          rw [← hd, List.drop_eq_nil_of_le (by omega)]; rfl)
        have hi3 : ¬ (xs.length : Int) < (ys.length : Int) := by omega
        clear hdx hd; go_wp2; go_ret; exact ⟨by rw [HN.out]; rfl, rfl⟩
def orL : List Int → Int
  | [] => 0
  | x :: l => if x ≠ 0 then x else orL l
set_option maxHeartbeats 800000 in
set_option maxRecDepth 100000 in
theorem c_or (p : Option Addr) (cap : Nat) (xs : List Int) (w : World) (hx : RdI w p xs) (hl : xs.length ≤ 1000000) :
    Calls Tryz.prog 78 #[.slice p xs.length cap] w fun e w' => e = .returned (.int .i64 (orL xs)) ∧ w = w' := by
  have HX := Lib.hid hx; clear hx
  go_enter Tryz.func78, Tryz.ntmps78
  go_wp2
  go_loop [8] (fun i => ∃ k : Nat, k ≤ xs.length ∧ i = .int .i64 k ∧ Hid (orL (xs.drop k) = orL xs)) (fun i => xs.length - (intOf i).toNat)
  case atStart => exact ⟨0, by omega, rfl, Lib.hid rfl⟩
  case round =>
    obtain ⟨k, hk, rfl, HD⟩ := hrel
    by_cases hlt : k < xs.length
    · obtain ⟨b, off, rfl, hc⟩ := HX.out.at hlt
      have e1 := hc k hlt
      have hdx : xs.drop k = gi xs k :: xs.drop (k + 1) := by
        rw [List.drop_eq_getElem_cons hlt]
        congr 1
        unfold gi; simp [hlt]
      have hcm := HD.out; rw [hdx, orL] at hcm; have HCM := Lib.hid hcm; have hi1 : (k : Int) < (xs.length : Int) := by omega
      clear hc hdx hcm; obtain ⟨c, hce⟩ : ∃ c, gi xs k = c := ⟨_, rfl⟩; rw [hce] at e1 HCM; clear hce
      by_cases hz : c = 0
      · subst hz
        have HN := Lib.hid (show orL (xs.drop (k + 1)) = orL xs by have h := HCM.out; rwa [if_neg (by decide)] at h); go_wp2; go_round
        case rel => exact ⟨k + 1, by omega, by go_num, HN⟩
        case measure => simp [intOf]; omega
      · have HN := Lib.hid (show c = orL xs by have h := HCM.out; rwa [if_pos hz] at h)
        go_wp2; go_ret; exact ⟨by rw [← HN.out]; rfl, rfl⟩
    · obtain rfl : k = xs.length := by omega
      have HN := Lib.hid (show orL xs = 0 by rw [← HD.out, List.drop_eq_nil_of_le (Nat.le_refl _)]; rfl); go_wp2; go_ret; exact ⟨by rw [HN.out]; rfl, rfl⟩
end Go.Proofs.YtbknfddaoolagaaGreatDoor
end

section
namespace Go.Proofs.YtbknfddaoolagaaGreatDoor
open Go Go.RowKit Go.Proofs
set_option linter.unusedVariables false
set_option linter.unusedSimpArgs false
attribute [local go_sem] imax2 imin2

def lessTo (pl l : List Int) (k : Nat) : Int := (l.take k).foldl (fun n i => n - gi pl i.toNat) (sumT pl pl.length)
theorem lessTo_zero (pl l : List Int) : lessTo pl l 0 = sumT pl pl.length := rfl
theorem lessTo_all (pl l : List Int) : lessTo pl l l.length = lessF pl l := by unfold lessTo lessF; rw [List.take_length]
theorem lessTo_succ (pl l : List Int) (k : Nat) (hk : k < l.length) : lessTo pl l (k + 1) = lessTo pl l k - gi pl (gi l k).toNat := by
  unfold lessTo; rw [List.take_succ_eq_append_getElem hk, List.foldl_append]; have e : gi l k = l[k] := by unfold gi; simp [hk]
  rw [e]; rfl
theorem lessTo_in {p : Pc} (hp : PieceOk p) {pl : List Int} (h : PlaysOk p pl) {l : List Int} (hl : ∀ i, i < l.length → 0 ≤ gi l i ∧ gi l i < (pl.length : Int)) : ∀ k, k ≤ l.length → -(100 * (k : Int)) ≤ lessTo pl l k ∧ lessTo pl l k ≤ 400 := by
  intro k
  induction k with
  | zero => intro _; have := plays_range hp h pl.length (Nat.le_refl _); rw [lessTo_zero]; omega
  | succ k ih =>
    intro hk; have h1 := ih (by omega); have h2 := hl k (by omega); have h3 := h.in' (gi l k).toNat (by omega); rw [lessTo_succ pl l k (by omega)]; omega
def lessS (l : List Int) (pl : List Int) : Int × Int := just (lessF pl l)

set_option maxHeartbeats 1600000 in
set_option maxRecDepth 100000 in
theorem c1_renew (p : Pc) (pl : List Int) (p1 p2 : Option Addr) (c1 c2 : Nat) (pr : Nat) (qm : Option Addr) (cq : Nat) (l : List Int) (w : World) (hp : PieceOk p) (ht : PlaysOk p pl) (h1 : RdI w p1 pl) (k0 : w.cell? ⟨pr, 0, none⟩ = some (.slice qm l.length cq)) (hq : RdI w qm l) (hll : l.length ≤ 1000) (hl : ∀ i, i < l.length → 0 ≤ gi l i ∧ gi l i < (pl.length : Int)) :
    Calls Tryz.prog 74 #[.agg #[.slice p1 p.ms.length c1, .slice p2 (p.ms.length + 1) c2], .pointer (some ⟨pr, 0, none⟩)] w fun e w' => e = .returned (.agg #[.int .i64 (lessS l pl).1, .int .i64 (lessS l pl).2]) ∧ Below w.heap.size w w' := by
  have hln := ht.len; rw [← hln]; obtain ⟨w1, e1, HS1, t0, t1, b1⟩ := box2 w (.slice p1 pl.length c1) (.slice p2 (pl.length + 1) c2) 98; have kb := alloc_new w1 (.cells #[.int .i64 0, .int .i64 0] 44); obtain ⟨w2, e2, HS2, _, _, b2⟩ := box2 w1 (.int .i64 0) (.int .i64 0) 44; rw [e2] at kb; have b12 := b1.trans (b2.mono b1.size); have t0 := (b2.cell (lt_of_cellq t0)).trans t0; have k0 := (b12.cell (lt_of_cellq k0)).trans k0; have H1 := Lib.hid (h1.below b12); have HQ := Lib.hid (hq.below b12); have HLI := Lib.hid hl; have HIN := Lib.hid (lessTo_in hp ht hl); have HPI := Lib.hid ht.in'; have hsum := c_sum p1 c1 pl w2 (h1.below b12) (ht.plok hp); rw [← lessTo_zero pl l] at hsum; have HB := Lib.hid b12; have HKB := Lib.hid kb; have HZ := Lib.hid (show w.heap.size ≤ w1.heap.size from b1.size); clear h1 hq hl b1 b2 b12 kb hp ht hln
  go_enter Tryz.func74, Tryz.ntmps74
  go_wp2_with fail; refine hsum.mono ?_; clear hsum; rintro e w3 ⟨rfl, rfl⟩; go_wp2
  go_loopw [4, 13] (fun n i wr => ∃ k : Nat, k ≤ l.length ∧ i = .int .i64 k ∧ n = .int .i64 (lessTo pl l k) ∧ wr = w2) (fun _ i _ => l.length - (intOf i).toNat)
  case atStart => exact ⟨0, by omega, rfl, rfl, rfl⟩
  case round =>
    obtain ⟨k, hk, rfl, rfl, rfl⟩ := hrel
    by_cases hlt : k < l.length
    · obtain ⟨b, off, rfl, hc⟩ := HQ.out.at hlt
      have d0 := hc k hlt; have hx := HLI.out k hlt; obtain ⟨b2, off2, rfl, hc2⟩ := H1.out.at (i := (gi l k).toNat) (by omega); have d1 := hc2 (gi l k).toNat (by omega); have hir := HPI.out (gi l k).toNat (by omega); have hsr := HIN.out k hk; have HSU := Lib.hid (lessTo_succ pl l k hlt); obtain ⟨x, hxx⟩ : ∃ x, gi l k = x := ⟨_, rfl⟩; rw [hxx] at d0 hx d1 hir HSU; clear hxx; obtain ⟨a, rfl⟩ : ∃ a : Nat, x = (a : Int) := ⟨x.toNat, by omega⟩; rw [Int.toNat_natCast] at d1 hir HSU; obtain ⟨y, hy⟩ : ∃ y, gi pl a = y := ⟨_, rfl⟩; rw [hy] at d1 hir HSU; clear hy; obtain ⟨s, hs⟩ : ∃ s, lessTo pl l k = s := ⟨_, rfl⟩; rw [hs] at hsr HSU ⊢; clear hs; have hws : IntKind.i64.wrap (s - y) = s - y := w64 _ (by omega) (by omega); have hi1 : (k : Int) < (l.length : Int) := by omega
      have hi2 : (a : Int) < (pl.length : Int) := by omega
      clear hc hc2 hx hir; go_wp2; go_roundw
      case rel => exact ⟨k + 1, by omega, by go_num, by rw [HSU.out], by first | rfl | trivial⟩
      case measure => simp [intOf]; omega
    · obtain rfl : k = l.length := by omega
      have HE := Lib.hid (show lessS l pl = (lessTo pl l l.length, lessTo pl l l.length) by unfold lessS just; rw [lessTo_all]); obtain ⟨s, hs⟩ : ∃ s, lessTo pl l l.length = s := ⟨_, rfl⟩; rw [hs] at HE ⊢; clear hs; go_wp2_with fail; refine (c_just s _).mono ?_; rintro e w4 ⟨rfl, b4⟩; obtain ⟨w5, w6, s1, s2, ⟨c0', f0⟩, ⟨c1', f1⟩, hx4, hxk, HZ6, hxb⟩ := set2 w4 w1.heap.size 44 _ _ (.int .i64 s) (.int .i64 s) ((b4.block _ (block_lt HKB.out)).trans HKB.out); obtain ⟨r0, r1⟩ := cells2 hx4; have HBB := Lib.hid (hxb w w.heap.size HZ.out (HB.out.trans (b4.mono HB.out.size))); clear hx4 hxk hxb b4; go_wp2; refine bodyPost_ret (v := .agg #[.int .i64 s, .int .i64 s]) ?_ rfl ⟨by rw [HE.out], HBB.out⟩; simp [results, Tryz.results74, go_sem, r0, r1]
end Go.Proofs.YtbknfddaoolagaaGreatDoor
end

section
namespace Go.Proofs.YtbknfddaoolagaaGreatDoor
open Go Go.RowKit Go.Proofs
set_option linter.unusedVariables false
set_option linter.unusedSimpArgs false
attribute [local go_sem] imax2 imin2

theorem rd_new3 (w : World) (a b c : Int) (t : TypeId) : RdI (w.alloc (.cells #[.int .i64 a, .int .i64 b, .int .i64 c] t)) (some ⟨w.heap.size, 0, none⟩) [a, b, c] :=
  .inr ⟨_, 0, rfl, fun i hi => match i, hi with
    | 0, _ => by rw [at_new]; rfl
    | 1, _ => by rw [at_new]; rfl
    | 2, _ => by rw [at_new]; rfl⟩
theorem key_or (prices a b : List Int) : decide (orL [cmpI (priceF prices a) (priceF prices b), cmpI a.length b.length, cmpL a b] < 0) = keyB prices a b := by
  unfold keyB
  by_cases h1 : priceF prices a = priceF prices b
  · rw [if_neg (by simpa using h1), orL, if_neg (by rw [(cmpI_zero _ _).2 h1]; decide)]
    by_cases h2 : a.length = b.length
    · rw [if_neg (by simpa using h2), orL, if_neg (by rw [(cmpI_zero _ _).2 (by omega)]; decide), orL]
      by_cases h3 : cmpL a b ≠ 0
      · rw [if_pos h3]
        cases hl : lexB a b with
        | true => exact decide_eq_true ((cmpL_neg a b).2 hl)
        | false => exact decide_eq_false (fun h => by rw [(cmpL_neg a b).1 h] at hl; cases hl)
      · rw [if_neg h3, orL]
        have e := cmpL_zero a b (by simpa using h3); subst e; rw [lexB_irrefl]; rfl
    · rw [if_pos h2, orL, if_pos (fun hc => h2 (by have := (cmpI_zero _ _).1 hc; omega))]
      exact decide_eq_decide.2 ((cmpI_neg _ _).trans (by omega))
  · rw [if_pos h1, orL, if_pos (fun hc => h1 ((cmpI_zero _ _).1 hc))]
    exact decide_eq_decide.2 (cmpI_neg _ _)

set_option maxHeartbeats 3200000 in
set_option maxRecDepth 100000 in
theorem c1_better (qa qb : Option Addr) (ca cb : Nat) (a b : List Int) (pa pb : Int) (w : World) (ha : RdI w qa a) (hb : RdI w qb b) (hla : a.length ≤ 1000000) (hlb : b.length ≤ 1000000) :
    Calls Tryz.prog 77 #[.agg #[.slice qa a.length ca, .int .i64 pa], .agg #[.slice qb b.length cb, .int .i64 pb]] w fun e w' => e = .returned (.bool (decide (orL [cmpI pa pb, cmpI a.length b.length, cmpL a b] < 0))) ∧ Below w.heap.size w w' := by
  obtain ⟨w1, e1, HS1, t0, t1, b1⟩ := box2 w (.slice qa a.length ca) (.int .i64 pa) 118; obtain ⟨w2, e2, HS2, q0, q1, b2⟩ := box2 w1 (.slice qb b.length cb) (.int .i64 pb) 118; have b12 := b1.trans (b2.mono b1.size); have t0 := (b2.cell (lt_of_cellq t0)).trans t0; have t1 := (b2.cell (lt_of_cellq t1)).trans t1; have HA := Lib.hid (ha.below b12); have HB1 := Lib.hid (hb.below b12); have HB := Lib.hid b12
  have HAL := Lib.hid (show ∀ o, (fun w' => (w'.cell? ⟨w.heap.size, 0, none⟩ = some (.slice qa a.length ca) ∧ w'.cell? ⟨w.heap.size, 1, none⟩ = some (.int .i64 pa)) ∧ w'.cell? ⟨w1.heap.size, 0, none⟩ = some (.slice qb b.length cb) ∧ w'.cell? ⟨w1.heap.size, 1, none⟩ = some (.int .i64 pb)) (w2.drew.alloc o) from fun o => by
    have h := (Below.refl w2.heap.size w2).drew.alloc (Nat.le_refl _) o; exact ⟨⟨(h.cell (lt_of_cellq t0)).trans t0, (h.cell (lt_of_cellq t1)).trans t1⟩, (h.cell (lt_of_cellq q0)).trans q0, (h.cell (lt_of_cellq q1)).trans q1⟩)
  have HOR := Lib.hid (show Calls Tryz.prog 78 #[.slice (some ⟨w2.heap.size, 0, none⟩) 3 3] (w2.alloc (.cells #[.int .i64 (cmpI pa pb), .int .i64 (cmpI a.length b.length), .int .i64 (cmpL a b)] 3)).drew fun e w' => e = .returned (.int .i64 (orL [cmpI pa pb, cmpI a.length b.length, cmpL a b])) ∧ (w2.alloc (.cells #[.int .i64 (cmpI pa pb), .int .i64 (cmpI a.length b.length), .int .i64 (cmpL a b)] 3)).drew = w' from
    c_or (some ⟨w2.heap.size, 0, none⟩) 3 [cmpI pa pb, cmpI a.length b.length, cmpL a b] _ ((rd_new3 w2 _ _ _ _).below (Below.refl _ _).drew) (by simp))
  have HBB := Lib.hid (show Below w.heap.size w (w2.alloc (.cells #[.int .i64 (cmpI pa pb), .int .i64 (cmpI a.length b.length), .int .i64 (cmpL a b)] 3)).drew from (b12.alloc b12.size _).drew); clear ha hb b1 b2 b12
  go_enter Tryz.func77, Tryz.ntmps77
  go_upto_region 1 with (fail); clear e1 e2; refine wp_region_held_drew (S := fun w' => (w'.cell? ⟨w.heap.size, 0, none⟩ = some (.slice qa a.length ca) ∧ w'.cell? ⟨w.heap.size, 1, none⟩ = some (.int .i64 pa)) ∧ w'.cell? ⟨w1.heap.size, 0, none⟩ = some (.slice qb b.length cb) ∧ w'.cell? ⟨w1.heap.size, 1, none⟩ = some (.int .i64 pb)) (by kernel_rfl) (by (try dsimp only); exact ⟨⟨t0, t1⟩, q0, q1⟩) (fun hHeld => ?_); refine wpAnyH_take (i := 0) (v := ?v0) rfl (by kernel_rfl) (by kernel_rfl) (by kernel_rfl) (fun _ _ _ h => h) (Or.inl ⟨by rfl, ?hy0⟩) (by assumption) ?rest0
  case hy0 => (intro w hSw; (try dsimp only at hSw); go_simp <;> (try with_reducible rfl))
  simp only [Act.put, ptL]; refine wpAnyH_take (i := 1) (v := ?v1) rfl (by kernel_rfl) (by kernel_rfl) (by kernel_rfl) (fun _ _ _ h => h) (Or.inl ⟨by rfl, ?hy1⟩) (by assumption) ?rest1
  case hy1 => (intro w hSw; (try dsimp only at hSw); go_simp <;> (try with_reducible rfl))
  simp only [Act.put, ptL]; refine wpAnyH_take (i := 2) (v := ?v2) rfl (by kernel_rfl) (by kernel_rfl) (by kernel_rfl) (fun _ _ _ h => h) (Or.inl ⟨by rfl, ?hy2⟩) (by assumption) ?rest2
  case hy2 => (intro w hSw; (try dsimp only at hSw); go_simp <;> (try with_reducible rfl))
  simp only [Act.put, ptL]; refine wpAnyH_take (i := 3) (v := ?v3) rfl (by kernel_rfl) (by kernel_rfl) (by kernel_rfl) (fun _ _ _ h => h) (Or.inl ⟨by rfl, ?hy3⟩) (by assumption) ?rest3
  case hy3 => (intro w hSw; (try dsimp only at hSw); go_simp <;> (try with_reducible rfl))
  simp only [Act.put, ptL]; refine wpAnyH_take (i := 5) (v := ?v4) rfl (by kernel_rfl) (by kernel_rfl) (by kernel_rfl) (fun _ _ _ h => h) (Or.inl ⟨by rfl, ?hy4⟩) (by assumption) ?rest4
  case hy4 => (intro w hSw; (try dsimp only at hSw); go_simp <;> (try with_reducible rfl))
  simp only [Act.put, ptL]; refine wpAnyH_take (i := 6) (v := ?v5) rfl (by kernel_rfl) (by kernel_rfl) (by kernel_rfl) (fun _ _ _ h => h) (Or.inl ⟨by rfl, ?hy5⟩) (by assumption) ?rest5
  case hy5 => (intro w hSw; (try dsimp only at hSw); go_simp <;> (try with_reducible rfl))
  simp only [Act.put, ptL]; refine wpAnyH_take (i := 7) (v := ?v6) rfl (by kernel_rfl) (by kernel_rfl) (by kernel_rfl) (fun _ _ _ h => h) (Or.inl ⟨by rfl, ?hy6⟩) (by assumption) ?rest6
  case hy6 => (intro w hSw; (try dsimp only at hSw); go_simp <;> (try with_reducible rfl))
  simp only [Act.put, ptL]; refine wpAnyH_take (i := 8) (v := ?v7) rfl (by kernel_rfl) (by kernel_rfl) (by kernel_rfl) (fun _ _ _ h => h) (Or.inl ⟨by rfl, ?hy7⟩) (by assumption) ?rest7
  case hy7 => (intro w hSw; (try dsimp only at hSw); go_simp <;> (try with_reducible rfl))
  simp only [Act.put, ptL]; refine wpAnyH_take (i := 9) (v := ?v8) rfl (by kernel_rfl) (by kernel_rfl) (by kernel_rfl) (fun _ _ _ h => h) (Or.inl ⟨by rfl, ?hy8⟩) (by assumption) ?rest8
  case hy8 => (intro w hSw; (try dsimp only at hSw); go_simp <;> (try with_reducible rfl))
  simp only [Act.put, ptL]; refine wpAnyH_take (i := 10) (v := ?v9) rfl (by kernel_rfl) (by kernel_rfl) (by kernel_rfl) (fun _ _ _ h => h) (Or.inl ⟨by rfl, ?hy9⟩) (by assumption) ?rest9
  case hy9 => (intro w hSw; (try dsimp only at hSw); go_simp <;> (try with_reducible rfl))
  simp only [Act.put, ptL]; refine wpAnyH_take (i := 12) (v := ?v10) rfl (by kernel_rfl) (by kernel_rfl) (by kernel_rfl) (fun _ _ _ h => h) (Or.inl ⟨by rfl, ?hy10⟩) (by assumption) ?rest10
  case hy10 => (intro w hSw; (try dsimp only at hSw); go_simp <;> (try with_reducible rfl))
  simp only [Act.put, ptL]; refine wpAnyH_take (i := 13) (v := ?v11) rfl (by kernel_rfl) (by kernel_rfl) (by kernel_rfl) (fun _ _ _ h => h) (Or.inl ⟨by rfl, ?hy11⟩) (by assumption) ?rest11
  case hy11 => (intro w hSw; (try dsimp only at hSw); go_simp <;> (try with_reducible rfl))
  simp only [Act.put, ptL]; refine wpAnyH_take (i := 14) (v := ?v12) rfl (by kernel_rfl) (by kernel_rfl) (by kernel_rfl) (fun _ _ _ h => h) (Or.inl ⟨by rfl, ?hy12⟩) (by assumption) ?rest12
  case hy12 => (intro w hSw; (try dsimp only at hSw); go_simp <;> (try with_reducible rfl))
  simp only [Act.put, ptL]; refine wpAnyH_take (i := 15) (v := ?v13) rfl (by kernel_rfl) (by kernel_rfl) (by kernel_rfl) (fun _ _ _ h => h) (Or.inl ⟨by rfl, ?hy13⟩) (by assumption) ?rest13
  case hy13 => (intro w hSw; (try dsimp only at hSw); go_simp <;> (try with_reducible rfl))
  simp only [Act.put, ptL]; refine rz1 4 rfl (fun K hK => ?_); go_simp
  (with_reducible refine (c_compare pa pb _).mono ?_)
  rintro e wa ⟨rfl, rfl⟩; go_simp; refine hK.out _ _ (by (try dsimp only); exact hHeld) (fun hHeld => ?_); clear hK K; (try simp only [Act.put, ptL]); refine rz1 11 rfl (fun K hK => ?_); go_simp
  (with_reducible refine (c_compare (a.length : Int) (b.length : Int) _).mono ?_)
  rintro e wa ⟨rfl, rfl⟩; go_simp; refine hK.out _ _ (by (try dsimp only); exact hHeld) (fun hHeld => ?_); clear hK K; (try simp only [Act.put, ptL]); refine rz1 16 rfl (fun K hK => ?_); go_simp
  (with_reducible refine (c_slcmp qa qb ca cb a b _ (HA.out.below (Below.refl _ _).drew) (HB1.out.below (Below.refl _ _).drew) hla hlb).mono ?_)
  rintro e wa ⟨rfl, rfl⟩; go_simp; refine hK.out _ _ (by (try dsimp only); exact hHeld) (fun hHeld => ?_); clear hK K; (try simp only [Act.put, ptL]); refine rz1 17 rfl (fun K hK => ?_); go_simp; refine hK.out _ _ (by (try dsimp only); exact HAL.out _) (fun hHeld => ?_); clear hK K; (try simp only [Act.put, ptL]); refine rz1 18 rfl (fun K hK => ?_); go_simp
  (with_reducible refine HOR.out.mono ?_)
  rintro e wa ⟨rfl, rfl⟩; go_simp; refine hK.out _ _ (by (try dsimp only); exact hHeld) (fun hHeld => ?_); clear hK K; (try simp only [Act.put, ptL]); refine wpAnyH_take (i := 19) (v := ?v19) rfl (by kernel_rfl) (by kernel_rfl) (by kernel_rfl) (fun _ _ _ h => h) (Or.inl ⟨by rfl, ?hy19⟩) (by assumption) ?rest19
  case hy19 => (intro w hSw; (try dsimp only at hSw); go_simp <;> (try with_reducible rfl))
  simp only [Act.put, ptL]; refine wpAnyH_take (i := 20) (v := ?v20) rfl (by kernel_rfl) (by kernel_rfl) (by kernel_rfl) (fun _ _ _ h => h) (Or.inl ⟨by rfl, ?hy20⟩) (by assumption) ?rest20
  case hy20 => (intro w hSw; (try dsimp only at hSw); go_simp <;> (try with_reducible rfl))
  simp only [Act.put, ptL]; go_simp; refine wpAnyH_done (by kernel_rfl) ?_ _; go_wp2; go_ret; exact ⟨rfl, HBB.out⟩
end Go.Proofs.YtbknfddaoolagaaGreatDoor
end

section
namespace Go.Proofs.YtbknfddaoolagaaGreatDoor
open Go Go.RowKit Go.Proofs
set_option linter.unusedVariables false
set_option linter.unusedSimpArgs false
attribute [local go_sem] imax2 imin2

def RdN (w : World) (p : Option Addr) (prices : List Int) (ls : List (List Int)) : Prop :=
  ls = [] ∨ ∃ b, p = some ⟨b, 0, none⟩ ∧ ∀ i, i < ls.length → ∃ q c, w.cell? ⟨b, i * 2, none⟩ = some (.slice q (gl ls i).length c) ∧ w.cell? ⟨b, i * 2 + 1, none⟩ = some (.int .i64 (priceF prices (gl ls i))) ∧ RdI w q (gl ls i)
theorem RdN.at {w : World} {p : Option Addr} {prices : List Int} {ls : List (List Int)} (h : RdN w p prices ls) {i : Nat} (hi : i < ls.length) :
    ∃ b, p = some ⟨b, 0, none⟩ ∧ ∀ i, i < ls.length → ∃ q c, w.cell? ⟨b, i * 2, none⟩ = some (.slice q (gl ls i).length c) ∧ w.cell? ⟨b, i * 2 + 1, none⟩ = some (.int .i64 (priceF prices (gl ls i))) ∧ RdI w q (gl ls i) := by
  rcases h with h | h
  · subst h; simp at hi
  · exact h
theorem firstF_take (prices : List Int) (ls : List (List Int)) {k : Nat} (hk : k < ls.length) : firstF prices (ls.take (k + 1)) = if k = 0 then gl ls k else if keyB prices (gl ls k) (firstF prices (ls.take k)) = true then gl ls k else firstF prices (ls.take k) := by
  have e : gl ls k = ls[k] := by unfold gl; simp [hk]
  rw [List.take_succ_eq_append_getElem hk, firstF_snoc, ← e]
  by_cases h : k = 0
  · subst h; simp
  · rw [if_neg (by intro hc; have := congrArg List.length hc; rw [List.length_take, List.length_nil] at this; omega), if_neg h]; rfl

set_option maxHeartbeats 1600000 in
set_option maxRecDepth 100000 in
theorem c_bestRenew (q : Option Addr) (cq : Nat) (prices : List Int) (ls : List (List Int)) (w : World) (hq : RdN w q prices ls) (hl : ls.length ≤ 1000000) (hll : ∀ i, i < ls.length → (gl ls i).length ≤ 1000000) :
    Calls Tryz.prog 76 #[.slice q ls.length cq, .func (.func 77) #[] #[]] w fun e w' =>
      ∃ qx cx, e = .returned (.agg #[.slice qx (firstF prices ls).length cx, .int .i64 (priceF prices (firstF prices ls))]) ∧ RdI w qx (firstF prices ls) ∧ Below w.heap.size w w' := by
  have kr := alloc_new w (.cells #[.slice none 0 0, .int .i64 0] 118); obtain ⟨w1, e1, HS1, _, _, b1⟩ := box2 w (.slice none 0 0) (.int .i64 0) 118; rw [e1] at kr; have ko := alloc_new w1 (.cells #[.slice none 0 0, .int .i64 0] 118); obtain ⟨w2, e2, HS2, _, _, b2⟩ := box2 w1 (.slice none 0 0) (.int .i64 0) 118; rw [e2] at ko; have HQ := Lib.hid hq; have HLL := Lib.hid hll; have HKO := Lib.hid ko; have HKR := Lib.hid ((b2.block _ (block_lt kr)).trans kr); have HB := Lib.hid (b1.trans (b2.mono b1.size)); have HZ := Lib.hid (show w.heap.size < w1.heap.size ∧ w1.heap.size < w2.heap.size from ⟨by have := HS1.out; omega, by have := HS2.out; omega⟩); clear hq hll ko kr b1 b2
  go_enter Tryz.func76, Tryz.ntmps76
  go_wp2; clear e1 e2
  go_loopw [10] (fun i wr => ∃ (k : Nat) (qx : Option Addr) (cx : Nat) (x : List Int), k ≤ ls.length ∧ i = .int .i64 k ∧ Hid (firstF prices (ls.take k) = x) ∧ Hid (RdI w qx x ∧ x.length ≤ 1000000) ∧ Hid (wr.heap[w1.heap.size]? = some (.cells #[.slice qx x.length cx, .int .i64 (priceF prices x)] 118 (0, 0))) ∧ Hid (BelX (fun x => x = w1.heap.size) w2.heap.size w2 wr)) (fun i _ => ls.length - (intOf i).toNat)
  case atStart => exact ⟨0, none, 0, [], by omega, rfl, Lib.hid rfl, Lib.hid ⟨.inl rfl, by simp⟩, HKO, Lib.hid (BelX.refl _ _ _)⟩
  case round =>
    obtain ⟨k, qx, cx, x, hk, rfl, HF, HR, HO, HX⟩ := hrel; obtain ⟨hz01, hz12⟩ := HZ.out; have hBr : Below w.heap.size w wr := ((belX_of (X := fun x => x = w1.heap.size) HB.out).trans (HX.out.mono (by omega))).below (B' := w.heap.size) (Nat.le_refl _) (fun x hx => by subst hx; omega)
    by_cases hlt : k < ls.length
    · obtain ⟨b, rfl, hall⟩ := HQ.out.at hlt
      obtain ⟨qy, cy, d0, d1, hy⟩ := hall k hlt; have d0 := (hBr.cell (lt_of_cellq d0)).trans d0; have d1 := (hBr.cell (lt_of_cellq d1)).trans d1; have HFT := Lib.hid (firstF_take prices ls hlt); have hyl := HLL.out k hlt; obtain ⟨y, hyy⟩ : ∃ y, gl ls k = y := ⟨_, rfl⟩; rw [hyy] at d0 d1 hy HFT hyl; rw [HF.out] at HFT; clear hyy; obtain ⟨w4, e4, HS4, y0, y1, b4⟩ := box2 wr (.slice qy y.length cy) (.int .i64 (priceF prices y)) 118; have HB4 := Lib.hid (hBr.trans (b4.mono hBr.size)); have HO4 := Lib.hid ((b4.block _ (block_lt HO.out)).trans HO.out); have HX4 := Lib.hid (HX.out.trans ((belX_of b4).mono HX.out.size)); have HY := Lib.hid (And.intro hy hyl); obtain ⟨o0, o1⟩ := cells2 HO4.out; have h0k : (0 : Int) ≤ (k : Int) := by omega
      have hki : (k : Int) < (ls.length : Int) := by omega
      obtain ⟨P, hP⟩ : ∃ P, priceF prices y = P := ⟨_, rfl⟩; obtain ⟨R, hR⟩ : ∃ R, priceF prices x = R := ⟨_, rfl⟩; have HPR := Lib.hid (And.intro hP hR); have hcall := c1_better qy qx cy cx y x P R w4 (hy.below HB4.out) (HR.out.1.below HB4.out) hyl HR.out.2; have hko := key_or prices y x; rw [hP, hR] at hko; rw [hko] at hcall; rw [hP] at d1 y1 e4; rw [hR] at o1 HO4; clear hBr hall b4 hy hyl hP hR hko
      by_cases hk0 : k = 0
      · have hkb : ((k : Int) == 0) = true := by subst hk0; rfl
        have HE := Lib.hid (show firstF prices (ls.take (k + 1)) = y by rw [HFT.out, if_pos hk0]); obtain ⟨w5, w6, s1, s2, ⟨x0, f0⟩, ⟨x1, f1⟩, hx4, hxk, HZ6, hxb⟩ := set2 w4 w1.heap.size 118 _ _ (.slice qy y.length cy) (.int .i64 P) HO4.out; have HO6 := Lib.hid hx4
        have HX6 := Lib.hid (show BelX (fun x => x = w1.heap.size) w2.heap.size w2 w6 by
          have g3 := (HX4.out.setCell (p := ⟨w1.heap.size, 0, none⟩) (.inl rfl) (.slice qy y.length cy)).setCell (p := ⟨w1.heap.size, 1, none⟩) (.inl rfl) (.int .i64 P); rw [s1, s2] at g3; exact g3)
        clear hx4 hxk hxb hk0 hcall; go_wp2; go_roundw
        case rel => exact ⟨k + 1, qy, cy, y, by omega, by go_num, HE, HY, by rw [HPR.out.1]; exact HO6, HX6⟩
        case measure => simp [intOf]; omega
      · have hkb : ((k : Int) == 0) = false := by rw [beq_eq_false_iff_ne]; omega
        have HN := Lib.hid hk0; clear hk0
        cases hd : keyB prices y x with
        | true =>
          have HE := Lib.hid (show firstF prices (ls.take (k + 1)) = y by rw [HFT.out, if_neg HN.out, if_pos hd]); rw [hd] at hcall; clear hd; go_wp2_with fail; refine hcall.mono ?_; clear hcall; rintro e w5 ⟨rfl, b5⟩; have y0 := (b5.cell (lt_of_cellq y0)).trans y0; have y1 := (b5.cell (lt_of_cellq y1)).trans y1; obtain ⟨w6, w7, s1, s2, ⟨x0, f0⟩, ⟨x1, f1⟩, hx4, hxk, HZ6, hxb⟩ := set2 w5 w1.heap.size 118 _ _ (.slice qy y.length cy) (.int .i64 P) ((b5.block _ (block_lt HO4.out)).trans HO4.out); have HO6 := Lib.hid hx4
          have HX6 := Lib.hid (show BelX (fun x => x = w1.heap.size) w2.heap.size w2 w7 by
            have g3 := ((HX4.out.trans ((belX_of b5).mono HX4.out.size)).setCell (p := ⟨w1.heap.size, 0, none⟩) (.inl rfl) (.slice qy y.length cy)).setCell (p := ⟨w1.heap.size, 1, none⟩) (.inl rfl) (.int .i64 P); rw [s1, s2] at g3; exact g3)
          clear hx4 hxk hxb b5 o0 o1; go_wp2; go_roundw
          case rel => exact ⟨k + 1, qy, cy, y, by omega, by go_num, HE, HY, by rw [HPR.out.1]; exact HO6, HX6⟩
          case measure => simp [intOf]; omega
        | false =>
          have HE := Lib.hid (show firstF prices (ls.take (k + 1)) = x by rw [HFT.out, if_neg HN.out, if_neg (by rw [hd]; decide)]); rw [hd] at hcall; clear hd; go_wp2_with fail; refine hcall.mono ?_; clear hcall; rintro e w5 ⟨rfl, b5⟩; have HO6 := Lib.hid ((b5.block _ (block_lt HO4.out)).trans HO4.out); have HX6 := Lib.hid (HX4.out.trans ((belX_of b5).mono HX4.out.size)); clear b5 o0 o1; go_wp2; go_roundw
          case rel => exact ⟨k + 1, qx, cx, x, by omega, by go_num, HE, HR, by rw [HPR.out.2]; exact HO6, HX6⟩
          case measure => simp [intOf]; omega
    · obtain rfl : k = ls.length := by omega
      obtain ⟨o0, o1⟩ := cells2 HO.out; have hkr := (HX.out.block w.heap.size (by omega) (by omega)).trans HKR.out; have HFE := Lib.hid (show firstF prices ls = x by have h := HF.out; rwa [List.take_length] at h); obtain ⟨R, hR⟩ : ∃ R, priceF prices x = R := ⟨_, rfl⟩; have HRE := Lib.hid hR; rw [hR] at o1; obtain ⟨w5, w6, s1, s2, ⟨c0, f0⟩, ⟨c1, f1⟩, hx4, hxk, HZ6, hxb⟩ := set2 wr w.heap.size 118 _ _ (.slice qx x.length cx) (.int .i64 R) hkr; obtain ⟨r0, r1⟩ := cells2 hx4; have HBB := Lib.hid (show Below w.heap.size w w6 from hxb w w.heap.size (by omega) hBr); clear hx4 hxk hxb hkr hBr hR; go_wp2; refine bodyPost_ret (v := .agg #[.slice qx x.length cx, .int .i64 R]) ?_ rfl ⟨qx, cx, by rw [HFE.out, HRE.out], by rw [HFE.out]; exact HR.out.1, HBB.out⟩; simp [results, Tryz.results76, go_sem, r0, r1]
end Go.Proofs.YtbknfddaoolagaaGreatDoor
end

section
namespace Go.Proofs.YtbknfddaoolagaaGreatDoor
open Go Go.RowKit Go.Proofs
set_option linter.unusedVariables false

theorem unw {b : Bool} {p q : Prop} (hb : b = false) (h : q) : if b = true then p else q := by rw [if_neg (by rw [hb]; decide)]; exact h
def RnE (w : World) (B : Nat) (ls : List (List Int)) (hs : List Value) : Prop := hs.length = ls.length ∧ ∀ i, i < ls.length → ∃ hv, hs[i]? = some hv ∧ w.ownsRow B 3 1 hv (gl ls i).length (inV (gl ls i))
def rnV (prices : List Int) : List Value → List (List Int) → List Value
  | h :: hs, l :: ls => h :: .int .i64 (priceF prices l) :: rnV prices hs ls
  | [], _ => []
  | _ :: _, [] => []
theorem rnV_snoc (prices : List Int) : ∀ (hs : List Value) (ls : List (List Int)) (h : Value) (l : List Int), hs.length = ls.length → rnV prices (hs ++ [h]) (ls ++ [l]) = rnV prices hs ls ++ [h, .int .i64 (priceF prices l)] := by
  intro hs
  induction hs with
  | nil =>
    intro ls h l hl; have : ls = [] := List.length_eq_zero_iff.1 (by rw [← hl]; rfl); subst this; rfl
  | cons a hs ih =>
    intro ls h l hl
    cases ls with
    | nil => simp at hl
    | cons b ls =>
      simp only [List.cons_append, rnV]; rw [ih ls h l (by simp at hl; exact hl)]
theorem rnV_get (prices : List Int) : ∀ (hs : List Value) (ls : List (List Int)) (i : Nat) (hv : Value), i < ls.length → hs[i]? = some hv → (rnV prices hs ls)[i * 2]? = some hv ∧ (rnV prices hs ls)[i * 2 + 1]? = some (.int .i64 (priceF prices (gl ls i))) := by
  intro hs
  induction hs with
  | nil => intro ls i hv h1 h2; simp at h2
  | cons a hs ih =>
    intro ls i hv h1 h2
    cases ls with
    | nil => simp at h1
    | cons b ls =>
      cases i with
      | zero => simp at h2; subst h2; exact ⟨rfl, rfl⟩
      | succ i =>
        have h3 := ih ls i hv (by simp at h1; omega) (by simpa using h2); rw [show (i + 1) * 2 = i * 2 + 1 + 1 by omega]; simp only [rnV, List.getElem?_cons_succ]; exact h3
theorem RnE.nil (w : World) (B : Nat) : RnE w B [] [] := ⟨rfl, fun i h => absurd h (Nat.not_lt_zero _)⟩
theorem gl_snocR (ls : List (List Int)) (x : List Int) (i : Nat) : gl (ls ++ [x]) i = if i < ls.length then gl ls i else if i = ls.length then x else [] := by
  unfold gl; rw [List.getD_eq_getElem?_getD, List.getD_eq_getElem?_getD]
  by_cases h : i < ls.length
  · rw [if_pos h, List.getElem?_append_left h]
  · rw [if_neg h]
    by_cases h2 : i = ls.length
    · subst h2; simp
    · rw [if_neg h2, List.getElem?_eq_none (by simp; omega)]; rfl
theorem RnE.snoc {w : World} {B : Nat} {ls : List (List Int)} {hs : List Value} {x : List Int} {hv : Value} (h : RnE w B ls hs) (hx : w.ownsRow B 3 1 hv x.length (inV x)) : RnE w B (ls ++ [x]) (hs ++ [hv]) := by
  refine ⟨by rw [List.length_append, List.length_append, h.1]; rfl, fun i hi => ?_⟩; rw [List.length_append, List.length_singleton] at hi; rw [gl_snocR]
  by_cases h1 : i < ls.length
  · obtain ⟨v, e1, e2⟩ := h.2 i h1
    rw [if_pos h1]; exact ⟨v, by rw [List.getElem?_append_left (by rw [h.1]; exact h1)]; exact e1, e2⟩
  · obtain rfl : i = ls.length := by omega
    rw [if_neg h1, if_pos rfl]; exact ⟨hv, by rw [← h.1]; simp, hx⟩
theorem RnE.grown {w w' : World} {B B' n size e : Nat} {ls : List (List Int)} {hs xs : List Value} {v : Value} (h : RnE w B ls hs) (ho : w.ownsRow B' e size v n xs) (he : e ≠ 3) (hg : w.grownBy w' v.ownBlock) : RnE w' B ls hs :=
  ⟨h.1, fun i hi => by
    obtain ⟨u, e1, e2⟩ := h.2 i hi; exact ⟨u, e1, e2.kept hg (own_apart e2 ho (Ne.symm he))⟩⟩
theorem RnE.below {w w' : World} {B : Nat} {ls : List (List Int)} {hs : List Value} (h : RnE w B ls hs) (hb : Below w.heap.size w w') : RnE w' B ls hs :=
  ⟨h.1, fun i hi => by
    obtain ⟨u, e1, e2⟩ := h.2 i hi; exact ⟨u, e1, own_kept e2 hb⟩⟩
theorem RnE.alloc {w : World} {B : Nat} {ls : List (List Int)} {hs : List Value} (h : RnE w B ls hs) (o : Obj) : RnE (w.alloc o) B ls hs := h.below (below_alloc1 _ _)
theorem rdN_of {w : World} {B : Nat} {prices : List Int} {ls : List (List Int)} {hs : List Value} {v : Value} (h : w.ownsRow B 118 2 v ls.length (rnV prices hs ls)) (he : RnE w B ls hs) : ∃ q c, v = .slice q ls.length c ∧ RdN w q prices ls := by
  rcases h.2 with ⟨rfl, h0⟩ | ⟨g, cap, cur, rfl, hb, hg, hnc, hcm, hsz, htk⟩
  · exact ⟨none, 0, by rw [h0], .inl (List.length_eq_zero_iff.1 h0)⟩
  · refine ⟨some ⟨g, 0, none⟩, cap, rfl, .inr ⟨g, rfl, fun i hi => ?_⟩⟩
    obtain ⟨hv, e1, e2⟩ := he.2 i hi; obtain ⟨a, c, rfl, hr⟩ := rd_of_own e2; obtain ⟨t0, t1⟩ := rnV_get prices hs ls i _ hi e1; have d0 := h.cells (g := g) rfl _ _ t0; have d1 := h.cells (g := g) rfl _ _ t1; rw [add_new] at d0 d1; exact ⟨a, c, d0, d1, hr⟩

def keptL (p : Pc) (lim : Int) (n k : Nat) : List (List Int) := ((List.range k).map fun s => setL s n).filter (enoughB p lim)
theorem keptL_zero (p : Pc) (lim : Int) (n : Nat) : keptL p lim n 0 = [] := rfl
theorem keptL_succ (p : Pc) (lim : Int) (n k : Nat) : keptL p lim n (k + 1) = keptL p lim n k ++ if enoughB p lim (setL k n) = true then [setL k n] else [] := by
  unfold keptL; rw [List.range_succ, List.map_append, List.filter_append]
  congr 1
  cases hf : enoughB p lim (setL k n) <;> simp [hf]
theorem keptL_len (p : Pc) (lim : Int) (n k : Nat) : (keptL p lim n k).length ≤ k := by
  unfold keptL; refine Nat.le_trans (List.length_filter_le _ _) ?_
  simp
theorem keptL_all (p : Pc) (lim : Int) (n : Nat) : keptL p lim n (2 ^ n) = (allL n).filter (enoughB p lim) := by
  unfold keptL; rw [setL_all]
theorem setL_mem (s : Nat) : ∀ k, ∀ x ∈ setL s k, 0 ≤ x ∧ x < (k : Int) := by
  intro k
  induction k with
  | zero => intro x h; cases h
  | succ k ih =>
    intro x h; simp only [setL] at h
    by_cases hb : bitB s k = true
    · rw [if_pos hb] at h
      rcases List.mem_append.1 h with h | h
      · have := ih x h; omega
      · rw [List.mem_singleton.1 h]; omega
    · rw [if_neg hb] at h; have := ih x h; omega
theorem setL_gi (s k : Nat) (i : Nat) (h : i < (setL s k).length) : 0 ≤ gi (setL s k) i ∧ gi (setL s k) i < (k : Int) := by
  rw [gi_get _ _ h]; exact setL_mem s k _ (List.getElem_mem h)
theorem setL_len (s : Nat) : ∀ k, (setL s k).length ≤ k := by
  intro k
  induction k with
  | zero => exact Nat.le_refl _
  | succ k ih =>
    simp only [setL]
    split
    · rw [List.length_append]; simp; exact ih
    · omega
theorem setL_yes {s k : Nat} (h : bitB s k = true) : setL s (k + 1) = setL s k ++ [(k : Int)] := by simp only [setL]; rw [if_pos h]
theorem setL_no {s k : Nat} (h : bitB s k = false) : setL s (k + 1) = setL s k := by simp only [setL]; rw [if_neg (by rw [h]; decide)]
theorem price_yes {prices : List Int} {s k : Nat} (h : bitB s k = true) : priceF prices (setL s (k + 1)) = priceF prices (setL s k) + gi prices k := by
  rw [setL_yes h]; unfold priceF; rw [List.foldl_append]; rfl
theorem price_set {prices : List Int} (hp : ∀ i, i < prices.length → 0 ≤ gi prices i ∧ gi prices i ≤ 1000) (s : Nat) : ∀ k, k ≤ prices.length → 0 ≤ priceF prices (setL s k) ∧ priceF prices (setL s k) ≤ 1000 * (k : Int) := by
  intro k
  induction k with
  | zero => intro _; simp [setL, priceF]
  | succ k ih =>
    intro hk; have h1 := ih (by omega); have h2 := hp k (by omega)
    cases hb : bitB s k with
    | true => rw [price_yes hb]; omega
    | false => rw [setL_no hb]; omega
theorem enough_span {p : Pc} (hp : PieceOk p) (ht : truthsF p ≠ []) (s : Nat) (lim : Int) : decide ((ovF p (lessS (setL s p.ms.length))).2 ≤ lim) = enoughB p lim (setL s p.ms.length) := by
  have key : ∀ pl ∈ truthsF p, lessF pl (setL s p.ms.length) = restF pl (setL s p.ms.length) := fun pl hpl => by
    have hk := (truth_plays hp hpl).len; rw [← hk]; exact less_rest pl s
  rw [Bool.eq_iff_iff, decide_eq_true_eq, enough_iff]
  constructor
  · intro h pl hpl
    have h1 := (ovF_mem (lessS (setL s p.ms.length)) hpl).2; rw [← key pl hpl]; unfold lessS just at h1 h; exact Int.le_trans h1 h
  · intro h
    obtain ⟨pl, hpl, e⟩ := ovF_high (lessS (setL s p.ms.length)) ht; rw [e]; unfold lessS just; rw [key pl hpl]; exact h pl hpl
theorem renewF_kept (p : Pc) (prices : List Int) (lim : Int) : renewF p prices lim = firstF prices (keptL p lim p.ms.length (2 ^ p.ms.length)) := by unfold renewF; rw [keptL_all]

theorem bits_one (m : Nat) (h : m < 1000000) : bits .and .i64 (m : Int) 1 = ((m % 2 : Nat) : Int) := by
  have h1 : (BitVec.ofInt 64 (m : Int)).toNat = m := by
    rw [BitVec.ofInt_natCast, BitVec.toNat_ofNat]; exact Nat.mod_eq_of_lt (by omega)
  have h2 : (BitVec.ofInt 64 (1 : Int)).toNat = 1 := rfl; show IntKind.i64.wrap ((BitVec.ofInt 64 (m : Int) &&& BitVec.ofInt 64 (1 : Int)).toNat : Int) = _; rw [BitVec.toNat_and, h1, h2, Nat.and_one_is_mod]; exact w64 _ (by omega) (by omega)
theorem bit_walk (s k : Nat) (hs : s < 1000000) : ((bits .and .i64 ((s : Int) / 2 ^ k) 1) == 1) = bitB s k := by
  have e : ((s : Int) / 2 ^ k) = ((s / 2 ^ k : Nat) : Int) := by rw [Int.natCast_ediv, Int.natCast_pow]; rfl
  rw [e, bits_one _ (Nat.lt_of_le_of_lt (Nat.div_le_self _ _) hs)]; unfold bitB; rw [Bool.eq_iff_iff, beq_iff_eq, decide_eq_true_eq]; omega
theorem renew_fine {p : Pc} {prices : List Int} {lim : Int} (h : ((((prices.length : Int) == (p.ms.length : Int)) && prices.all fun x => inB x 0 1000) && inB lim 0 5000) = true) :
    prices.length = p.ms.length ∧ (∀ i, i < prices.length → 0 ≤ gi prices i ∧ gi prices i ≤ 1000) ∧ 0 ≤ lim ∧ lim ≤ 5000 := by
  rw [Bool.and_eq_true, Bool.and_eq_true, beq_iff_eq] at h; obtain ⟨⟨h1, h2⟩, h3⟩ := h; have h3 := inB_iff.1 h3; refine ⟨by omega, fun i hi => ?_, h3.1, h3.2⟩; rw [List.all_eq_true] at h2; have := inB_iff.1 (h2 _ (List.getElem_mem hi)); rw [gi_get _ _ hi]; exact this
theorem infRn : (Tryz.prog.info? 118).map (fun i => (i.zero, i.size, i.bytes)) = some (some (.agg #[.slice none 0 0, .int .i64 0]), 2, 32) := by kernel_rfl
end Go.Proofs.YtbknfddaoolagaaGreatDoor
end
