/-
  Plain laws of what is known of a cam that was gauged.
  Plain laws: whether a cam fits, or is true, as tests; all cams with heights of a rule, tried one by one.
  Whether a cam fits, and is a truth: the program's and the references' answers.
-/
import Derived.Test.YtncfgkhbenmpoaaGreatDoorGg
import Derived.Test.YtncfgkhbenmpoaaGreatDoorGi
import Derived.Test.YtncfgkhbenmpoaaGreatDoorGl
import Derived.BigQuiet
section
namespace Go.Proofs.YtncfgkhbenmpoaaGreatDoor
open Go Go.RowKit Go.Proofs Go.Shelf
set_option linter.unusedVariables false

/-- a cam that is true -/
structure TruR (lo hi sl ch : Int) (n : Nat) (gs : List Gau) (xs : List Int) : Prop where
  fit : FitR lo hi sl ch xs
  len : xs.length = n
  seen : ∀ j, j < gs.length → -(gg gs j).off ≤ gi xs (gg gs j).step.toNat - (gg gs j).height ∧ gi xs (gg gs j).step.toNat - (gg gs j).height ≤ (gg gs j).off
theorem ga_mem (lo hi : Int) (n : Nat) (gs : List Gau) (hg : gausB n gs = true) (i : Nat) (hi' : i < n) (h : Int) : ∀ k, k ≤ gs.length →
    (((spn (gaTo lo hi n gs k) i).1 ≤ h ∧ h ≤ (spn (gaTo lo hi n gs k) i).2) ↔ (lo ≤ h ∧ h ≤ hi) ∧ ∀ j, j < k → (gg gs j).step.toNat = i → (gg gs j).height - (gg gs j).off ≤ h ∧ h ≤ (gg gs j).height + (gg gs j).off) := by
  intro k
  induction k with
  | zero =>
    intro _
    have e : spn (gaTo lo hi n gs 0) i = (lo, hi) := by unfold spn gaTo; simp [hi']
    rw [e]
    exact ⟨fun h => ⟨h, fun j hj => by omega⟩, fun h => h.1⟩
  | succ k ih =>
    intro hk
    have ih := ih (by omega)
    have hs := (gauge_at hg (k := k) (by omega)).1
    simp only [gaTo]
    rw [spn_set _ _ _ (by rw [gaTo_length]; omega)]
    by_cases e : (gg gs k).step.toNat = i
    · rw [if_pos e]
      rw [e]
      simp only
      constructor
      · intro h1
        have h2 := ih.1 (by omega)
        refine ⟨h2.1, fun j hj he => ?_⟩
        rcases Nat.lt_or_ge j k with hlt | hge
        · exact h2.2 j hlt he
        · obtain rfl : j = k := by omega
          omega
      · intro h1
        have h2 := ih.2 ⟨h1.1, fun j hj he => h1.2 j (by omega) he⟩
        have h3 := h1.2 k (by omega) e
        omega
    · rw [if_neg e]
      rw [ih]
      constructor
      · intro h1
        refine ⟨h1.1, fun j hj he => ?_⟩
        rcases Nat.lt_or_ge j k with hlt | hge
        · exact h1.2 j hlt he
        · obtain rfl : j = k := by omega
          exact absurd he e
      · intro h1
        exact ⟨h1.1, fun j hj he => h1.2 j (by omega) he⟩
theorem fit_ga {lo hi sl ch : Int} {n : Nat} {gs : List Gau} (hg : gausB n gs = true) {xs : List Int} : FitS sl ch (gaTo lo hi n gs gs.length) xs ↔ TruR lo hi sl ch n gs xs := by
  constructor
  · intro h
    have hl : xs.length = n := by have := h.len; rwa [gaTo_length] at this
    refine ⟨⟨fun i hi' => ?_, h.near, h.few⟩, hl, fun j hj => ?_⟩
    · exact ((ga_mem lo hi n gs hg i (by omega) (gi xs i) _ (Nat.le_refl _)).1 (h.ins i hi')).1
    · have hs := (gauge_at hg hj).1
      have := ((ga_mem lo hi n gs hg (gg gs j).step.toNat (by omega) (gi xs (gg gs j).step.toNat) _ (Nat.le_refl _)).1 (h.ins _ (by omega))).2 j hj rfl
      omega
  · intro h
    refine ⟨by rw [gaTo_length]; exact h.len, fun i hi' => ?_, h.fit.near, h.fit.few⟩
    have hl := h.len
    refine (ga_mem lo hi n gs hg i (by omega) (gi xs i) _ (Nat.le_refl _)).2 ⟨h.fit.ins i hi', fun j hj he => ?_⟩
    have := h.seen j hj
    rw [he] at this
    omega
theorem spn_bound (sl ch : Int) (ss : List (Int × Int)) (i : Nat) (h : i < ss.length) : spn (boundL sl ch ss) i = boundF sl ch ss i := by unfold boundL; exact spn_map _ _ _ h
theorem ga_cs {lo hi sl ch : Int} {n : Nat} {gs : List Gau} (hr : ruleB lo hi sl ch = true) (hg : gausB n gs = true) : ∀ i, i < (gaTo lo hi n gs gs.length).length → 0 ≤ (spn (gaTo lo hi n gs gs.length) i).1 ∧ (spn (gaTo lo hi n gs gs.length) i).2 ≤ 30 := by
  have hp := rule_parts hr
  intro i h
  rw [gaTo_length] at h
  have := gaTo_range lo hi n gs (by omega) (by omega) hg gs.length (Nat.le_refl _) i h
  omega
/-- there are spans to tell just if some cam is true -/
theorem known_iff {lo hi sl ch : Int} {n : Nat} {gs : List Gau} (hr : ruleB lo hi sl ch = true) (hn : 3 ≤ n ∧ n ≤ 24) (hg : gausB n gs = true) : KnownOk lo hi sl ch n gs ↔ ∃ xs, TruR lo hi sl ch n gs xs := by
  have hp := rule_parts hr
  have hlen := gaTo_length lo hi n gs gs.length
  have hcs := ga_cs (n := n) (gs := gs) hr hg
  have hif : ∀ i h, i < n → (Is sl ch (gaTo lo hi n gs gs.length) i h ↔ ∃ xs, FitS sl ch (gaTo lo hi n gs gs.length) xs ∧ gi xs i = h) := fun i h hi' => is_fit (by omega) hcs (by omega) (by omega) h
  constructor
  · rintro ⟨_, h2⟩
    rw [spn_bound _ _ _ _ (by omega)] at h2
    rcases seen_F sl ch (gaTo lo hi n gs gs.length) 0 with ⟨e, _⟩ | ⟨_, h3, _, _⟩
    · rw [e] at h2; simp at h2
    · obtain ⟨xs, hx, _⟩ := (hif 0 _ (by omega)).1 h3
      exact ⟨xs, (fit_ga hg).1 hx⟩
  · rintro ⟨xs, hx⟩
    constructor
    · intro j hj
      have hs := (gauge_at hg hj).1
      have := (ga_mem lo hi n gs hg (gg gs j).step.toNat (by omega) (gi xs (gg gs j).step.toNat) (j + 1) (by omega)).2 ⟨hx.fit.ins _ (by rw [hx.len]; omega), fun j' hj' he => by
        have := hx.seen j' (by omega)
        rw [he] at this
        omega⟩
      omega
    · rw [spn_bound _ _ _ _ (by omega)]
      rcases seen_F sl ch (gaTo lo hi n gs gs.length) 0 with ⟨_, hno⟩ | ⟨h1, _⟩
      · exact absurd ((hif 0 (gi xs 0) (by omega)).2 ⟨xs, (fit_ga hg).2 hx, rfl⟩) (hno _)
      · exact h1
/-- the bounds are those of the true cams, and are reached -/
theorem known_law {lo hi sl ch : Int} {n : Nat} {gs : List Gau} (hr : ruleB lo hi sl ch = true) (hn : 3 ≤ n ∧ n ≤ 24) (hg : gausB n gs = true) (hk : KnownOk lo hi sl ch n gs) (i : Nat) (hi' : i < n) :
    (∃ xs, TruR lo hi sl ch n gs xs ∧ gi xs i = (spn (boundL sl ch (gaTo lo hi n gs gs.length)) i).1) ∧ (∃ xs, TruR lo hi sl ch n gs xs ∧ gi xs i = (spn (boundL sl ch (gaTo lo hi n gs gs.length)) i).2) ∧
    ∀ xs, TruR lo hi sl ch n gs xs → (spn (boundL sl ch (gaTo lo hi n gs gs.length)) i).1 ≤ gi xs i ∧ gi xs i ≤ (spn (boundL sl ch (gaTo lo hi n gs gs.length)) i).2 := by
  have hp := rule_parts hr
  have hlen := gaTo_length lo hi n gs gs.length
  have hcs := ga_cs (n := n) (gs := gs) hr hg
  have hif : ∀ h, (Is sl ch (gaTo lo hi n gs gs.length) i h ↔ ∃ xs, FitS sl ch (gaTo lo hi n gs gs.length) xs ∧ gi xs i = h) := fun h => is_fit (by omega) hcs (by omega) (by omega) h
  obtain ⟨xs0, hx0⟩ := (known_iff hr hn hg).1 hk
  rw [spn_bound _ _ _ _ (by omega)]
  rcases seen_F sl ch (gaTo lo hi n gs gs.length) i with ⟨_, hno⟩ | ⟨h1, h2, h3, h4⟩
  · exact absurd ((hif (gi xs0 i)).2 ⟨xs0, (fit_ga hg).2 hx0, rfl⟩) (hno _)
  · obtain ⟨a, ha, ea⟩ := (hif _).1 h2
    obtain ⟨b, hb, eb⟩ := (hif _).1 h3
    exact ⟨⟨a, (fit_ga hg).1 ha, ea⟩, ⟨b, (fit_ga hg).1 hb, eb⟩, fun xs hx => h4 _ ((hif _).2 ⟨xs, (fit_ga hg).2 hx, rfl⟩)⟩
/-- fewer true cams: narrower bounds -/
theorem known_narrow {lo hi sl ch lo' hi' sl' ch' : Int} {n : Nat} {gs gs' : List Gau} (hr : ruleB lo hi sl ch = true) (hr' : ruleB lo' hi' sl' ch' = true) (hn : 3 ≤ n ∧ n ≤ 24) (hg : gausB n gs = true) (hg' : gausB n gs' = true)
    (hsub : ∀ xs, TruR lo hi sl ch n gs xs → TruR lo' hi' sl' ch' n gs' xs) (hk : KnownOk lo hi sl ch n gs) :
    KnownOk lo' hi' sl' ch' n gs' ∧ ∀ i, i < n → (spn (boundL sl' ch' (gaTo lo' hi' n gs' gs'.length)) i).1 ≤ (spn (boundL sl ch (gaTo lo hi n gs gs.length)) i).1 ∧ (spn (boundL sl ch (gaTo lo hi n gs gs.length)) i).2 ≤ (spn (boundL sl' ch' (gaTo lo' hi' n gs' gs'.length)) i).2 := by
  obtain ⟨xs0, hx0⟩ := (known_iff hr hn hg).1 hk
  have hk' := (known_iff hr' hn hg').2 ⟨xs0, hsub _ hx0⟩
  refine ⟨hk', fun i hi0 => ?_⟩
  obtain ⟨⟨a, ha, ea⟩, ⟨b, hb, eb⟩, _⟩ := known_law hr hn hg hk i hi0
  obtain ⟨_, _, h3⟩ := known_law hr' hn hg' hk' i hi0
  have h4 := h3 a (hsub a ha)
  have h5 := h3 b (hsub b hb)
  omega
theorem gg_append_left (gs gs' : List Gau) (j : Nat) (h : j < gs.length) : gg (gs ++ gs') j = gg gs j := by
  unfold gg; rw [List.getD_eq_getElem?_getD, List.getElem?_append_left h, ← List.getD_eq_getElem?_getD]
theorem tru_fewer {lo hi sl ch : Int} {n : Nat} {gs : List Gau} {g : Gau} {xs : List Int} (h : TruR lo hi sl ch n (gs ++ [g]) xs) : TruR lo hi sl ch n gs xs :=
  ⟨h.fit, h.len, fun j hj => by have := h.seen j (by simp; omega); rwa [gg_append_left _ _ _ hj] at this⟩
theorem tru_wider {lo hi sl ch : Int} {n : Nat} {gs : List Gau} {xs : List Int} (hr : ruleB lo hi sl ch = true) (hn : n ≤ 24) (m : Int) (hm : 0 ≤ m) (h : TruR lo hi sl ch n gs xs) : TruR (max 0 (lo - m)) (min 30 (hi + m)) (min 30 (sl + m)) (min 24 (ch + m)) n gs xs := by
  have hp := rule_parts hr
  have hl := h.len
  refine ⟨⟨fun i hi' => by have := h.fit.ins i hi'; omega, fun i hi' => ?_, ?_⟩, h.len, h.seen⟩
  · have a := h.fit.near i hi'
    have b := h.fit.ins i hi'
    have c := h.fit.ins ((i + 1) % xs.length) (Nat.mod_lt _ (by omega))
    omega
  · have a := h.fit.few
    have b := chP_le xs xs.length
    omega
end Go.Proofs.YtncfgkhbenmpoaaGreatDoor
end

section
namespace Go.Proofs.YtncfgkhbenmpoaaGreatDoor
open Go Go.RowKit Go.Proofs Go.Shelf
set_option linter.unusedVariables false

theorem chg_P (xs : List Int) : ∀ k, chg xs k = chP xs k := by
  intro k
  induction k with
  | zero => rfl
  | succ k ih => simp only [chg, chP, cost]; rw [ih]
def stepB (lo hi sl : Int) (xs : List Int) (i : Nat) : Bool := inB (gi xs i) lo hi && inB (gi xs i - gi xs ((i + 1) % xs.length)) (-sl) sl
def fitB (lo hi sl ch : Int) (xs : List Int) : Bool := (List.range xs.length).all (stepB lo hi sl xs) && decide (chg xs xs.length ≤ ch)
theorem stepB_iff {lo hi sl : Int} {xs : List Int} {i : Nat} : stepB lo hi sl xs i = true ↔ (lo ≤ gi xs i ∧ gi xs i ≤ hi) ∧ (gi xs i - gi xs ((i + 1) % xs.length) ≤ sl ∧ gi xs ((i + 1) % xs.length) - gi xs i ≤ sl) := by
  unfold stepB inB
  simp only [Bool.and_eq_true, decide_eq_true_eq]
  omega
theorem fitB_iff {lo hi sl ch : Int} {xs : List Int} : fitB lo hi sl ch xs = true ↔ FitR lo hi sl ch xs := by
  unfold fitB
  rw [Bool.and_eq_true, List.all_eq_true, decide_eq_true_eq, chg_P]
  constructor
  · rintro ⟨h1, h2⟩
    have h3 := fun i (hi' : i < xs.length) => stepB_iff.1 (h1 i (List.mem_range.2 hi'))
    exact ⟨fun i h => (h3 i h).1, fun i h => (h3 i h).2, h2⟩
  · intro h
    exact ⟨fun i hi' => stepB_iff.2 ⟨h.ins i (List.mem_range.1 hi'), h.near i (List.mem_range.1 hi')⟩, h.few⟩
def gauT (xs : List Int) (g : Gau) : Bool := inB (gi xs g.step.toNat - g.height) (-g.off) g.off
def truB (lo hi sl ch : Int) (gs : List Gau) (xs : List Int) : Bool := gs.all (gauT xs) && fitB lo hi sl ch xs
theorem gg_mem (gs : List Gau) (j : Nat) (h : j < gs.length) : gg gs j ∈ gs := by
  unfold gg; rw [List.getD_eq_getElem?_getD, List.getElem?_eq_getElem h]; exact List.getElem_mem _
theorem truB_iff {lo hi sl ch : Int} {gs : List Gau} {xs : List Int} : truB lo hi sl ch gs xs = true ↔ TruR lo hi sl ch xs.length gs xs := by
  unfold truB
  rw [Bool.and_eq_true, List.all_eq_true, fitB_iff]
  constructor
  · rintro ⟨h1, h2⟩
    refine ⟨h2, rfl, fun j hj => ?_⟩
    have := h1 _ (gg_mem gs j hj)
    unfold gauT inB at this
    simpa using this
  · intro h
    refine ⟨fun g hg => ?_, h.fit⟩
    obtain ⟨j, hj, rfl⟩ := List.mem_iff_getElem.1 hg
    have := h.seen j hj
    have e : gg gs j = gs[j] := by unfold gg; rw [List.getD_eq_getElem?_getD, List.getElem?_eq_getElem hj]; rfl
    rw [e] at this
    unfold gauT inB
    simpa using this

/-! ### all cams with heights of a rule -/
def codeL (lo : Int) (B n k : Nat) : List Int := (List.range k).map fun i => lo + ((n / B ^ i % B : Nat) : Int)
@[simp] theorem codeL_length (lo : Int) (B n k : Nat) : (codeL lo B n k).length = k := by simp [codeL]
theorem gi_codeL (lo : Int) (B n k i : Nat) (h : i < k) : gi (codeL lo B n k) i = lo + ((n / B ^ i % B : Nat) : Int) := by
  unfold codeL gi; simp [h]
theorem code_all (lo : Int) (B : Nat) (hB : 0 < B) : ∀ xs : List Int, (∀ x ∈ xs, lo ≤ x ∧ x < lo + B) → ∃ n, n < B ^ xs.length ∧ codeL lo B n xs.length = xs := by
  intro xs
  induction xs with
  | nil => intro _; exact ⟨0, by simp, rfl⟩
  | cons x r ih =>
    intro h
    obtain ⟨n, hn, e⟩ := ih (fun y hy => h y (by simp [hy]))
    have hx := h x (by simp)
    obtain ⟨d, hd⟩ : ∃ d : Nat, x = lo + d := ⟨(x - lo).toNat, by omega⟩
    refine ⟨d + B * n, ?_, ?_⟩
    · rw [List.length_cons, Nat.pow_succ, Nat.mul_comm (B ^ r.length)]
      have : B * n + B ≤ B * B ^ r.length := by
        have := Nat.mul_le_mul_left B (show n + 1 ≤ B ^ r.length from hn)
        rwa [Nat.mul_add, Nat.mul_one] at this
      omega
    · refine gi_ext' (by simp) (fun j hj => ?_)
      simp only [codeL_length, List.length_cons] at hj
      rw [gi_codeL _ _ _ _ _ (by simpa using hj)]
      cases j with
      | zero =>
        rw [Nat.pow_zero, Nat.div_one, Nat.add_mul_mod_self_left, Nat.mod_eq_of_lt (by omega)]
        exact hd.symm
      | succ j =>
        rw [Nat.pow_succ, Nat.mul_comm (B ^ j), ← Nat.div_div_eq_div_mul, Nat.add_mul_div_left _ _ hB, Nat.div_eq_of_lt (by omega : d < B), Nat.zero_add]
        have := gi_codeL lo B n r.length j (by omega)
        rw [e] at this
        exact this.symm
def metTo (T : List Int → Bool) (lo : Int) (B st : Nat) : Nat → Bool
  | 0 => false
  | m + 1 => metTo T lo B st m || T (codeL lo B m st)
def upE (met : Bool) (s : Int × Int) (x : Int) : Int × Int := if met = true then (min s.1 x, max s.2 x) else (x, x)
def outTo (T : List Int → Bool) (lo : Int) (B st : Nat) : Nat → List (Int × Int)
  | 0 => List.replicate st (0, 0)
  | m + 1 => if T (codeL lo B m st) = true then (List.range st).map fun i => upE (metTo T lo B st m) (spn (outTo T lo B st m) i) (gi (codeL lo B m st) i) else outTo T lo B st m
theorem outTo_length (T : List Int → Bool) (lo : Int) (B st : Nat) : ∀ m, (outTo T lo B st m).length = st := by
  intro m
  induction m with
  | zero => simp [outTo]
  | succ m ih => simp only [outTo]; split <;> simp [ih]
theorem out_spec (T : List Int → Bool) (lo : Int) (B st : Nat) (i : Nat) (hi : i < st) : ∀ m,
    (metTo T lo B st m = false ∧ ∀ n, n < m → T (codeL lo B n st) = false) ∨
    (metTo T lo B st m = true ∧ (∃ n, n < m ∧ T (codeL lo B n st) = true ∧ gi (codeL lo B n st) i = (spn (outTo T lo B st m) i).1) ∧ (∃ n, n < m ∧ T (codeL lo B n st) = true ∧ gi (codeL lo B n st) i = (spn (outTo T lo B st m) i).2) ∧
      ∀ n, n < m → T (codeL lo B n st) = true → (spn (outTo T lo B st m) i).1 ≤ gi (codeL lo B n st) i ∧ gi (codeL lo B n st) i ≤ (spn (outTo T lo B st m) i).2) := by
  intro m
  induction m with
  | zero => exact .inl ⟨rfl, fun n hn => by omega⟩
  | succ m ih =>
    simp only [metTo, outTo]
    cases hT : T (codeL lo B m st) with
    | false =>
      simp only [Bool.or_false, Bool.false_eq_true, if_false]
      rcases ih with ⟨h1, h2⟩ | ⟨h1, ⟨a, a1, a2, a3⟩, ⟨b, b1, b2, b3⟩, h4⟩
      · refine .inl ⟨h1, fun n hn => ?_⟩
        rcases Nat.lt_or_ge n m with h | h
        · exact h2 n h
        · obtain rfl : n = m := by omega
          exact hT
      · refine .inr ⟨h1, ⟨a, by omega, a2, a3⟩, ⟨b, by omega, b2, b3⟩, fun n hn ht => ?_⟩
        rcases Nat.lt_or_ge n m with h | h
        · exact h4 n h ht
        · obtain rfl : n = m := by omega
          rw [hT] at ht; cases ht
    | true =>
      simp only [Bool.or_true, if_true]
      right
      have e : spn ((List.range st).map fun i => upE (metTo T lo B st m) (spn (outTo T lo B st m) i) (gi (codeL lo B m st) i)) i = upE (metTo T lo B st m) (spn (outTo T lo B st m) i) (gi (codeL lo B m st) i) := spn_map _ _ _ hi
      rw [e]
      rcases ih with ⟨h1, h2⟩ | ⟨h1, ⟨a, a1, a2, a3⟩, ⟨b, b1, b2, b3⟩, h4⟩
      · rw [h1]
        unfold upE
        simp only [Bool.false_eq_true, if_false]
        refine ⟨trivial, ⟨m, by omega, hT, rfl⟩, ⟨m, by omega, hT, rfl⟩, fun n hn ht => ?_⟩
        rcases Nat.lt_or_ge n m with h | h
        · rw [h2 n h] at ht; cases ht
        · obtain rfl : n = m := by omega
          omega
      · rw [h1]
        unfold upE
        simp only [if_true]
        refine ⟨trivial, ?_, ?_, fun n hn ht => ?_⟩
        · rcases Int.le_total (spn (outTo T lo B st m) i).1 (gi (codeL lo B m st) i) with h | h
          · exact ⟨a, by omega, a2, by omega⟩
          · exact ⟨m, by omega, hT, by omega⟩
        · rcases Int.le_total (spn (outTo T lo B st m) i).2 (gi (codeL lo B m st) i) with h | h
          · exact ⟨m, by omega, hT, by omega⟩
          · exact ⟨b, by omega, b2, by omega⟩
        · rcases Nat.lt_or_ge n m with h | h
          · have := h4 n h ht; omega
          · obtain rfl : n = m := by omega
            omega
/-- the bounds that are reached by all cams that are tried -/
theorem ends_law {lo hi sl ch : Int} {n : Nat} {gs : List Gau} (hr : ruleB lo hi sl ch = true) (hn : 3 ≤ n ∧ n ≤ 24) (hg : gausB n gs = true) (B : Nat) (hB : (B : Int) = hi - lo + 1) :
    (metTo (truB lo hi sl ch gs) lo B n (B ^ n) = true ↔ KnownOk lo hi sl ch n gs) ∧
    (metTo (truB lo hi sl ch gs) lo B n (B ^ n) = true → outTo (truB lo hi sl ch gs) lo B n (B ^ n) = boundL sl ch (gaTo lo hi n gs gs.length)) := by
  have hp := rule_parts hr
  have hcode : ∀ xs, TruR lo hi sl ch n gs xs → ∃ m, m < B ^ n ∧ codeL lo B m n = xs := by
    intro xs hx
    have := code_all lo B (by omega) xs (fun x hm => by
      obtain ⟨i, hi', rfl⟩ := List.mem_iff_getElem.1 hm
      have := hx.fit.ins i hi'
      unfold gi at this
      rw [List.getD_eq_getElem?_getD, List.getElem?_eq_getElem hi'] at this
      simp only [Option.getD_some] at this
      omega)
    rw [hx.len] at this
    exact this
  have ht : ∀ m, truB lo hi sl ch gs (codeL lo B m n) = true ↔ TruR lo hi sl ch n gs (codeL lo B m n) := by
    intro m
    have := truB_iff (lo := lo) (hi := hi) (sl := sl) (ch := ch) (gs := gs) (xs := codeL lo B m n)
    rwa [codeL_length] at this
  have hmet : metTo (truB lo hi sl ch gs) lo B n (B ^ n) = true ↔ KnownOk lo hi sl ch n gs := by
    rw [known_iff hr hn hg]
    rcases out_spec (truB lo hi sl ch gs) lo B n 0 (by omega) (B ^ n) with ⟨h1, h2⟩ | ⟨h1, ⟨a, a1, a2, a3⟩, _, _⟩
    · constructor
      · intro h; rw [h1] at h; cases h
      · rintro ⟨xs, hx⟩
        obtain ⟨m, hm, rfl⟩ := hcode xs hx
        have := h2 m hm
        rw [(ht m).2 hx] at this; cases this
    · exact ⟨fun _ => ⟨_, (ht a).1 a2⟩, fun _ => h1⟩
  refine ⟨hmet, fun hm => ?_⟩
  refine spn_ext (by rw [outTo_length]; unfold boundL; simp [gaTo_length]) (fun i hi' => ?_)
  rw [outTo_length] at hi'
  rcases out_spec (truB lo hi sl ch gs) lo B n i hi' (B ^ n) with ⟨h1, _⟩ | ⟨_, ⟨a, a1, a2, a3⟩, ⟨b, b1, b2, b3⟩, h4⟩
  · rw [h1] at hm; cases hm
  · obtain ⟨⟨x, hx, ex⟩, ⟨y, hy, ey⟩, h5⟩ := known_law hr hn hg (hmet.1 hm) i hi'
    have c1 := h5 _ ((ht a).1 a2)
    have c2 := h5 _ ((ht b).1 b2)
    obtain ⟨mx', hmx, emx⟩ := hcode x hx
    obtain ⟨my, hmy, emy⟩ := hcode y hy
    have c3 := h4 mx' hmx (by rw [ht, emx]; exact hx)
    have c4 := h4 my hmy (by rw [ht, emy]; exact hy)
    rw [emx] at c3
    rw [emy] at c4
    exact Prod.ext (by omega) (by omega)
end Go.Proofs.YtncfgkhbenmpoaaGreatDoor
end

section
namespace Go.Proofs.YtncfgkhbenmpoaaGreatDoor
open Go Go.RowKit Go.Proofs
set_option linter.unusedVariables false
attribute [local go_sem] imax2 imin2

theorem c58_no {p q : Option Addr} {c d n m : Nat} {xs ys : List Int} {w : World} (hn : xs.length = n) (hm : ys.length = m) (hx : RdI w p xs) (hy : RdI w q ys) (hl : n ≤ 1000000) (hl' : m ≤ 1000000) (h : (camB xs && camB ys && decide (xs.length = ys.length)) = false) :
    Calls Tryz.prog 58 #[.slice p n c, .slice q m d] w fun e w' => e = .returned (.tuple #[.int .i64 0, .int .i64 2]) ∧ w = w' := by
  subst hn; subst hm
  have HX := Lib.hid hx
  have HY := Lib.hid hy
  have HOK := Lib.hid h
  clear hx hy h
  go_enter Tryz.func58, Tryz.ntmps58
  (go_wp2_with fail); refine (c83 p c xs _ HX.out (by omega)).mono ?_; rintro e wn ⟨rfl, rfl⟩
  cases hTT : (camB xs); (case false => ((clear hTT); go_wp2; go_ret2; exact ⟨rfl, rfl⟩)); have H1 := Lib.hid hTT; clear hTT
  (go_wp2_with fail); refine (c83 q d ys _ HY.out (by omega)).mono ?_; rintro e wn ⟨rfl, rfl⟩
  cases hTT : (camB ys); (case false => ((clear hTT); go_wp2; go_ret2; exact ⟨rfl, rfl⟩)); have H2 := Lib.hid hTT; clear hTT
  by_cases h3 : xs.length = ys.length
  · exact absurd HOK.out (by rw [H1.out, H2.out, decide_eq_true h3]; simp)
  · have h3' : ((xs.length : Int) != (ys.length : Int)) = true := by simp; omega
    have H3 := Lib.hid h3
    clear h3
    go_wp2
    go_ret2
    exact ⟨rfl, rfl⟩
theorem c67_no {p : Option Addr} {c n : Nat} {xs : List Int} {w : World} (hn : xs.length = n) (hx : RdI w p xs) (hl : n ≤ 1000000) (h : camB xs = false) :
    Calls Tryz.prog 67 #[.slice p n c] w fun e w' => e = .returned (.tuple #[.int .i64 0, .int .i64 2]) ∧ w = w' := by
  subst hn
  have HX := Lib.hid hx
  have HOK := Lib.hid h
  clear hx h
  go_enter Tryz.func67, Tryz.ntmps67
  (go_wp2_with fail); refine (c83 p c xs _ HX.out (by omega)).mono ?_; rw [HOK.out]; rintro e wn ⟨rfl, rfl⟩
  go_wp2
  go_ret2
  exact ⟨rfl, rfl⟩
theorem c67n {p : Option Addr} {c n : Nat} {xs : List Int} {w : World} (hn : xs.length = n) (hx : RdI w p xs) (h : camB xs = true) :
    Calls Tryz.prog 67 #[.slice p n c] w fun e w' => e = .returned (.tuple #[.int .i64 (chg xs xs.length), .int .i64 0]) ∧ ∃ n, w' = w.drewN n := by
  subst hn
  have HX := Lib.hid hx
  have hl := (camB_parts h).2.1
  have HOK := Lib.hid h
  clear hx h
  go_enter Tryz.func67, Tryz.ntmps67
  (go_wp2_with fail); refine (c83 p c xs _ HX.out (by omega)).mono ?_; rw [HOK.out]; rintro e wn ⟨rfl, rfl⟩
  (go_wp2_with fail)
  refine (c117 p c xs _ HX.out (by omega)).mono ?_
  rintro e w' ⟨rfl, m, rfl⟩
  go_wp2
  go_ret2
  exact ⟨rfl, m, rfl⟩
theorem c26n {lo hi sl ch : Int} {p : Option Addr} {c n : Nat} {xs : List Int} {w : World} (hn : xs.length = n) (hx : RdI w p xs) (h1 : ruleB lo hi sl ch = true) (h2 : camB xs = true) :
    Calls Tryz.prog 26 #[.agg #[.int .i64 lo, .int .i64 hi, .int .i64 sl, .int .i64 ch], .slice p n c] w fun e w' =>
      (∃ p c, e = .returned (.tuple #[.slice p n c, .int .i64 (nearestF lo hi sl ch xs).2, .int .i64 0]) ∧ RdI w' p (nearestF lo hi sl ch xs).1) ∧ Below w.heap.size w w' := by
  subst hn
  refine (c26_ok lo hi sl ch p c xs w hx h1 h2).mono ?_
  rintro e w' ⟨⟨p', c', rfl, hr⟩, b⟩
  refine ⟨⟨p', c', ?_, hr⟩, b⟩
  rw [(nearest_law h1 h2).2.1]

theorem stepB_false {lo hi sl ch : Int} {xs : List Int} {k : Nat} (hk : k < xs.length) (h : stepB lo hi sl xs k = false) : fitB lo hi sl ch xs = false := by
  unfold fitB
  cases ha : (List.range xs.length).all (stepB lo hi sl xs) with
  | false => rfl
  | true =>
    rw [List.all_eq_true] at ha
    have := ha k (List.mem_range.2 hk)
    rw [h] at this; exact absurd this (by simp)
def StepsTo (lo hi sl : Int) (xs : List Int) (k : Nat) : Prop := ∀ j, j < k → stepB lo hi sl xs j = true
theorem StepsTo.succ {lo hi sl : Int} {xs : List Int} {k : Nat} (h : StepsTo lo hi sl xs k) (hk : stepB lo hi sl xs k = true) : StepsTo lo hi sl xs (k + 1) := by
  intro j hj
  rcases Nat.lt_or_ge j k with h1 | h1
  · exact h j h1
  · obtain rfl : j = k := by omega
    exact hk
theorem stepsTo_all {lo hi sl ch : Int} {xs : List Int} (h : StepsTo lo hi sl xs xs.length) : fitB lo hi sl ch xs = decide (chg xs xs.length ≤ ch) := by
  unfold fitB
  rw [show (List.range xs.length).all (stepB lo hi sl xs) = true by rw [List.all_eq_true]; intro j hj; exact h j (List.mem_range.1 hj), Bool.true_and]

theorem c87t {x lo hi : Int} {b : Bool} (h : inB x lo hi = b) (w : World) : Calls Tryz.prog 87 #[.int .i64 x, .int .i64 lo, .int .i64 hi] w fun e w' => e = .returned (.bool b) ∧ w' = w :=
  (c87 x lo hi w).mono fun e w' ⟨h1, h2⟩ => ⟨by rw [h1, h], h2.symm⟩
theorem c90t {x lo hi : Int} {b : Bool} (h : inB x lo hi = b) (w : World) : Calls Tryz.prog 90 #[.int .i64 x, .int .i64 lo, .int .i64 hi] w fun e w' => e = .returned (.bool b) ∧ w' = w :=
  (c90 x lo hi w).mono fun e w' ⟨h1, h2⟩ => ⟨by rw [h1, h], h2.symm⟩

set_option maxRecDepth 100000 in
set_option maxHeartbeats 1000000 in
theorem c69 (lo hi sl ch : Int) (p : Option Addr) (cap : Nat) (xs : List Int) (w : World) (hx : RdI w p xs) (hr : ruleB lo hi sl ch = true) (h1 : camB xs = true) :
    Calls Tryz.prog 69 #[.agg #[.int .i64 lo, .int .i64 hi, .int .i64 sl, .int .i64 ch], .slice p xs.length cap] w fun e w' => e = .returned (.bool (fitB lo hi sl ch xs)) ∧ Below w.heap.size w w' := by
  obtain ⟨⟨r1, r2, r3⟩, ⟨r4, r5⟩, r6, r7⟩ := rule_parts hr
  obtain ⟨w0, e0, HS0, k0, k1, k2, k3, b0⟩ := box4 w (.int .i64 lo) (.int .i64 hi) (.int .i64 sl) (.int .i64 ch) 23
  have HX := Lib.hid (hx.below b0)
  have HB0 := Lib.hid b0
  have H1 := Lib.hid h1
  have hl24 := (camB_parts h1).2.1
  clear hx h1 hr b0
  go_enter Tryz.func69, Tryz.ntmps69
  go_wp2
  clear e0
  go_loopw [5] (fun i wr => ∃ k : Nat, k ≤ xs.length ∧ i = .int .i64 k ∧ Hid (StepsTo lo hi sl xs k) ∧ Hid (Below w0.heap.size w0 wr)) (fun i _ => xs.length - (intOf i).toNat)
  case atStart => exact ⟨0, by omega, rfl, Lib.hid (by intro j hj; omega), Lib.hid (Below.refl _ _)⟩
  case round =>
    obtain ⟨k, hk, rfl, HK, HN⟩ := hrel
    have j0 := (HN.out.cell (lt_of_cellq k0)).trans k0
    have j1 := (HN.out.cell (lt_of_cellq k1)).trans k1
    have j2 := (HN.out.cell (lt_of_cellq k2)).trans k2
    have j3 := (HN.out.cell (lt_of_cellq k3)).trans k3
    by_cases hlt : k < xs.length
    · obtain ⟨b, off, rfl, hc⟩ := (HX.out.below HN.out).at hlt
      have h1 := hc k hlt
      have h2 := hc ((k + 1) % xs.length) (Nat.mod_lt _ (by omega))
      have hmd := Nat.mod_lt (k + 1) (show 0 < xs.length by omega)
      have HM := nat_emod k xs.length
      have b1 := camB_at H1.out hlt
      have b2 := camB_at H1.out hmd
      have HST := Lib.hid (show stepB lo hi sl xs k = (inB (gi xs k) lo hi && inB (gi xs k - gi xs ((k + 1) % xs.length)) (-sl) sl) from rfl)
      have hng : IntKind.i64.wrap (-sl) = -sl := w64 _ (by omega) (by omega)
      clear hc
      generalize hmm : (k + 1) % xs.length = m at *
      have hlt' : decide ((k : Int) < (xs.length : Int)) = true := by simp; omega
      have hmt : ((k : Int) + 1).tmod (xs.length : Int) = (m : Int) := by rw [Int.tmod_eq_emod_of_nonneg (by omega)]; exact HM
      have hxne : ¬ xs = [] := by rintro rfl; simp at hlt
      generalize gi xs k = x at *
      generalize gi xs m = y at *
      cases hb1 : inB x lo hi with
      | false =>
        have HR := Lib.hid (stepB_false (ch := ch) hlt (by rw [HST.out, hb1]; rfl))
        have HB1 := Lib.hid (c87t hb1)
        clear hb1
        go_wp2
        go_quiet (exact Calls.quiet_of_same (HB1.out _))
        go_wp2
        go_ret
        exact ⟨by rw [HR.out] <;> rfl, HB0.out.trans ((below_drewN HN.out _).mono HB0.out.size)⟩
      | true =>
        cases hb2 : inB (x - y) (-sl) sl with
        | false =>
          have HR := Lib.hid (stepB_false (ch := ch) hlt (by rw [HST.out, hb1, hb2]; rfl))
          have HB1 := Lib.hid hb1
          have HB2 := Lib.hid hb2
          clear hb1 hb2
          go_wp2
          have q1 := HB1.out
          have q2 := HB2.out
          go_quiet (exact Calls.quiet_of_same ((c87 _ _ _ _).mono fun e w' hq => ⟨hq.1, hq.2.symm⟩))
          clear q1 q2
          go_wp2
          go_ret
          exact ⟨by rw [HR.out] <;> rfl, HB0.out.trans ((below_drewN HN.out _).mono HB0.out.size)⟩
        | true =>
          have HR := Lib.hid (show stepB lo hi sl xs k = true by rw [HST.out, hb1, hb2]; rfl)
          have HB1 := Lib.hid hb1
          have HB2 := Lib.hid hb2
          clear hb1 hb2
          go_wp2
          have q1 := HB1.out
          have q2 := HB2.out
          go_quiet (exact Calls.quiet_of_same ((c87 _ _ _ _).mono fun e w' hq => ⟨hq.1, hq.2.symm⟩))
          clear q1 q2
          go_wp2
          go_roundw
          case rel => exact ⟨k + 1, by omega, by go_num, Lib.hid (HK.out.succ HR.out), Lib.hid (below_drewN HN.out _)⟩
          case measure => simp [intOf]; omega
    · obtain rfl : k = xs.length := by omega
      have hlt' : decide ((xs.length : Int) < (xs.length : Int)) = false := by simp
      have HR := Lib.hid (stepsTo_all (ch := ch) HK.out)
      have HXr := Lib.hid (HX.out.below HN.out)
      go_wp2
      refine wp_region_quiet_lit (by kernel_rfl) (by kernel_rfl) ?_; (repeat (first | ((with_reducible apply wq_ix Tryz.underlying24 sz3); (focus rfl); (focus rfl); (focus rfl); (focus omega); (try simp only [Nat.mul_one]); go_frame) | ((with_reducible apply wq_ix Tryz.underlying37 sz50); (focus rfl); (focus rfl); (focus rfl); (focus omega); (try simp only [Nat.mul_one]); go_frame) | ((with_reducible apply wq_ix Tryz.underlying35 sz47); (focus rfl); (focus rfl); (focus rfl); (focus omega); (try simp only [Nat.mul_one]); go_frame) | ((with_reducible apply wq_ix Tryz.underlying90 sz24); (focus rfl); (focus rfl); (focus rfl); (focus omega); (try simp only [Nat.mul_one]); go_frame) | ((with_reducible apply wq_ld ag3); (focus rfl); (focus rfl); (focus (rintro _ ⟨_, rfl⟩; first | exact j3)); go_frame) | ((with_reducible apply wq_ld ag24); (focus rfl); (focus rfl); (focus (rintro _ ⟨_, rfl⟩; first | exact j3)); go_frame) | ((with_reducible apply wq_ld ag37); (focus rfl); (focus rfl); (focus (rintro _ ⟨_, rfl⟩; first | exact j3)); go_frame) | ((with_reducible apply wq_ld ag90); (focus rfl); (focus rfl); (focus (rintro _ ⟨_, rfl⟩; first | exact j3)); go_frame) | ((with_reducible apply wq_ld ag35); (focus rfl); (focus rfl); (focus (rintro _ ⟨_, rfl⟩; first | exact j3)); go_frame) | ((with_reducible apply wq_add); (focus rfl); (focus rfl); (focus rfl); (focus omega); (focus omega); go_frame) | ((with_reducible apply wq_sub); (focus rfl); (focus rfl); (focus rfl); (focus omega); (focus omega); go_frame) | ((with_reducible apply wq_mul); (focus rfl); (focus rfl); (focus rfl); (focus omega); (focus omega); go_frame) | ((with_reducible apply wq_rem); (focus rfl); (focus rfl); (focus rfl); (focus omega); (focus omega); go_frame) | ((with_reducible apply wq_eql); (focus rfl); (focus rfl); (focus rfl); go_frame) | ((with_reducible apply wq_neq); (focus rfl); (focus rfl); (focus rfl); go_frame) | ((with_reducible apply wq_lss); (focus rfl); (focus rfl); (focus rfl); go_frame) | ((with_reducible apply wq_leq); (focus rfl); (focus rfl); (focus rfl); go_frame) | ((with_reducible apply wq_gtr); (focus rfl); (focus rfl); (focus rfl); go_frame) | ((with_reducible apply wq_geq); (focus rfl); (focus rfl); (focus rfl); go_frame) | ((with_reducible apply wq_max2); (focus rfl); (focus rfl); (focus rfl); go_frame) | ((with_reducible apply wq_min2); (focus rfl); (focus rfl); (focus rfl); go_frame) | ((with_reducible apply wq_max3); (focus rfl); (focus rfl); (focus rfl); (focus rfl); go_frame) | ((with_reducible apply wq_min3); (focus rfl); (focus rfl); (focus rfl); (focus rfl); go_frame) | go_big_quiet_step ((exact Calls.quiet_of (c68 p cap xs _ HXr.out (by omega)))))); refine wpQuiet_nil ?_; rintro _ ⟨nq, rfl⟩
      go_wp2
      go_ret
      exact ⟨by rw [HR.out]; rfl, HB0.out.trans ((below_drewN HN.out _).mono HB0.out.size)⟩

theorem size_in {x y sl : Int} : decide (sizeF (x - y) > sl) = !inB (x - y) (-sl) sl := by
  have : sizeF (x - y) > sl ↔ ¬ (-sl ≤ x - y ∧ x - y ≤ sl) := by unfold sizeF; omega
  unfold inB
  rw [← Bool.decide_and, ← decide_not]
  exact decide_eq_decide.2 this

set_option maxRecDepth 100000 in
set_option maxHeartbeats 1000000 in
theorem c64n {lo hi sl ch : Int} {p : Option Addr} {c n : Nat} {xs : List Int} {w : World} (hn : xs.length = n) (hx : RdI w p xs) (hr : ruleB lo hi sl ch = true) (h1 : camB xs = true) :
    Calls Tryz.prog 64 #[.agg #[.int .i64 lo, .int .i64 hi, .int .i64 sl, .int .i64 ch], .slice p n c] w fun e w' => e = .returned (.tuple #[.bool (fitB lo hi sl ch xs), .int .i64 0]) ∧ Below w.heap.size w w' := by
  subst hn
  obtain ⟨⟨r1, r2, r3⟩, ⟨r4, r5⟩, r6, r7⟩ := rule_parts hr
  obtain ⟨w0, e0, HS0, k0, k1, k2, k3, b0⟩ := box4 w (.int .i64 lo) (.int .i64 hi) (.int .i64 sl) (.int .i64 ch) 23
  have HX := Lib.hid (hx.below b0)
  have HB := Lib.hid b0
  have H1 := Lib.hid h1
  have HRU := Lib.hid hr
  have hl24 := (camB_parts h1).2.1
  clear hx h1 hr b0
  go_enter Tryz.func64, Tryz.ntmps64
  (go_wp2_with fail); refine (c82 lo hi sl ch _).mono ?_; rw [HRU.out]; rintro e wn ⟨rfl, bq⟩; replace HB := Lib.hid (HB.out.trans (bq.mono HB.out.size)); replace HX := Lib.hid (HX.out.below bq); replace k0 := (bq.cell (lt_of_cellq k0)).trans k0; replace k1 := (bq.cell (lt_of_cellq k1)).trans k1; replace k2 := (bq.cell (lt_of_cellq k2)).trans k2; replace k3 := (bq.cell (lt_of_cellq k3)).trans k3; clear bq
  clear e0
  (go_wp2_with fail); refine (c83 p c xs _ HX.out (by omega)).mono ?_; rw [H1.out]; rintro e wn ⟨rfl, rfl⟩
  go_wp2
  go_loopw [18] (fun i wr => ∃ k : Nat, k ≤ xs.length ∧ i = .int .i64 k ∧ Hid (StepsTo lo hi sl xs k) ∧ Hid (Below wn.heap.size wn wr)) (fun i _ => xs.length - (intOf i).toNat)
  case atStart => exact ⟨0, by omega, rfl, Lib.hid (by intro j hj; omega), Lib.hid (Below.refl _ _)⟩
  case round =>
    obtain ⟨k, hk, rfl, HK, HN⟩ := hrel
    have j0 := (HN.out.cell (lt_of_cellq k0)).trans k0
    have j1 := (HN.out.cell (lt_of_cellq k1)).trans k1
    have j2 := (HN.out.cell (lt_of_cellq k2)).trans k2
    have j3 := (HN.out.cell (lt_of_cellq k3)).trans k3
    by_cases hlt : k < xs.length
    · obtain ⟨b, off, rfl, hc⟩ := (HX.out.below HN.out).at hlt
      have h1 := hc k hlt
      have h2 := hc ((k + 1) % xs.length) (Nat.mod_lt _ (by omega))
      have hmd := Nat.mod_lt (k + 1) (show 0 < xs.length by omega)
      have HM := nat_emod k xs.length
      have b1 := camB_at H1.out hlt
      have b2 := camB_at H1.out hmd
      have HST := Lib.hid (show stepB lo hi sl xs k = (inB (gi xs k) lo hi && inB (gi xs k - gi xs ((k + 1) % xs.length)) (-sl) sl) from rfl)
      clear hc
      generalize hmm : (k + 1) % xs.length = m at *
      have hlt' : decide ((k : Int) < (xs.length : Int)) = true := by simp; omega
      have hmt : ((k : Int) + 1).tmod (xs.length : Int) = (m : Int) := by rw [Int.tmod_eq_emod_of_nonneg (by omega)]; exact HM
      have hxne : ¬ xs = [] := by rintro rfl; simp at hlt
      generalize gi xs k = x at *
      generalize gi xs m = y at *
      have hsz := Lib.hid (size_in (x := x) (y := y) (sl := sl))
      cases hb1 : inB x lo hi with
      | false =>
        have HR := Lib.hid (stepB_false (ch := ch) hlt (by rw [HST.out, hb1]; rfl))
        have HB1 := Lib.hid (c90t hb1)
        clear hb1
        go_wp2
        go_quiet (exact Calls.quiet_of_same (HB1.out _))
        go_wp2
        go_ret2
        exact ⟨by rw [HR.out] <;> rfl, HB.out.trans ((below_drewN HN.out _).mono HB.out.size)⟩
      | true =>
        cases hb2 : inB (x - y) (-sl) sl with
        | false =>
          have HR := Lib.hid (stepB_false (ch := ch) hlt (by rw [HST.out, hb1, hb2]; rfl))
          have HB1 := Lib.hid (c90t hb1)
          have hgt : decide (sizeF (x - y) > sl) = true := by rw [hsz.out, hb2]; rfl
          clear hb1 hb2
          go_wp2
          go_quiet (first | exact Calls.quiet_of_same (HB1.out _) | exact Calls.quiet_of_same ((c112 (x - y) _ (by omega)).mono fun e w' hq => ⟨hq.1, hq.2.symm⟩))
          go_wp2
          go_ret2
          exact ⟨by rw [HR.out] <;> rfl, HB.out.trans ((below_drewN HN.out _).mono HB.out.size)⟩
        | true =>
          have HR := Lib.hid (show stepB lo hi sl xs k = true by rw [HST.out, hb1, hb2]; rfl)
          have HB1 := Lib.hid (c90t hb1)
          have hgt : decide (sizeF (x - y) > sl) = false := by rw [hsz.out, hb2]; rfl
          clear hb1 hb2
          go_wp2
          go_quiet (first | exact Calls.quiet_of_same (HB1.out _) | exact Calls.quiet_of_same ((c112 (x - y) _ (by omega)).mono fun e w' hq => ⟨hq.1, hq.2.symm⟩))
          go_wp2
          go_roundw
          case rel => exact ⟨k + 1, by omega, by go_num, Lib.hid (HK.out.succ HR.out), Lib.hid (below_drewN HN.out _)⟩
          case measure => simp [intOf]; omega
    · obtain rfl : k = xs.length := by omega
      have hlt' : decide ((xs.length : Int) < (xs.length : Int)) = false := by simp
      have HR := Lib.hid (stepsTo_all (ch := ch) HK.out)
      have HXr := Lib.hid (HX.out.below HN.out)
      go_wp2
      refine wp_region_quiet_lit (by kernel_rfl) (by kernel_rfl) ?_; (repeat (first | ((with_reducible apply wq_ix Tryz.underlying24 sz3); (focus rfl); (focus rfl); (focus rfl); (focus omega); (try simp only [Nat.mul_one]); go_frame) | ((with_reducible apply wq_ix Tryz.underlying37 sz50); (focus rfl); (focus rfl); (focus rfl); (focus omega); (try simp only [Nat.mul_one]); go_frame) | ((with_reducible apply wq_ix Tryz.underlying35 sz47); (focus rfl); (focus rfl); (focus rfl); (focus omega); (try simp only [Nat.mul_one]); go_frame) | ((with_reducible apply wq_ix Tryz.underlying90 sz24); (focus rfl); (focus rfl); (focus rfl); (focus omega); (try simp only [Nat.mul_one]); go_frame) | ((with_reducible apply wq_ld ag3); (focus rfl); (focus rfl); (focus (rintro _ ⟨_, rfl⟩; first | exact j3)); go_frame) | ((with_reducible apply wq_ld ag24); (focus rfl); (focus rfl); (focus (rintro _ ⟨_, rfl⟩; first | exact j3)); go_frame) | ((with_reducible apply wq_ld ag37); (focus rfl); (focus rfl); (focus (rintro _ ⟨_, rfl⟩; first | exact j3)); go_frame) | ((with_reducible apply wq_ld ag90); (focus rfl); (focus rfl); (focus (rintro _ ⟨_, rfl⟩; first | exact j3)); go_frame) | ((with_reducible apply wq_ld ag35); (focus rfl); (focus rfl); (focus (rintro _ ⟨_, rfl⟩; first | exact j3)); go_frame) | ((with_reducible apply wq_add); (focus rfl); (focus rfl); (focus rfl); (focus omega); (focus omega); go_frame) | ((with_reducible apply wq_sub); (focus rfl); (focus rfl); (focus rfl); (focus omega); (focus omega); go_frame) | ((with_reducible apply wq_mul); (focus rfl); (focus rfl); (focus rfl); (focus omega); (focus omega); go_frame) | ((with_reducible apply wq_rem); (focus rfl); (focus rfl); (focus rfl); (focus omega); (focus omega); go_frame) | ((with_reducible apply wq_eql); (focus rfl); (focus rfl); (focus rfl); go_frame) | ((with_reducible apply wq_neq); (focus rfl); (focus rfl); (focus rfl); go_frame) | ((with_reducible apply wq_lss); (focus rfl); (focus rfl); (focus rfl); go_frame) | ((with_reducible apply wq_leq); (focus rfl); (focus rfl); (focus rfl); go_frame) | ((with_reducible apply wq_gtr); (focus rfl); (focus rfl); (focus rfl); go_frame) | ((with_reducible apply wq_geq); (focus rfl); (focus rfl); (focus rfl); go_frame) | ((with_reducible apply wq_max2); (focus rfl); (focus rfl); (focus rfl); go_frame) | ((with_reducible apply wq_min2); (focus rfl); (focus rfl); (focus rfl); go_frame) | ((with_reducible apply wq_max3); (focus rfl); (focus rfl); (focus rfl); (focus rfl); go_frame) | ((with_reducible apply wq_min3); (focus rfl); (focus rfl); (focus rfl); (focus rfl); go_frame) | go_big_quiet_step ((exact Calls.quiet_of (c117 p c xs _ HXr.out (by omega)))))); refine wpQuiet_nil ?_; rintro _ ⟨nq, rfl⟩
      go_wp2
      go_ret2
      exact ⟨by rw [HR.out]; rfl, HB.out.trans ((below_drewN HN.out _).mono HB.out.size)⟩

set_option maxRecDepth 100000 in
theorem c64_no {lo hi sl ch : Int} {p : Option Addr} {c n : Nat} {xs : List Int} {w : World} (hn : xs.length = n) (hx : RdI w p xs) (hl : n ≤ 1000000) (h : (ruleB lo hi sl ch && camB xs) = false) :
    Calls Tryz.prog 64 #[.agg #[.int .i64 lo, .int .i64 hi, .int .i64 sl, .int .i64 ch], .slice p n c] w fun e w' => e = .returned (.tuple #[.bool false, .int .i64 2]) ∧ Below w.heap.size w w' := by
  subst hn
  obtain ⟨w0, e0, HS0, k0, k1, k2, k3, b0⟩ := box4 w (.int .i64 lo) (.int .i64 hi) (.int .i64 sl) (.int .i64 ch) 23
  have HX := Lib.hid (hx.below b0)
  have HB := Lib.hid b0
  have HOK := Lib.hid h
  clear hx h b0
  go_enter Tryz.func64, Tryz.ntmps64
  (go_wp2_with fail); refine (c82 lo hi sl ch _).mono ?_; rintro e wn ⟨rfl, bq⟩; replace HB := Lib.hid (HB.out.trans (bq.mono HB.out.size)); replace HX := Lib.hid (HX.out.below bq); replace k0 := (bq.cell (lt_of_cellq k0)).trans k0; replace k1 := (bq.cell (lt_of_cellq k1)).trans k1; replace k2 := (bq.cell (lt_of_cellq k2)).trans k2; replace k3 := (bq.cell (lt_of_cellq k3)).trans k3; clear bq
  clear e0
  cases hTT : (ruleB lo hi sl ch); (case false => ((clear hTT); go_wp2; go_ret2; exact ⟨rfl, HB.out⟩)); have H1 := Lib.hid hTT; clear hTT
  (go_wp2_with fail); refine (c83 p c xs _ HX.out (by omega)).mono ?_; rintro e wn ⟨rfl, rfl⟩
  cases hTT : (camB xs); (case false => ((clear hTT); go_wp2; go_ret2; exact ⟨rfl, HB.out⟩)); have H2 := Lib.hid hTT; clear hTT
  exact absurd HOK.out (by rw [H1.out, H2.out]; simp)

/-- the gauges up to one are truths of a cam -/
def TrusTo (gs : List Gau) (xs : List Int) (k : Nat) : Prop := ∀ j, j < k → gauT xs (gg gs j) = true
theorem trus_false {lo hi sl ch : Int} {gs : List Gau} {xs : List Int} {k : Nat} (hk : k < gs.length) (h : gauT xs (gg gs k) = false) : truB lo hi sl ch gs xs = false := by
  unfold truB
  cases ha : gs.all (gauT xs) with
  | false => rfl
  | true =>
    rw [List.all_eq_true] at ha
    have := ha _ (gg_mem gs k hk)
    rw [h] at this; exact absurd this (by simp)
theorem trus_all {lo hi sl ch : Int} {gs : List Gau} {xs : List Int} (h : TrusTo gs xs gs.length) : truB lo hi sl ch gs xs = fitB lo hi sl ch xs := by
  unfold truB
  rw [show gs.all (gauT xs) = true by
    rw [List.all_eq_true]
    intro x hx
    obtain ⟨j, hj, rfl⟩ := List.mem_iff_getElem.1 hx
    have := h j hj
    unfold gg at this
    rwa [List.getD_eq_getElem?_getD, List.getElem?_eq_getElem hj] at this, Bool.true_and]

set_option maxRecDepth 100000 in
set_option maxHeartbeats 1000000 in
theorem c37 (lo hi sl ch : Int) (q : Option Addr) (cap' : Nat) (gs : List Gau) (p : Option Addr) (cap : Nat) (xs : List Int) (w : World) (hx : RdI w p xs) (hy : RdG w q gs) (hr : ruleB lo hi sl ch = true) (h1 : camB xs = true) (hg : gausB xs.length gs = true) (hgl : gs.length ≤ 1000) :
    Calls Tryz.prog 37 #[.agg #[.int .i64 lo, .int .i64 hi, .int .i64 sl, .int .i64 ch], .slice q gs.length cap', .slice p xs.length cap] w fun e w' => e = .returned (.bool (truB lo hi sl ch gs xs)) ∧ Below w.heap.size w w' := by
  obtain ⟨w0, e0, HS0, k0, k1, k2, k3, b0⟩ := box4 w (.int .i64 lo) (.int .i64 hi) (.int .i64 sl) (.int .i64 ch) 23
  have HX := Lib.hid (hx.below b0)
  have HY := Lib.hid (hy.below b0)
  have HB0 := Lib.hid b0
  have H1 := Lib.hid h1
  have HRU := Lib.hid hr
  have HG := Lib.hid hg
  have hl24 := (camB_parts h1).2.1
  have hl3 := (camB_parts h1).1
  clear hx hy h1 hr hg b0
  go_enter Tryz.func37, Tryz.ntmps37
  go_wp2
  clear e0
  go_loopw [7] (fun i wr => ∃ k : Nat, k ≤ gs.length ∧ i = .int .i64 k ∧ Hid (TrusTo gs xs k) ∧ Hid (Below w0.heap.size w0 wr)) (fun i _ => gs.length - (intOf i).toNat)
  case atStart => exact ⟨0, by omega, rfl, Lib.hid (by intro j hj; omega), Lib.hid (Below.refl _ _)⟩
  case round =>
    obtain ⟨k, hk, rfl, HK, HN⟩ := hrel
    by_cases hlt : k < gs.length
    · obtain ⟨b, off, rfl, hc⟩ := (HY.out.below HN.out).at hlt
      obtain ⟨e1, e2, e3⟩ := hc k hlt
      obtain ⟨⟨hst0, hst1⟩, ⟨hh0, hh1⟩, ho0, ho1⟩ := gauge_at HG.out hlt
      obtain ⟨st, hst⟩ : ∃ st : Nat, (gg gs k).step = st := ⟨(gg gs k).step.toNat, by omega⟩
      have hstn : st < xs.length := by omega
      obtain ⟨b', off', rfl, hc'⟩ := (HX.out.below HN.out).at hstn
      have f1 := hc' st hstn
      have hxr := camB_at H1.out hstn
      obtain ⟨wg, ewg, HSW, j0, j1, j2, bg⟩ := box3 wr (.int .i64 st) (.int .i64 (gg gs k).height) (.int .i64 (gg gs k).off) 47
      replace f1 := (bg.cell (lt_of_cellq f1)).trans f1
      have HBG := Lib.hid (HN.out.trans (bg.mono HN.out.size))
      have HT := Lib.hid (show gauT xs (gg gs k) = inB (gi xs st - (gg gs k).height) (-(gg gs k).off) (gg gs k).off by unfold gauT; rw [hst]; rfl)
      rw [hst] at e1
      have hlt' : decide ((k : Int) < (gs.length : Int)) = true := by simp; omega
      generalize (gg gs k).height = hgt at *
      generalize (gg gs k).off = hof at *
      generalize gi xs st = x at *
      have hng : IntKind.i64.wrap (-hof) = -hof := w64 _ (by omega) (by omega)
      clear hst hst0 hst1 hc hc' bg
      cases hb : inB (x - hgt) (-hof) hof with
      | false =>
        have HR := Lib.hid (trus_false (lo := lo) (hi := hi) (sl := sl) (ch := ch) hlt (by rw [HT.out, hb]))
        have HB1 := Lib.hid (c87t hb)
        clear hb
        go_wp2
        clear ewg e1 e2 e3
        refine wp_region_quiet_lit (by kernel_rfl) (by kernel_rfl) ?_; (repeat (first | ((with_reducible apply wq_ix Tryz.underlying24 sz3); (focus rfl); (focus rfl); (focus rfl); (focus omega); (try simp only [Nat.mul_one]); go_frame) | ((with_reducible apply wq_ix Tryz.underlying37 sz50); (focus rfl); (focus rfl); (focus rfl); (focus omega); (try simp only [Nat.mul_one]); go_frame) | ((with_reducible apply wq_ix Tryz.underlying35 sz47); (focus rfl); (focus rfl); (focus rfl); (focus omega); (try simp only [Nat.mul_one]); go_frame) | ((with_reducible apply wq_ix Tryz.underlying90 sz24); (focus rfl); (focus rfl); (focus rfl); (focus omega); (try simp only [Nat.mul_one]); go_frame) | ((with_reducible apply wq_ld ag3); (focus rfl); (focus rfl); (focus (rintro _ ⟨_, rfl⟩; first | exact f1 | exact j0 | exact j1 | exact j2)); go_frame) | ((with_reducible apply wq_ld ag24); (focus rfl); (focus rfl); (focus (rintro _ ⟨_, rfl⟩; first | exact f1 | exact j0 | exact j1 | exact j2)); go_frame) | ((with_reducible apply wq_ld ag37); (focus rfl); (focus rfl); (focus (rintro _ ⟨_, rfl⟩; first | exact f1 | exact j0 | exact j1 | exact j2)); go_frame) | ((with_reducible apply wq_ld ag90); (focus rfl); (focus rfl); (focus (rintro _ ⟨_, rfl⟩; first | exact f1 | exact j0 | exact j1 | exact j2)); go_frame) | ((with_reducible apply wq_ld ag35); (focus rfl); (focus rfl); (focus (rintro _ ⟨_, rfl⟩; first | exact f1 | exact j0 | exact j1 | exact j2)); go_frame) | ((with_reducible apply wq_add); (focus rfl); (focus rfl); (focus rfl); (focus omega); (focus omega); go_frame) | ((with_reducible apply wq_sub); (focus rfl); (focus rfl); (focus rfl); (focus omega); (focus omega); go_frame) | ((with_reducible apply wq_mul); (focus rfl); (focus rfl); (focus rfl); (focus omega); (focus omega); go_frame) | ((with_reducible apply wq_rem); (focus rfl); (focus rfl); (focus rfl); (focus omega); (focus omega); go_frame) | ((with_reducible apply wq_eql); (focus rfl); (focus rfl); (focus rfl); go_frame) | ((with_reducible apply wq_neq); (focus rfl); (focus rfl); (focus rfl); go_frame) | ((with_reducible apply wq_lss); (focus rfl); (focus rfl); (focus rfl); go_frame) | ((with_reducible apply wq_leq); (focus rfl); (focus rfl); (focus rfl); go_frame) | ((with_reducible apply wq_gtr); (focus rfl); (focus rfl); (focus rfl); go_frame) | ((with_reducible apply wq_geq); (focus rfl); (focus rfl); (focus rfl); go_frame) | ((with_reducible apply wq_max2); (focus rfl); (focus rfl); (focus rfl); go_frame) | ((with_reducible apply wq_min2); (focus rfl); (focus rfl); (focus rfl); go_frame) | ((with_reducible apply wq_max3); (focus rfl); (focus rfl); (focus rfl); (focus rfl); go_frame) | ((with_reducible apply wq_min3); (focus rfl); (focus rfl); (focus rfl); (focus rfl); go_frame) | go_big_quiet_step ((exact Calls.quiet_of_same (HB1.out _))))); refine wpQuiet_nil ?_; rintro _ ⟨nq, rfl⟩
        go_wp2
        go_ret
        exact ⟨by rw [HR.out] <;> rfl, HB0.out.trans ((below_drewN HBG.out _).mono HB0.out.size)⟩
      | true =>
        have HR := Lib.hid (show gauT xs (gg gs k) = true by rw [HT.out, hb])
        have HB1 := Lib.hid (c87t hb)
        clear hb
        go_wp2
        clear ewg e1 e2 e3
        refine wp_region_quiet_lit (by kernel_rfl) (by kernel_rfl) ?_; (repeat (first | ((with_reducible apply wq_ix Tryz.underlying24 sz3); (focus rfl); (focus rfl); (focus rfl); (focus omega); (try simp only [Nat.mul_one]); go_frame) | ((with_reducible apply wq_ix Tryz.underlying37 sz50); (focus rfl); (focus rfl); (focus rfl); (focus omega); (try simp only [Nat.mul_one]); go_frame) | ((with_reducible apply wq_ix Tryz.underlying35 sz47); (focus rfl); (focus rfl); (focus rfl); (focus omega); (try simp only [Nat.mul_one]); go_frame) | ((with_reducible apply wq_ix Tryz.underlying90 sz24); (focus rfl); (focus rfl); (focus rfl); (focus omega); (try simp only [Nat.mul_one]); go_frame) | ((with_reducible apply wq_ld ag3); (focus rfl); (focus rfl); (focus (rintro _ ⟨_, rfl⟩; first | exact f1 | exact j0 | exact j1 | exact j2)); go_frame) | ((with_reducible apply wq_ld ag24); (focus rfl); (focus rfl); (focus (rintro _ ⟨_, rfl⟩; first | exact f1 | exact j0 | exact j1 | exact j2)); go_frame) | ((with_reducible apply wq_ld ag37); (focus rfl); (focus rfl); (focus (rintro _ ⟨_, rfl⟩; first | exact f1 | exact j0 | exact j1 | exact j2)); go_frame) | ((with_reducible apply wq_ld ag90); (focus rfl); (focus rfl); (focus (rintro _ ⟨_, rfl⟩; first | exact f1 | exact j0 | exact j1 | exact j2)); go_frame) | ((with_reducible apply wq_ld ag35); (focus rfl); (focus rfl); (focus (rintro _ ⟨_, rfl⟩; first | exact f1 | exact j0 | exact j1 | exact j2)); go_frame) | ((with_reducible apply wq_add); (focus rfl); (focus rfl); (focus rfl); (focus omega); (focus omega); go_frame) | ((with_reducible apply wq_sub); (focus rfl); (focus rfl); (focus rfl); (focus omega); (focus omega); go_frame) | ((with_reducible apply wq_mul); (focus rfl); (focus rfl); (focus rfl); (focus omega); (focus omega); go_frame) | ((with_reducible apply wq_rem); (focus rfl); (focus rfl); (focus rfl); (focus omega); (focus omega); go_frame) | ((with_reducible apply wq_eql); (focus rfl); (focus rfl); (focus rfl); go_frame) | ((with_reducible apply wq_neq); (focus rfl); (focus rfl); (focus rfl); go_frame) | ((with_reducible apply wq_lss); (focus rfl); (focus rfl); (focus rfl); go_frame) | ((with_reducible apply wq_leq); (focus rfl); (focus rfl); (focus rfl); go_frame) | ((with_reducible apply wq_gtr); (focus rfl); (focus rfl); (focus rfl); go_frame) | ((with_reducible apply wq_geq); (focus rfl); (focus rfl); (focus rfl); go_frame) | ((with_reducible apply wq_max2); (focus rfl); (focus rfl); (focus rfl); go_frame) | ((with_reducible apply wq_min2); (focus rfl); (focus rfl); (focus rfl); go_frame) | ((with_reducible apply wq_max3); (focus rfl); (focus rfl); (focus rfl); (focus rfl); go_frame) | ((with_reducible apply wq_min3); (focus rfl); (focus rfl); (focus rfl); (focus rfl); go_frame) | go_big_quiet_step ((exact Calls.quiet_of_same (HB1.out _))))); refine wpQuiet_nil ?_; rintro _ ⟨nq, rfl⟩
        go_wp2
        go_roundw
        case rel =>
          refine ⟨k + 1, by omega, by go_num, Lib.hid fun j hj => ?_, Lib.hid (below_drewN HBG.out _)⟩
          rcases Nat.lt_or_ge j k with h | h
          · exact HK.out j h
          · obtain rfl : j = k := by omega
            exact HR.out
        case measure => simp [intOf]; omega
    · obtain rfl : k = gs.length := by omega
      have hlt' : decide ((gs.length : Int) < (gs.length : Int)) = false := by simp
      have HR := Lib.hid (trus_all (lo := lo) (hi := hi) (sl := sl) (ch := ch) HK.out)
      have HXr := Lib.hid (HX.out.below HN.out)
      have j0 := (HN.out.cell (lt_of_cellq k0)).trans k0
      have j1 := (HN.out.cell (lt_of_cellq k1)).trans k1
      have j2 := (HN.out.cell (lt_of_cellq k2)).trans k2
      have j3 := (HN.out.cell (lt_of_cellq k3)).trans k3
      (go_wp2_with fail)
      refine (c69 lo hi sl ch p cap xs _ HXr.out HRU.out H1.out).mono ?_
      rintro e wn ⟨rfl, bq⟩
      go_wp2
      go_ret
      exact ⟨by rw [HR.out] <;> rfl, HB0.out.trans ((HN.out.trans (bq.mono HN.out.size)).mono HB0.out.size)⟩
end Go.Proofs.YtncfgkhbenmpoaaGreatDoor
end
