/-
  Small shown answers: how long lists may be, numbers of steps, feet, gauges as defined.
  Plain laws of motions: stations as turns of the next sign; the lists of stations; retreats (no program in sight).
  Plain laws of retreats and of passes.
  Plain laws of passes.
  The references' motions: which ones are as defined, times, places, speeds, signs.
  The references' stations.
  The references' passes and retreats.
-/
import Derived.Test.YtncfgkhbenmpoaaGreatDoorGd
import Derived.Test.YtncfgkhbenmpoaaGreatDoorGa
import Derived.Test.YtncfgkhbenmpoaaGreatDoorGc
section
namespace Go.Proofs.YtncfgkhbenmpoaaGreatDoor
open Go Go.RowKit Go.Proofs
set_option linter.unusedVariables false
attribute [local go_sem] imax2 imin2

theorem below_dr {w wn : World} {n : Nat} (h : wn = w.drewN n) : Below w.heap.size w wn := by rw [h]; exact below_drewN (Below.refl _ _) n
theorem c31 (p : Option Addr) (n cap : Nat) (w : World) : Calls Tryz.prog 31 #[.slice p n cap] w fun e w' => e = .returned (.bool (decide (n ≤ 11))) ∧ w = w' := by
  go_enter Tryz.func31, Tryz.ntmps31
  go_wp2
  go_ret
  refine ⟨?_, rfl⟩
  show Ending.returned (Value.bool (decide ((n : Int) ≤ 11))) = _
  congr 2
  exact decide_eq_decide.2 (by omega)
theorem c33 (n : Int) (w : World) : Calls Tryz.prog 33 #[.int .i64 n] w fun e w' => e = .returned (.bool (inB n 3 24)) ∧ w = w' := by
  go_enter Tryz.func33, Tryz.ntmps33
  go_wp2_with (go_at_call 87; refine (c87 _ _ _ _).mono ?_; rintro e w' ⟨rfl, rfl⟩)
  go_ret
  exact ⟨rfl, rfl⟩
theorem c40 (n : Int) (w : World) : Calls Tryz.prog 40 #[.int .i64 n] w fun e w' => e = .returned (.bool (inB n 0 5)) ∧ w = w' := by
  go_enter Tryz.func40, Tryz.ntmps40
  go_wp2_with (go_at_call 87; refine (c87 _ _ _ _).mono ?_; rintro e w' ⟨rfl, rfl⟩)
  go_ret
  exact ⟨rfl, rfl⟩

/-- the gauges up to one are as defined -/
def GasTo (n : Int) (gs : List Gau) (k : Nat) : Prop := ∀ j, j < k → gaB n (gg gs j) = true
theorem gasTo_full {n : Int} {gs : List Gau} : GasTo n gs gs.length ↔ gausB n gs = true := by
  unfold gausB
  rw [List.all_eq_true]
  constructor
  · intro h x hx
    obtain ⟨j, hj, rfl⟩ := List.mem_iff_getElem.1 hx
    have := h j hj
    unfold gg at this
    rwa [List.getD_eq_getElem?_getD, List.getElem?_eq_getElem hj] at this
  · intro h j hj
    exact h _ (by unfold gg; rw [List.getD_eq_getElem?_getD, List.getElem?_eq_getElem hj]; exact List.getElem_mem _)
theorem gas_false {n : Int} {gs : List Gau} {k : Nat} (hk : k < gs.length) (h : gaB n (gg gs k) = false) : gausB n gs = false := by
  cases hg : gausB n gs with
  | false => rfl
  | true => have := gasTo_full.2 hg k hk; rw [h] at this; exact absurd this (by simp)
theorem GasTo.succ {n : Int} {gs : List Gau} {k : Nat} (h : GasTo n gs k) (hk : gaB n (gg gs k) = true) : GasTo n gs (k + 1) := by
  intro j hj
  rcases Nat.lt_or_ge j k with h1 | h1
  · exact h j h1
  · obtain rfl : j = k := by omega
    exact hk

set_option maxRecDepth 100000 in
set_option maxHeartbeats 400000 in
theorem c34 (n : Int) (p : Option Addr) (cap : Nat) (gs : List Gau) (w : World) (hx : RdG w p gs) (hl : gs.length ≤ 1000) (hn : -1000000 ≤ n ∧ n ≤ 1000000) :
    Calls Tryz.prog 34 #[.int .i64 n, .slice p gs.length cap] w fun e w' => e = .returned (.bool (gausB n gs && decide (gs.length ≤ 8))) ∧ w = w' := by
  have hw1 : IntKind.i64.wrap (n - 1) = n - 1 := w64 _ (by omega) (by omega)
  go_enter Tryz.func34, Tryz.ntmps34
  go_wp2
  go_loop [5] (fun i => ∃ k : Nat, k ≤ gs.length ∧ i = .int .i64 k ∧ Hid (GasTo n gs k)) (fun i => gs.length - (intOf i).toNat)
  case atStart => exact ⟨0, by omega, rfl, Lib.hid fun j hj => by omega⟩
  case round =>
    obtain ⟨k, hk, rfl, HH⟩ := hrel
    by_cases hlt : k < gs.length
    · obtain ⟨b, off, rfl, hc⟩ := hx.at hlt
      obtain ⟨h1, h2, h3⟩ := hc k hlt
      clear hc hx
      cases hb1 : inB (gg gs k).step 0 (n - 1) with
      | false =>
        have HB := Lib.hid (gas_false hlt (show gaB n (gg gs k) = false by unfold gaB gauB; rw [hb1]; simp))
        go_wp2_with (go_at_call 87; refine (c87 _ _ _ _).mono ?_; rintro e w' ⟨rfl, rfl⟩)
        go_ret
        exact ⟨by rw [HB.out]; simp, rfl⟩
      | true =>
        cases hb2 : inB (gg gs k).height 0 30 with
        | false =>
          have HB := Lib.hid (gas_false hlt (show gaB n (gg gs k) = false by unfold gaB gauB; rw [hb2]; simp))
          go_wp2_with (go_at_call 87; refine (c87 _ _ _ _).mono ?_; rintro e w' ⟨rfl, rfl⟩)
          go_ret
          exact ⟨by rw [HB.out]; simp, rfl⟩
        | true =>
          cases hb3 : inB (gg gs k).off 0 5 with
          | false =>
            have HB := Lib.hid (gas_false hlt (show gaB n (gg gs k) = false by unfold gaB gauB; rw [hb3]; simp))
            go_wp2_with (go_at_call 87; refine (c87 _ _ _ _).mono ?_; rintro e w' ⟨rfl, rfl⟩)
            go_ret
            exact ⟨by rw [HB.out]; simp, rfl⟩
          | true =>
            have HB := Lib.hid (show gaB n (gg gs k) = true by unfold gaB gauB; rw [hb1, hb2, hb3]; rfl)
            go_wp2_with (go_at_call 87; refine (c87 _ _ _ _).mono ?_; rintro e w' ⟨rfl, rfl⟩)
            go_round
            case rel => exact ⟨k + 1, by omega, by go_num, Lib.hid (HH.out.succ HB.out)⟩
            case measure => simp [intOf]; omega
    · obtain rfl : k = gs.length := by omega
      have HB := Lib.hid (gasTo_full.1 HH.out)
      go_wp2
      go_ret
      refine ⟨?_, rfl⟩
      rw [HB.out, Bool.true_and]
      show Ending.returned (Value.bool (decide ((gs.length : Int) ≤ 8))) = _
      congr 2
      exact decide_eq_decide.2 (by omega)
end Go.Proofs.YtncfgkhbenmpoaaGreatDoor
end

section
namespace Go.Proofs.YtncfgkhbenmpoaaGreatDoor
set_option linter.unusedVariables false

/-- the next sign from a time on -/
def tau (u : Int) (o : List Int) (t : Int) : Int := sgn (nextS u o o.length t)
theorem sgn_cases (n : Int) : (n < 0 ∧ sgn n = -1) ∨ (n = 0 ∧ sgn n = 0) ∨ (0 < n ∧ sgn n = 1) := by
  unfold sgn
  split
  · exact .inl ⟨by assumption, rfl⟩
  · split
    · exact .inr (.inr ⟨by assumption, rfl⟩)
    · exact .inr (.inl ⟨by omega, rfl⟩)
theorem tau_pm {u : Int} {o : List Int} (hu : 1 ≤ u) (ho : 0 < o.length) (t : Int) : tau u o t = 1 ∨ tau u o t = -1 := by
  have h := nextS_ne u o hu ho t
  unfold tau
  rcases sgn_cases (nextS u o o.length t) with ⟨_, e⟩ | ⟨e0, _⟩ | ⟨_, e⟩
  · exact .inr e
  · exact absurd e0 h
  · exact .inl e
theorem tau_spd {u : Int} {o : List Int} (ho : 0 < o.length) (t : Int) (h : spd u o t ≠ 0) : tau u o t = sgn (spd u o t) := by
  unfold tau
  obtain ⟨k, hk⟩ : ∃ k, o.length = k + 1 := ⟨o.length - 1, by omega⟩
  rw [hk]
  simp only [nextS]
  rw [if_pos h]
theorem nextS_more (u : Int) (o : List Int) : ∀ (k : Nat) (t : Int), nextS u o k t ≠ 0 → nextS u o (k + 1) t = nextS u o k t := by
  intro k
  induction k with
  | zero => intro t h; exact absurd rfl h
  | succ k ih =>
    intro t h
    have e : nextS u o (k + 1 + 1) t = if spd u o t ≠ 0 then spd u o t else nextS u o (k + 1) (t + 1) := rfl
    have e2 : nextS u o (k + 1) t = if spd u o t ≠ 0 then spd u o t else nextS u o k (t + 1) := rfl
    rw [e, e2]
    by_cases h0 : spd u o t ≠ 0
    · rw [if_pos h0, if_pos h0]
    · rw [if_neg h0, if_neg h0]
      rw [e2, if_neg h0] at h
      exact ih (t + 1) h
theorem tau_zero {u : Int} {o : List Int} (hu : 1 ≤ u) (ho : 0 < o.length) (t : Int) (h : spd u o t = 0) : tau u o t = tau u o (t + 1) := by
  have hn := nextS_ne u o hu ho t
  unfold tau
  obtain ⟨k, hk⟩ : ∃ k, o.length = k + 1 := ⟨o.length - 1, by omega⟩
  rw [hk] at hn ⊢
  have e2 : nextS u o (k + 1) t = nextS u o k (t + 1) := by
    show (if spd u o t ≠ 0 then spd u o t else nextS u o k (t + 1)) = _
    rw [if_neg (by simpa using h)]
  rw [e2] at hn
  rw [e2, nextS_more u o k (t + 1) hn]
theorem tau_turn (u : Int) (o : List Int) (t : Int) : tau u o (t + o.length) = tau u o t := by unfold tau; rw [nextS_turn]
theorem isSta_tau {u : Int} {o : List Int} (hu : 1 ≤ u) (ho : 0 < o.length) (t : Int) : isSta u o t = true ↔ tau u o t ≠ tau u o (t - 1) := by
  unfold isSta
  simp only [Bool.and_eq_true, decide_eq_true_eq]
  by_cases h : spd u o (t - 1) = 0
  · have e := tau_zero hu ho (t - 1) h
    rw [show t - 1 + 1 = t by omega] at e
    constructor
    · intro h1; exact absurd h h1.1
    · intro h1; exact absurd e.symm h1
  · have e := tau_spd ho (t - 1) h
    rw [e]
    constructor
    · intro h1; exact h1.2.2
    · intro h1; exact ⟨h, nextS_ne u o hu ho t, h1⟩
theorem not_sta {u : Int} {o : List Int} (hu : 1 ≤ u) (ho : 0 < o.length) {t : Int} (h : ¬ isSta u o t = true) : tau u o t = tau u o (t - 1) := by
  by_cases e : tau u o t = tau u o (t - 1)
  · exact e
  · exact absurd ((isSta_tau hu ho t).2 e) h
/-- where there is no station the next sign stays -/
theorem tau_const {u : Int} {o : List Int} (hu : 1 ≤ u) (ho : 0 < o.length) (a : Int) : ∀ k : Nat, (∀ t, a < t → t ≤ a + k → ¬ isSta u o t = true) → tau u o (a + k) = tau u o a := by
  intro k
  induction k with
  | zero => intro _; simp
  | succ k ih =>
    intro h
    have h1 := ih (fun t h1 h2 => h t h1 (by omega))
    have h2 := not_sta hu ho (h (a + (k + 1 : Nat)) (by omega) (by omega))
    rw [h2, ← h1]
    congr 1
    omega
theorem spd_of_tau {u : Int} {o : List Int} (ho : 0 < o.length) (t : Int) : (tau u o t = 1 → 0 ≤ spd u o t) ∧ (tau u o t = -1 → spd u o t ≤ 0) := by
  by_cases h : spd u o t = 0
  · rw [h]; exact ⟨fun _ => Int.le_refl _, fun _ => Int.le_refl _⟩
  · rw [tau_spd ho t h]
    rcases sgn_cases (spd u o t) with ⟨h1, e⟩ | ⟨h1, e⟩ | ⟨h1, e⟩
    · rw [e]; exact ⟨fun h => by omega, fun _ => by omega⟩
    · exact absurd h1 h
    · rw [e]; exact ⟨fun _ => by omega, fun h => by omega⟩
/-- what kind of station: a hand went on before, and goes back then; or the other way -/
theorem sta_kind {u : Int} {o : List Int} (hu : 1 ≤ u) (ho : 0 < o.length) {t : Int} (h : isSta u o t = true) :
    (0 < spd u o (t - 1) ∧ tau u o (t - 1) = 1 ∧ tau u o t = -1) ∨ (spd u o (t - 1) < 0 ∧ tau u o (t - 1) = -1 ∧ tau u o t = 1) := by
  have h0 := (isSta_tau hu ho t).1 h
  unfold isSta at h
  simp only [Bool.and_eq_true, decide_eq_true_eq] at h
  have e := tau_spd ho (t - 1) h.1
  rcases sgn_cases (spd u o (t - 1)) with ⟨h1, e1⟩ | ⟨h1, e1⟩ | ⟨h1, e1⟩
  · right
    rw [e1] at e
    refine ⟨h1, e, ?_⟩
    rcases tau_pm hu ho t with h2 | h2
    · exact h2
    · rw [h2, e] at h0; exact absurd rfl h0
  · exact absurd h1 h.1
  · left
    rw [e1] at e
    refine ⟨h1, e, ?_⟩
    rcases tau_pm hu ho t with h2 | h2
    · rw [h2, e] at h0; exact absurd rfl h0
    · exact h2

/-! ### the lists of stations -/
def staL (u : Int) (o : List Int) (f : Int) (k : Nat) : List Int := ((List.range k).map fun (i : Nat) => f + (i : Int)).filter (isSta u o)
theorem staL_succ (u : Int) (o : List Int) (f : Int) (k : Nat) : staL u o f (k + 1) = if isSta u o (f + k) = true then staL u o f k ++ [f + (k : Int)] else staL u o f k := by
  unfold staL
  rw [List.range_succ, List.map_append, List.filter_append]
  split <;> simp_all
theorem staL_add (u : Int) (o : List Int) (f : Int) (j : Nat) : ∀ k : Nat, staL u o f (j + k) = staL u o f j ++ staL u o (f + j) k := by
  intro k
  induction k with
  | zero => simp [staL]
  | succ k ih =>
    rw [← Nat.add_assoc, staL_succ, staL_succ, ih]
    have e : f + ((j + k : Nat) : Int) = f + j + k := by omega
    rw [e]
    split
    · rw [List.append_assoc]
    · rfl
theorem staL_turn (u : Int) (o : List Int) (f : Int) : ∀ k : Nat, staL u o (f + o.length) k = (staL u o f k).map (· + (o.length : Int)) := by
  intro k
  induction k with
  | zero => simp [staL]
  | succ k ih =>
    rw [staL_succ, staL_succ, ih]
    have e : f + (o.length : Int) + k = f + k + o.length := by omega
    rw [e, isSta_turn]
    split
    · simp
    · rfl
theorem gi_append_left (xs ys : List Int) (i : Nat) (h : i < xs.length) : gi (xs ++ ys) i = gi xs i := by
  unfold gi; rw [List.getD_eq_getElem?_getD, List.getElem?_append_left h, ← List.getD_eq_getElem?_getD]
theorem gi_append_right (xs ys : List Int) (i : Nat) : gi (xs ++ ys) (xs.length + i) = gi ys i := by
  unfold gi; rw [List.getD_eq_getElem?_getD, List.getElem?_append_right (by omega), Nat.add_sub_cancel_left, ← List.getD_eq_getElem?_getD]
theorem gi_snocL (xs : List Int) (x : Int) : gi (xs ++ [x]) xs.length = x := by
  have := gi_append_right xs [x] 0
  rw [Nat.add_zero] at this
  rw [this]; rfl
/-- what such a list is: its members, one behind the other, with no station between -/
structure StaI (u : Int) (o : List Int) (f : Int) (m : Nat) (l : List Int) : Prop where
  mem : ∀ k, k < l.length → isSta u o (gi l k) = true ∧ f ≤ gi l k ∧ gi l k < f + m
  next : ∀ k, k + 1 < l.length → gi l k < gi l (k + 1) ∧ ∀ t, gi l k < t → t < gi l (k + 1) → ¬ isSta u o t = true
  last : ∀ k, k + 1 = l.length → ∀ t, gi l k < t → t < f + m → ¬ isSta u o t = true
  first : 0 < l.length → ∀ t, f ≤ t → t < gi l 0 → ¬ isSta u o t = true
  none : l.length = 0 → ∀ t, f ≤ t → t < f + m → ¬ isSta u o t = true
theorem staI (u : Int) (o : List Int) (f : Int) : ∀ m : Nat, StaI u o f m (staL u o f m) := by
  intro m
  induction m with
  | zero => exact ⟨fun k hk => by simp [staL] at hk, fun k hk => by simp [staL] at hk, fun k hk => by simp [staL] at hk, fun h => by simp [staL] at h, fun _ t h1 h2 => by omega⟩
  | succ m ih =>
    rw [staL_succ]
    generalize staL u o f m = l at ih
    by_cases hs : isSta u o (f + m) = true
    · rw [if_pos hs]
      have hlen : (l ++ [f + (m : Int)]).length = l.length + 1 := by simp
      refine ⟨fun k hk => ?_, fun k hk => ?_, fun k hk t h1 h2 => ?_, fun h t h1 h2 => ?_, fun h => by simp at h⟩
      · rcases Nat.lt_or_ge k l.length with h | h
        · rw [gi_append_left _ _ _ h]
          have := ih.mem k h
          exact ⟨this.1, this.2.1, by omega⟩
        · obtain rfl : k = l.length := by omega
          rw [gi_snocL]; exact ⟨hs, by omega, by omega⟩
      · rcases Nat.lt_or_ge (k + 1) l.length with h | h
        · rw [gi_append_left _ _ _ h, gi_append_left _ _ _ (by omega)]
          exact ih.next k h
        · have hk2 : k + 1 = l.length := by omega
          rw [gi_append_left _ _ _ (by omega), hk2, gi_snocL]
          exact ⟨(ih.mem k (by omega)).2.2, fun t h1 h2 => ih.last k hk2 t h1 h2⟩
      · obtain rfl : k = l.length := by omega
        rw [gi_snocL] at h1
        omega
      · rcases Nat.eq_zero_or_pos l.length with h0 | h0
        · have e : gi (l ++ [f + (m : Int)]) 0 = f + m := by have := gi_snocL l (f + (m : Int)); rwa [h0] at this
          rw [e] at h2
          exact ih.none h0 t h1 h2
        · rw [gi_append_left _ _ _ h0] at h2
          exact ih.first h0 t h1 h2
    · rw [if_neg hs]
      refine ⟨fun k hk => ?_, ih.next, fun k hk t h1 h2 => ?_, ih.first, fun h t h1 h2 => ?_⟩
      · have := ih.mem k hk
        exact ⟨this.1, this.2.1, by omega⟩
      · by_cases e : t = f + m
        · rw [e]; exact hs
        · exact ih.last k hk t h1 (by omega)
      · by_cases e : t = f + m
        · rw [e]; exact hs
        · exact ih.none h t h1 (by omega)
/-- what the list shows behind those before a time -/
theorem staL_at (u : Int) (o : List Int) (f : Int) (j m : Nat) (hm : 0 < m) : ((staL u o f j).length < (staL u o f (j + m)).length ∧ gi (staL u o f (j + m)) (staL u o f j).length = f + j) ↔ isSta u o (f + j) = true := by
  obtain ⟨n, rfl⟩ : ∃ n, m = 1 + n := ⟨m - 1, by omega⟩
  rw [staL_add]
  have e : staL u o (f + j) (1 + n) = (if isSta u o (f + j) = true then [f + (j : Int)] else []) ++ staL u o (f + j + 1) n := by
    rw [staL_add]
    congr 1
    have := staL_succ u o (f + j) 0
    simp only [Nat.zero_add] at this
    rw [this]
    have e0 : f + (j : Int) + ((0 : Nat) : Int) = f + j := by omega
    rw [e0]
    split <;> simp [staL]
  rw [e]
  constructor
  · rintro ⟨h1, h2⟩
    by_cases hs : isSta u o (f + j) = true
    · exact hs
    · exfalso
      rw [if_neg hs, List.nil_append] at h1 h2
      have h3 : 0 < (staL u o (f + j + 1) n).length := by rw [List.length_append] at h1; omega
      have := gi_append_right (staL u o f j) (staL u o (f + j + 1) n) 0
      rw [Nat.add_zero] at this
      rw [this] at h2
      have := ((staI u o (f + j + 1) n).mem 0 h3).2.1
      omega
  · intro hs
    rw [if_pos hs]
    refine ⟨by simp, ?_⟩
    have := gi_append_right (staL u o f j) ([f + (j : Int)] ++ staL u o (f + j + 1) n) 0
    rw [Nat.add_zero] at this
    rw [this]; rfl

/-! ### places between stations -/
theorem plc_up {u : Int} {o : List Int} (a : Int) : ∀ k : Nat, (∀ t, a ≤ t → t < a + k → 0 ≤ spd u o t) → plc u o a ≤ plc u o (a + k) := by
  intro k
  induction k with
  | zero => intro _; simp
  | succ k ih =>
    intro h
    have h1 := ih (fun t h1 h2 => h t h1 (by omega))
    have h2 := h (a + k) (by omega) (by omega)
    rw [show a + ((k + 1 : Nat) : Int) = a + k + 1 by omega, plc_succ]; omega
theorem plc_down {u : Int} {o : List Int} (a : Int) : ∀ k : Nat, (∀ t, a ≤ t → t < a + k → spd u o t ≤ 0) → plc u o (a + k) ≤ plc u o a := by
  intro k
  induction k with
  | zero => intro _; simp
  | succ k ih =>
    intro h
    have h1 := ih (fun t h1 h2 => h t h1 (by omega))
    have h2 := h (a + k) (by omega) (by omega)
    rw [show a + ((k + 1 : Nat) : Int) = a + k + 1 by omega, plc_succ]; omega
/-- from one station up to the next one a hand goes one way -/
theorem seg_tau {u : Int} {o : List Int} (hu : 1 ≤ u) (ho : 0 < o.length) {a b : Int} (h : ∀ t, a < t → t < b → ¬ isSta u o t = true) {t : Int} (h1 : a ≤ t) (h2 : t < b) : tau u o t = tau u o a := by
  obtain ⟨k, rfl⟩ : ∃ k : Nat, t = a + k := ⟨(t - a).toNat, by omega⟩
  exact tau_const hu ho a k (fun x h3 h4 => h x h3 (by omega))
theorem seg_up {u : Int} {o : List Int} (hu : 1 ≤ u) (ho : 0 < o.length) {a b : Int} (h : ∀ t, a < t → t < b → ¬ isSta u o t = true) (ht : tau u o a = 1) {x y : Int} (h1 : a ≤ x) (h2 : x ≤ y) (h3 : y ≤ b) : plc u o x ≤ plc u o y := by
  obtain ⟨k, rfl⟩ : ∃ k : Nat, y = x + k := ⟨(y - x).toNat, by omega⟩
  exact plc_up x k (fun t h4 h5 => (spd_of_tau ho t).1 (by rw [seg_tau hu ho h (by omega) (by omega)]; exact ht))
theorem seg_down {u : Int} {o : List Int} (hu : 1 ≤ u) (ho : 0 < o.length) {a b : Int} (h : ∀ t, a < t → t < b → ¬ isSta u o t = true) (ht : tau u o a = -1) {x y : Int} (h1 : a ≤ x) (h2 : x ≤ y) (h3 : y ≤ b) : plc u o y ≤ plc u o x := by
  obtain ⟨k, rfl⟩ : ∃ k : Nat, y = x + k := ⟨(y - x).toNat, by omega⟩
  exact plc_down x k (fun t h4 h5 => (spd_of_tau ho t).2 (by rw [seg_tau hu ho h (by omega) (by omega)]; exact ht))

/-! ### stations that turn back, counted -/
def nbk (u : Int) (o l : List Int) : Nat → Nat
  | 0 => 0
  | k + 1 => nbk u o l k + if spd u o (gi l k - 1) < 0 then 0 else 1
theorem nbk_append (u : Int) (o l l' : List Int) : ∀ k, k ≤ l.length → nbk u o (l ++ l') k = nbk u o l k := by
  intro k
  induction k with
  | zero => intro _; rfl
  | succ k ih => intro h; simp only [nbk]; rw [ih (by omega), gi_append_left _ _ _ (by omega)]
theorem nbk_append2 (u : Int) (o l l' : List Int) : ∀ k, nbk u o (l ++ l') (l.length + k) = nbk u o l l.length + nbk u o l' k := by
  intro k
  induction k with
  | zero => simp only [nbk, Nat.add_zero]; exact nbk_append u o l l' _ (Nat.le_refl _)
  | succ k ih =>
    rw [← Nat.add_assoc]
    simp only [nbk]
    rw [ih, gi_append_right]; omega
theorem nbk_count {u : Int} {o : List Int} (hu : 1 ≤ u) (ho : 0 < o.length) (f : Int) : ∀ m : Nat, tau u o (f + m - 1) - tau u o (f - 1) = 2 * (((staL u o f m).length : Int) - 2 * (nbk u o (staL u o f m) (staL u o f m).length : Nat)) := by
  intro m
  induction m with
  | zero => simp [staL, nbk]
  | succ m ih =>
    rw [staL_succ]
    have e : f + ((m + 1 : Nat) : Int) - 1 = f + m := by omega
    rw [e]
    by_cases hs : isSta u o (f + m) = true
    · rw [if_pos hs]
      have hlen : (staL u o f m ++ [f + (m : Int)]).length = (staL u o f m).length + 1 := by simp
      rw [hlen]
      simp only [nbk]
      rw [nbk_append _ _ _ _ _ (Nat.le_refl _), gi_snocL]
      rcases sta_kind hu ho hs with ⟨h1, h2, h3⟩ | ⟨h1, h2, h3⟩
      · rw [if_neg (by omega)]; omega
      · rw [if_pos h1]; omega
    · rw [if_neg hs]
      have := not_sta hu ho hs
      omega
/-- in a turn: as many that turn back as others -/
theorem turn_count {u : Int} {o : List Int} (hu : 1 ≤ u) (ho : 0 < o.length) (f : Int) : (staL u o f o.length).length = 2 * nbk u o (staL u o f o.length) (staL u o f o.length).length := by
  have h := nbk_count hu ho f o.length
  have e := tau_turn u o (f - 1)
  rw [show f - 1 + (o.length : Int) = f + o.length - 1 by omega] at e
  omega
/-- how many turn back, but for the last one -/
theorem many_tau {u : Int} {o : List Int} (hu : 1 ≤ u) (ho : 0 < o.length) (f : Int) (m : Nat) (h0 : 0 < (staL u o f m).length) :
    nbk u o (staL u o f m) (staL u o f m).length = nbk u o (staL u o f m) ((staL u o f m).length - 1) + if tau u o (f + m - 1) = -1 then 1 else 0 := by
  have hI := staI u o f m
  obtain ⟨n, hn⟩ : ∃ n, (staL u o f m).length = n + 1 := ⟨(staL u o f m).length - 1, by omega⟩
  rw [hn, Nat.add_sub_cancel]
  simp only [nbk]
  have hl := hI.mem n (by omega)
  have hc := hI.last n (by omega)
  have ht : tau u o (f + m - 1) = tau u o (gi (staL u o f m) n) := by
    obtain ⟨k, hk⟩ : ∃ k : Nat, f + m - 1 = gi (staL u o f m) n + k := ⟨(f + m - 1 - gi (staL u o f m) n).toNat, by omega⟩
    rw [hk]
    exact tau_const hu ho _ k (fun t h1 h2 => hc t h1 (by omega))
  rw [ht]
  rcases sta_kind hu ho hl.1 with ⟨h1, h2, h3⟩ | ⟨h1, h2, h3⟩
  · rw [if_neg (by omega), if_pos h3]
  · rw [if_pos h1, if_neg (by omega)]
/-- one turn more: as many more as stations at which it turns back in a turn -/
theorem more_count {u : Int} {o : List Int} (hu : 1 ≤ u) (ho : 0 < o.length) (T : Nat) (hT : 2 * o.length ≤ T) :
    nbk u o (staL u o 0 (T + o.length + 1)) ((staL u o 0 (T + o.length + 1)).length - 1) = nbk u o (staL u o 0 (T + 1)) ((staL u o 0 (T + 1)).length - 1) + (staL u o ((T : Int) - o.length + 1) o.length).length / 2 := by
  have hw := turn_count hu ho ((T : Int) - o.length + 1)
  have hw2 := turn_count hu ho ((T : Int) + 1)
  have hsh : staL u o ((T : Int) + 1) o.length = (staL u o ((T : Int) - o.length + 1) o.length).map (· + (o.length : Int)) := by
    have := staL_turn u o ((T : Int) - o.length + 1) o.length
    rwa [show (T : Int) - o.length + 1 + o.length = T + 1 by omega] at this
  have hl2 : (staL u o ((T : Int) + 1) o.length).length = (staL u o ((T : Int) - o.length + 1) o.length).length := by rw [hsh, List.length_map]
  have ha : staL u o 0 (T + o.length + 1) = staL u o 0 (T + 1) ++ staL u o ((T : Int) + 1) o.length := by
    rw [show T + o.length + 1 = T + 1 + o.length by omega, staL_add]
    congr 2
    omega
  have hb : staL u o 0 (T + 1) = staL u o 0 (T - o.length + 1) ++ staL u o ((T : Int) - o.length + 1) o.length := by
    rw [show T + 1 = T - o.length + 1 + o.length by omega, staL_add]
    congr 2
    omega
  have hB := nbk_append2 u o (staL u o 0 (T + 1)) (staL u o ((T : Int) + 1) o.length) (staL u o ((T : Int) + 1) o.length).length
  rw [← List.length_append, ← ha] at hB
  generalize hW : (staL u o ((T : Int) - o.length + 1) o.length).length = W at *
  rcases Nat.eq_zero_or_pos W with h0 | h0
  · -- no stations at all
    have hno : ∀ t : Int, ¬ isSta u o t = true := by
      intro t hs
      have hall : ∀ (n : Nat) (x : Int), isSta u o (x + n * o.length) = isSta u o x := by
        intro n
        induction n with
        | zero => intro x; simp
        | succ n ih => intro x; rw [show x + ((n + 1 : Nat) : Int) * o.length = x + n * o.length + o.length by rw [Int.natCast_add, Int.add_mul]; omega, isSta_turn, ih]
      have hI := (staI u o ((T : Int) - o.length + 1) o.length).none (by omega)
      -- a time of the window that is as far on as t
      have hr := Int.emod_nonneg (t - ((T : Int) - o.length + 1)) (show (o.length : Int) ≠ 0 by omega)
      have hr2 := Int.emod_lt_of_pos (t - ((T : Int) - o.length + 1)) (show (0 : Int) < o.length by omega)
      have hd := Int.mul_ediv_add_emod (t - ((T : Int) - o.length + 1)) o.length
      generalize (t - ((T : Int) - o.length + 1)) % (o.length : Int) = r at *
      generalize (t - ((T : Int) - o.length + 1)) / (o.length : Int) = q at *
      have hx : isSta u o ((T : Int) - o.length + 1 + r) = true := by
        rcases Int.le_total 0 q with hq | hq
        · obtain ⟨n, rfl⟩ : ∃ n : Nat, q = n := ⟨q.toNat, by omega⟩
          rw [← hall n, show (T : Int) - o.length + 1 + r + n * o.length = t by rw [Int.mul_comm]; omega]; exact hs
        · obtain ⟨n, hn⟩ : ∃ n : Nat, q = -(n : Int) := ⟨(-q).toNat, by omega⟩
          have e : (T : Int) - o.length + 1 + r = t + n * o.length := by
            rw [hn, Int.mul_neg] at hd
            rw [Int.mul_comm] at hd
            omega
          rw [e, hall]; exact hs
      exact hI _ (by omega) (by omega) hx
    have hnil : ∀ m : Nat, (staL u o 0 m).length = 0 := by
      intro m
      rcases Nat.eq_zero_or_pos (staL u o 0 m).length with h | h
      · exact h
      · exact absurd ((staI u o 0 m).mem 0 h).1 (hno _)
    rw [hnil, hnil, h0]
    rfl
  · have hL : 0 < (staL u o 0 (T + 1)).length := by rw [hb, List.length_append]; omega
    have hL2 : 0 < (staL u o 0 (T + o.length + 1)).length := by rw [ha, List.length_append]; omega
    have m1 := many_tau hu ho 0 (T + 1) hL
    have m2 := many_tau hu ho 0 (T + o.length + 1) hL2
    have et : tau u o (0 + ((T + o.length + 1 : Nat) : Int) - 1) = tau u o (0 + ((T + 1 : Nat) : Int) - 1) := by
      rw [show (0 : Int) + ((T + o.length + 1 : Nat) : Int) - 1 = 0 + ((T + 1 : Nat) : Int) - 1 + o.length by omega, tau_turn]
    rw [et] at m2
    omega
end Go.Proofs.YtncfgkhbenmpoaaGreatDoor
end

section
namespace Go.Proofs.YtncfgkhbenmpoaaGreatDoor
open Go Go.RowKit Go.Proofs
set_option linter.unusedVariables false

theorem staF_L (u : Int) (o : List Int) (f : Int) (k : Nat) : staF u o f k = staL u o f k := rfl
theorem retTo_many (u : Int) (o l : List Int) : ∀ k, (retTo u o l k).many = nbk u o l k := by
  intro k
  induction k with
  | zero => rfl
  | succ k ih => simp only [retTo, nbk]; split <;> simp only [ih] <;> omega
theorem retTo_ge (u : Int) (o l : List Int) : ∀ k i, i < k → ¬ spd u o (gi l i - 1) < 0 → gi l (i + 1) - gi l i ≤ (retTo u o l k).long ∧ plc u o (gi l i) - plc u o (gi l (i + 1)) ≤ (retTo u o l k).far := by
  intro k
  induction k with
  | zero => intro i h; omega
  | succ k ih =>
    intro i h hn
    simp only [retTo]
    rcases Nat.lt_or_ge i k with h1 | h1
    · have := ih i h1 hn
      split
      · exact this
      · simp only; omega
    · obtain rfl : i = k := by omega
      rw [if_neg hn]
      simp only; omega
theorem retTo_nonneg (u : Int) (o l : List Int) : ∀ k, 0 ≤ (retTo u o l k).long ∧ 0 ≤ (retTo u o l k).far := by
  intro k
  induction k with
  | zero => simp [retTo]
  | succ k ih => simp only [retTo]; split <;> (try simp only) <;> omega
/-- between two stations it goes back for a while, and some way, if it turned back at the first one -/
theorem back_seg {u : Int} {o : List Int} (hu : 1 ≤ u) (ho : 0 < o.length) {f : Int} {m : Nat} {l : List Int} (hI : StaI u o f m l) {k : Nat} (hk : k + 1 < l.length) (hb : ¬ spd u o (gi l k - 1) < 0) :
    1 ≤ gi l (k + 1) - gi l k ∧ 1 ≤ plc u o (gi l k) - plc u o (gi l (k + 1)) := by
  have h1 := hI.mem k (by omega)
  have h2 := hI.mem (k + 1) hk
  have h3 := hI.next k hk
  have ht : tau u o (gi l k) = -1 := by
    rcases sta_kind hu ho h1.1 with ⟨_, _, h⟩ | ⟨h, _, _⟩
    · exact h
    · exact absurd h hb
  have hd := seg_down hu ho h3.2 ht (x := gi l k) (y := gi l (k + 1) - 1) (by omega) (by omega) (by omega)
  have hs : tau u o (gi l (k + 1) - 1) = -1 := by rw [seg_tau hu ho h3.2 (t := gi l (k + 1) - 1) (by omega) (by omega)]; exact ht
  have hp := plc_succ u o (gi l (k + 1) - 1)
  rw [show gi l (k + 1) - 1 + 1 = gi l (k + 1) by omega] at hp
  rcases sta_kind hu ho h2.1 with ⟨h, h', _⟩ | ⟨h, _, _⟩
  · omega
  · omega
theorem retTo_zero {u : Int} {o : List Int} (hu : 1 ≤ u) (ho : 0 < o.length) {f : Int} {m : Nat} {l : List Int} (hI : StaI u o f m l) : ∀ k, k < l.length ∨ k = 0 →
    ((retTo u o l k).many = 0 ↔ (retTo u o l k).long = 0) ∧ ((retTo u o l k).many = 0 ↔ (retTo u o l k).far = 0) ∧ 0 ≤ (retTo u o l k).many ∧ (retTo u o l k).many ≤ k := by
  intro k
  induction k with
  | zero => intro _; simp [retTo]
  | succ k ih =>
    intro hk
    have hk2 : k + 1 < l.length := by omega
    have h1 := ih (by omega)
    have h2 := retTo_nonneg u o l k
    simp only [retTo]
    by_cases hb : spd u o (gi l k - 1) < 0
    · rw [if_pos hb]; omega
    · rw [if_neg hb]
      have := back_seg hu ho hI hk2 hb
      simp only
      omega
/-- between two stations it goes back by no more than is told -/
theorem back_most {u : Int} {o : List Int} (hu : 1 ≤ u) (ho : 0 < o.length) {f : Int} {m : Nat} {l : List Int} (hI : StaI u o f m l) {k n : Nat} (hk : k + 1 < l.length) (hn : k < n) {a b : Int} (h1 : gi l k ≤ a) (h2 : a ≤ b) (h3 : b ≤ gi l (k + 1)) :
    plc u o a - plc u o b ≤ (retTo u o l n).far ∧ (plc u o b < plc u o a → b - a ≤ (retTo u o l n).long) := by
  have hs := hI.next k hk
  have h0 := retTo_nonneg u o l n
  rcases sta_kind hu ho (hI.mem k (by omega)).1 with ⟨g1, g2, g3⟩ | ⟨g1, g2, g3⟩
  · have hg := retTo_ge u o l n k hn (by omega)
    have d1 := seg_down hu ho hs.2 g3 (x := gi l k) (y := a) (by omega) (by omega) (by omega)
    have d2 := seg_down hu ho hs.2 g3 (x := b) (y := gi l (k + 1)) (by omega) (by omega) (by omega)
    exact ⟨by omega, fun _ => by omega⟩
  · have d1 := seg_up hu ho hs.2 g3 (x := a) (y := b) (by omega) (by omega) (by omega)
    exact ⟨by omega, fun h => by omega⟩
end Go.Proofs.YtncfgkhbenmpoaaGreatDoor
end

section
namespace Go.Proofs.YtncfgkhbenmpoaaGreatDoor
open Go Go.RowKit Go.Proofs
set_option linter.unusedVariables false

theorem passB_iff (u : Int) (o : List Int) (z : Int) (t : Nat) : passB u o z t = true ↔ plc u o t = z ∨ (plc u o t < z ∧ z < plc u o (t + 1)) ∨ (plc u o (t + 1) < z ∧ z < plc u o t) := by
  unfold passB inB
  simp only [Bool.or_eq_true, beq_iff_eq, Bool.and_eq_true, decide_eq_true_eq]
  omega
theorem passB_turn (u : Int) (o : List Int) (z : Int) (t : Nat) : passB u o (z + o.length * u) (o.length + t) = passB u o z t := by
  rw [Bool.eq_iff_iff, passB_iff, passB_iff]
  have h1 := plc_turn u o t
  have h2 := plc_turn u o (t + 1)
  rw [show ((o.length + t : Nat) : Int) = (t : Int) + o.length by omega, show (t : Int) + o.length + 1 = t + 1 + o.length by omega, h1, h2]
  omega
theorem passF_turn (u : Int) (o : List Int) (z : Int) : ∀ k : Nat, passF u o (z + o.length * u) (o.length + k) = passF u o (z + o.length * u) o.length ++ (passF u o z k).map (· + (o.length : Int)) := by
  intro k
  induction k with
  | zero => simp [passF]
  | succ k ih =>
    rw [← Nat.add_assoc, passF_succ, passF_succ, ih, passB_turn]
    split
    · rw [List.map_append, List.append_assoc]
      congr 2
      simp only [List.map_cons, List.map_nil]
      congr 1
      omega
    · rfl
theorem passF_mem (u : Int) (o : List Int) (z : Int) (k : Nat) (x : Int) : x ∈ passF u o z k ↔ ∃ t : Nat, t < k ∧ passB u o z t = true ∧ x = t := by
  unfold passF
  simp only [List.mem_map, List.mem_filter, List.mem_range]
  constructor
  · rintro ⟨t, ⟨h1, h2⟩, rfl⟩; exact ⟨t, h1, h2, rfl⟩
  · rintro ⟨t, h1, h2, rfl⟩; exact ⟨t, ⟨h1, h2⟩, rfl⟩
/-- a place between those at two times is passed -/
theorem pass_between (u : Int) (o : List Int) (z : Int) (a : Nat) : ∀ k : Nat, min (plc u o a) (plc u o (a + k : Nat)) ≤ z → z ≤ max (plc u o a) (plc u o (a + k : Nat)) → ∃ t : Nat, a ≤ t ∧ t ≤ a + k ∧ passB u o z t = true := by
  intro k
  induction k with
  | zero => intro h1 h2; exact ⟨a, Nat.le_refl _, Nat.le_refl _, (passB_iff u o z a).2 (.inl (by simp only [Nat.add_zero] at h1 h2; omega))⟩
  | succ k ih =>
    intro h1 h2
    by_cases hb : min (plc u o a) (plc u o (a + k : Nat)) ≤ z ∧ z ≤ max (plc u o a) (plc u o (a + k : Nat))
    · obtain ⟨t, h3, h4, h5⟩ := ih hb.1 hb.2
      exact ⟨t, h3, by omega, h5⟩
    · by_cases he : plc u o (a + (k + 1) : Nat) = z
      · exact ⟨a + (k + 1), by omega, by omega, (passB_iff u o z _).2 (.inl he)⟩
      · refine ⟨a + k, by omega, by omega, (passB_iff u o z _).2 ?_⟩
        have e : ((a + k : Nat) : Int) + 1 = ((a + (k + 1) : Nat) : Int) := by omega
        rw [e]
        omega
end Go.Proofs.YtncfgkhbenmpoaaGreatDoor
end

section
namespace Go.Proofs.YtncfgkhbenmpoaaGreatDoor
open Go Go.RowKit Go.Proofs
set_option linter.unusedVariables false
attribute [local go_sem] imax2 imin2

set_option maxRecDepth 100000 in
theorem c46 (u : Int) (q : Option Addr) (n cap : Nat) (w : World) : Calls Tryz.prog 46 #[.agg #[.int .i64 u, .slice q n cap]] w fun e w' => e = .returned (.bool (decide (n ≤ 27))) ∧ Below w.heap.size w w' := by
  obtain ⟨w0, e0, HS, k0, k1, b0⟩ := box2 w (.int .i64 u) (.slice q n cap) 61
  go_enter Tryz.func46, Tryz.ntmps46
  go_wp2
  go_ret
  refine ⟨?_, b0⟩
  show Ending.returned (Value.bool (decide ((n : Int) ≤ 27))) = _
  congr 2
  exact decide_eq_decide.2 (by omega)
theorem c49 (n : Int) (w : World) : Calls Tryz.prog 49 #[.int .i64 n] w fun e w' => e = .returned (.bool (inB n 0 2000)) ∧ w = w' := by
  go_enter Tryz.func49, Tryz.ntmps49
  go_wp2_with (go_at_call 87; refine (c87 _ _ _ _).mono ?_; rintro e w' ⟨rfl, rfl⟩)
  go_ret
  exact ⟨rfl, rfl⟩
theorem c56 (n : Int) (w : World) : Calls Tryz.prog 56 #[.int .i64 n] w fun e w' => e = .returned (.bool (inB n (-200000) 200000)) ∧ w = w' := by
  go_enter Tryz.func56, Tryz.ntmps56
  go_wp2_with (go_at_call 87; refine (c87 _ _ _ _).mono ?_; rintro e w' ⟨rfl, rfl⟩)
  go_ret
  exact ⟨rfl, rfl⟩
theorem sgn_min {n : Int} (h : ¬ n < 0) : sgn n = min n 1 := by unfold sgn; rw [if_neg h]; split <;> omega
theorem c143 (n : Int) (w : World) : Calls Tryz.prog 143 #[.int .i64 n] w fun e w' => e = .returned (.int .i64 (sgn n)) ∧ w = w' := by
  by_cases h : n < 0
  · have HS := Lib.hid (show sgn n = -1 by unfold sgn; rw [if_pos h])
    go_enter Tryz.func143, Tryz.ntmps143
    go_wp2
    go_ret
    exact ⟨by rw [HS.out]; rfl, rfl⟩
  · have HS := Lib.hid (sgn_min h)
    go_enter Tryz.func143, Tryz.ntmps143
    go_wp2
    go_ret
    exact ⟨by rw [HS.out]; rfl, rfl⟩

set_option maxRecDepth 100000 in
set_option maxHeartbeats 400000 in
theorem c48 (u : Int) (q : Option Addr) (cap : Nat) (o : List Int) (w : World) (hx : RdI w q o) (hl : o.length ≤ 17592186044416) :
    Calls Tryz.prog 48 #[.agg #[.int .i64 u, .slice q o.length cap]] w fun e w' => e = .returned (.bool (motB u o)) ∧ Below w.heap.size w w' := by
  obtain ⟨w0, e0, HS, k0, k1, b0⟩ := box2 w (.int .i64 u) (.slice q o.length cap) 61
  have HX := Lib.hid (hx.below b0)
  have HB0 := Lib.hid b0
  clear hx b0
  go_enter Tryz.func48, Tryz.ntmps48
  go_wp2
  clear e0
  go_loop [3] (fun i => ∃ k : Nat, k ≤ o.length ∧ i = .int .i64 k ∧ Hid (OfsTo o k)) (fun i => o.length - (intOf i).toNat)
  case atStart => exact ⟨0, by omega, rfl, Lib.hid (by intro j hj; omega)⟩
  case round =>
    obtain ⟨k, hk, rfl, HH⟩ := hrel
    by_cases hlt : k < o.length
    · obtain ⟨b, off, rfl, hc⟩ := HX.out.at hlt
      have h1 := hc k hlt
      clear hc
      cases hb : inB (gi o k) (-200) 200 with
      | true =>
        have HB := Lib.hid hb
        go_wp2_with (go_at_call 87; refine (c87 _ _ _ _).mono ?_; rintro e w' ⟨rfl, rfl⟩)
        go_round
        case rel => exact ⟨k + 1, by omega, by go_num, Lib.hid (HH.out.succ HB.out)⟩
        case measure => simp [intOf]; omega
      | false =>
        have HB := Lib.hid (ofs_false hlt hb)
        go_wp2_with (go_at_call 87; refine (c87 _ _ _ _).mono ?_; rintro e w' ⟨rfl, rfl⟩)
        go_ret
        exact ⟨by unfold motB; rw [HB.out]; simp, HB0.out⟩
    · obtain rfl : k = o.length := by omega
      have HB := Lib.hid ((ofs_iff o).1 HH.out)
      cases hu : inB u 1 50 with
      | true =>
        go_wp2_with (go_at_call 87; refine (c87 _ _ _ _).mono ?_; rintro e w' ⟨rfl, rfl⟩)
        go_ret
        exact ⟨by unfold motB; rw [HB.out, hu]; simp, HB0.out⟩
      | false =>
        go_wp2_with (go_at_call 87; refine (c87 _ _ _ _).mono ?_; rintro e w' ⟨rfl, rfl⟩)
        go_ret
        exact ⟨by unfold motB; rw [hu]; rfl, HB0.out⟩

set_option maxHeartbeats 400000 in
set_option maxRecDepth 100000 in
theorem c55 (u : Int) (q : Option Addr) (cap : Nat) (o : List Int) (k : Nat) (w : World) (hx : RdI w q o) (hm : Mot u o) (hk : k ≤ 100000) :
    Calls Tryz.prog 55 #[.agg #[.int .i64 u, .slice q o.length cap], .int .i64 k] w fun e w' => e = .returned (.int .i64 (plc u o k)) ∧ Below w.heap.size w w' := by
  obtain ⟨hu0, hu1, hl0, hl1, hos⟩ := hm
  have hmd := Nat.mod_lt k (show 0 < o.length by omega)
  have hrg := hos _ hmd
  obtain ⟨w0, e0, HS, k0, k1, b0⟩ := box2 w (.int .i64 u) (.slice q o.length cap) 61
  obtain ⟨b, off, rfl, hc⟩ := (hx.below b0).at hmd
  have e1 := hc _ hmd
  have HM := nat_emod0 k o.length
  have HC := Lib.hid (show plc u o k = (k : Int) * u + gi o (k % o.length) by unfold plc; rw [cg_natmod])
  have hp1 : 0 ≤ (k : Int) * u := Int.mul_nonneg (by omega) (by omega)
  have hp2 : (k : Int) * u ≤ 100000 * 50 := Int.mul_le_mul (by omega) hu1 (by omega) (by omega)
  clear hc hx hos
  go_enter Tryz.func55, Tryz.ntmps55
  go_wp2
  clear e0
  refine wp_region_quiet_lit (by kernel_rfl) (by kernel_rfl) ?_; (repeat (first | (rw [HM]) | ((with_reducible apply wq_ix Tryz.underlying24 sz3); (focus rfl); (focus rfl); (focus rfl); (focus omega); (try simp only [Nat.mul_one]); go_frame) | ((with_reducible apply wq_ix Tryz.underlying37 sz50); (focus rfl); (focus rfl); (focus rfl); (focus omega); (try simp only [Nat.mul_one]); go_frame) | ((with_reducible apply wq_ix Tryz.underlying35 sz47); (focus rfl); (focus rfl); (focus rfl); (focus omega); (try simp only [Nat.mul_one]); go_frame) | ((with_reducible apply wq_ix Tryz.underlying90 sz24); (focus rfl); (focus rfl); (focus rfl); (focus omega); (try simp only [Nat.mul_one]); go_frame) | ((with_reducible apply wq_ld ag3); (focus rfl); (focus rfl); (focus (rintro _ ⟨_, rfl⟩; first | exact k0 | exact k1 | exact e1)); go_frame) | ((with_reducible apply wq_ld ag24); (focus rfl); (focus rfl); (focus (rintro _ ⟨_, rfl⟩; first | exact k0 | exact k1 | exact e1)); go_frame) | ((with_reducible apply wq_ld ag37); (focus rfl); (focus rfl); (focus (rintro _ ⟨_, rfl⟩; first | exact k0 | exact k1 | exact e1)); go_frame) | ((with_reducible apply wq_ld ag90); (focus rfl); (focus rfl); (focus (rintro _ ⟨_, rfl⟩; first | exact k0 | exact k1 | exact e1)); go_frame) | ((with_reducible apply wq_ld ag35); (focus rfl); (focus rfl); (focus (rintro _ ⟨_, rfl⟩; first | exact k0 | exact k1 | exact e1)); go_frame) | ((with_reducible apply wq_add); (focus rfl); (focus rfl); (focus rfl); (focus omega); (focus omega); go_frame) | ((with_reducible apply wq_sub); (focus rfl); (focus rfl); (focus rfl); (focus omega); (focus omega); go_frame) | ((with_reducible apply wq_mul); (focus rfl); (focus rfl); (focus rfl); (focus omega); (focus omega); go_frame) | ((with_reducible apply wq_rem); (focus rfl); (focus rfl); (focus rfl); (focus omega); (focus omega); go_frame) | ((with_reducible apply wq_eql); (focus rfl); (focus rfl); (focus rfl); go_frame) | ((with_reducible apply wq_neq); (focus rfl); (focus rfl); (focus rfl); go_frame) | ((with_reducible apply wq_lss); (focus rfl); (focus rfl); (focus rfl); go_frame) | ((with_reducible apply wq_leq); (focus rfl); (focus rfl); (focus rfl); go_frame) | ((with_reducible apply wq_gtr); (focus rfl); (focus rfl); (focus rfl); go_frame) | ((with_reducible apply wq_geq); (focus rfl); (focus rfl); (focus rfl); go_frame) | ((with_reducible apply wq_max2); (focus rfl); (focus rfl); (focus rfl); go_frame) | ((with_reducible apply wq_min2); (focus rfl); (focus rfl); (focus rfl); go_frame) | ((with_reducible apply wq_max3); (focus rfl); (focus rfl); (focus rfl); (focus rfl); go_frame) | ((with_reducible apply wq_min3); (focus rfl); (focus rfl); (focus rfl); (focus rfl); go_frame) | go_big_quiet_step (fail))); refine wpQuiet_nil ?_; rintro _ ⟨nq, rfl⟩
  go_wp2
  go_ret
  exact ⟨by rw [HC.out]; rfl, below_drewN b0 _⟩
theorem c55i (u : Int) (q : Option Addr) (cap : Nat) (o : List Int) (t : Int) (w : World) (hx : RdI w q o) (hm : Mot u o) (hk : 0 ≤ t ∧ t ≤ 100000) :
    Calls Tryz.prog 55 #[.agg #[.int .i64 u, .slice q o.length cap], .int .i64 t] w fun e w' => e = .returned (.int .i64 (plc u o t)) ∧ Below w.heap.size w w' := by
  obtain ⟨k, rfl⟩ : ∃ k : Nat, t = k := ⟨t.toNat, by omega⟩
  exact c55 u q cap o k w hx hm (by omega)

theorem spd_emod (u : Int) (o : List Int) (t : Int) : spd u o (t % (o.length : Int)) = spd u o t := by
  unfold spd
  rw [cg_emod_add, cg_emod]

set_option maxHeartbeats 400000 in
set_option maxRecDepth 100000 in
theorem c109 (u : Int) (q : Option Addr) (cap : Nat) (o : List Int) (t : Int) (w : World) (hx : RdI w q o) (hm : Mot u o) (hk : -1 ≤ t ∧ t ≤ 10000) :
    Calls Tryz.prog 109 #[.agg #[.int .i64 u, .slice q o.length cap], .int .i64 t] w fun e w' => e = .returned (.int .i64 (spd u o t)) ∧ Below w.heap.size w w' := by
  have hm' := hm
  obtain ⟨hu0, hu1, hl0, hl1, hos⟩ := hm
  obtain ⟨w0, e0, HS, k0, k1, b0⟩ := box2 w (.int .i64 u) (.slice q o.length cap) 61
  have HX := Lib.hid (hx.below b0)
  have HM := Lib.hid hm'
  obtain ⟨m, hmm, hml⟩ : ∃ m : Nat, (t + (o.length : Int)) % (o.length : Int) = (m : Int) ∧ m < o.length := ⟨((t + (o.length : Int)) % (o.length : Int)).toNat, by have := Int.emod_nonneg (t + (o.length : Int)) (show (o.length : Int) ≠ 0 by omega); omega, by have := Int.emod_lt_of_pos (t + (o.length : Int)) (show (0 : Int) < o.length by omega); have := Int.emod_nonneg (t + (o.length : Int)) (show (o.length : Int) ≠ 0 by omega); omega⟩
  have hmt : (t + (o.length : Int)).tmod (o.length : Int) = (m : Int) := by rw [Int.tmod_eq_emod_of_nonneg (by omega)]; exact hmm
  have HP := Lib.hid (show spd u o t = plc u o ((m : Int) + 1) - plc u o (m : Int) by
    have e := plc_succ u o (m : Int)
    have e2 : spd u o (m : Int) = spd u o t := by rw [← hmm, spd_emod, spd_turn]
    omega)
  have r1 := plc_range u o ((m : Int) + 1) HM.out (by omega)
  have r2 := plc_range u o (m : Int) HM.out (by omega)
  clear hx hm' hos hmm
  go_enter Tryz.func109, Tryz.ntmps109
  go_wp2
  clear e0
  refine wp_region_quiet_below (by kernel_rfl) (by kernel_rfl) ?_; (repeat (first | ((with_reducible refine wq_lda ag61 sz61 ?_ ?_ ?_ (fun _ hbq => bcells2 k0 k1 hbq) ?_); (focus rfl); (focus rfl); (focus rfl); go_frame) | ((with_reducible apply wq_ix Tryz.underlying24 sz3); (focus rfl); (focus rfl); (focus rfl); (focus omega); (try simp only [Nat.mul_one]); go_frame) | ((with_reducible apply wq_ix Tryz.underlying37 sz50); (focus rfl); (focus rfl); (focus rfl); (focus omega); (try simp only [Nat.mul_one]); go_frame) | ((with_reducible apply wq_ix Tryz.underlying35 sz47); (focus rfl); (focus rfl); (focus rfl); (focus omega); (try simp only [Nat.mul_one]); go_frame) | ((with_reducible apply wq_ix Tryz.underlying90 sz24); (focus rfl); (focus rfl); (focus rfl); (focus omega); (try simp only [Nat.mul_one]); go_frame) | ((with_reducible apply wq_ld ag3); (focus rfl); (focus rfl); (focus (intro _ hbq; first | fail)); go_frame) | ((with_reducible apply wq_ld ag24); (focus rfl); (focus rfl); (focus (intro _ hbq; first | fail)); go_frame) | ((with_reducible apply wq_ld ag37); (focus rfl); (focus rfl); (focus (intro _ hbq; first | fail)); go_frame) | ((with_reducible apply wq_ld ag90); (focus rfl); (focus rfl); (focus (intro _ hbq; first | fail)); go_frame) | ((with_reducible apply wq_ld ag35); (focus rfl); (focus rfl); (focus (intro _ hbq; first | fail)); go_frame) | ((with_reducible apply wq_add); (focus rfl); (focus rfl); (focus rfl); (focus omega); (focus omega); go_frame) | ((with_reducible apply wq_sub); (focus rfl); (focus rfl); (focus rfl); (focus omega); (focus omega); go_frame) | ((with_reducible apply wq_mul); (focus rfl); (focus rfl); (focus rfl); (focus omega); (focus omega); go_frame) | ((with_reducible apply wq_rem); (focus rfl); (focus rfl); (focus rfl); (focus omega); (focus omega); go_frame) | ((with_reducible apply wq_eql); (focus rfl); (focus rfl); (focus rfl); go_frame) | ((with_reducible apply wq_neq); (focus rfl); (focus rfl); (focus rfl); go_frame) | ((with_reducible apply wq_lss); (focus rfl); (focus rfl); (focus rfl); go_frame) | ((with_reducible apply wq_leq); (focus rfl); (focus rfl); (focus rfl); go_frame) | ((with_reducible apply wq_gtr); (focus rfl); (focus rfl); (focus rfl); go_frame) | ((with_reducible apply wq_geq); (focus rfl); (focus rfl); (focus rfl); go_frame) | ((with_reducible apply wq_max2); (focus rfl); (focus rfl); (focus rfl); go_frame) | ((with_reducible apply wq_min2); (focus rfl); (focus rfl); (focus rfl); go_frame) | ((with_reducible apply wq_max3); (focus rfl); (focus rfl); (focus rfl); (focus rfl); go_frame) | ((with_reducible apply wq_min3); (focus rfl); (focus rfl); (focus rfl); (focus rfl); go_frame) | ((with_reducible apply wq_neq50); (focus rfl); (focus rfl); (focus rfl); go_frame) | go_big_quiet_step ((intro hbq; exact calls_below hbq (c55i u q cap o _ _ (HX.out.below hbq) HM.out (by omega)))))); refine wpQuiet_nil ?_; intro wq hbq
  go_wp2
  go_ret
  exact ⟨by rw [HP.out]; rfl, b0.trans (hbq.mono b0.size)⟩
end Go.Proofs.YtncfgkhbenmpoaaGreatDoor
end

section
namespace Go.Proofs.YtncfgkhbenmpoaaGreatDoor
open Go Go.RowKit Go.Proofs
set_option linter.unusedVariables false
attribute [local go_sem] imax2 imin2

theorem sgn_zero {n : Int} : sgn n = 0 ↔ n = 0 := by
  unfold sgn; constructor
  · intro h; split at h
    · omega
    · split at h <;> omega
  · rintro rfl; rfl

set_option maxHeartbeats 1000000 in
set_option maxRecDepth 100000 in
theorem c106 (u : Int) (q : Option Addr) (cap : Nat) (o : List Int) (t : Int) (w : World) (hx : RdI w q o) (hm : Mot u o) (ht : 0 ≤ t ∧ t ≤ 3000) :
    Calls Tryz.prog 106 #[.agg #[.int .i64 u, .slice q o.length cap], .int .i64 t] w (StaPost u o t w) := by
  obtain ⟨w0, e0, HS, k0, k1, b0⟩ := box2 w (.int .i64 u) (.slice q o.length cap) 61
  have HX := Lib.hid (hx.below b0)
  have HM := Lib.hid hm
  have HB := Lib.hid b0
  have hl0 := hm.l0
  have hl1 := hm.l1
  have HNE := Lib.hid (nextS_ne u o hm.u0 (by omega) t)
  clear hx hm b0
  by_cases hs : spd u o (t - 1) = 0
  · have HZ := Lib.hid (sgn_zero.2 hs)
    have HR := Lib.hid (show isSta u o t = false by unfold isSta; rw [hs]; rfl)
    clear hs
    go_enter Tryz.func106, Tryz.ntmps106
    (go_wp2_with fail); refine (c109 u q cap o (t - 1) _ HX.out HM.out (by omega)).mono ?_; rintro e wn ⟨rfl, bq⟩; replace HB := Lib.hid (HB.out.trans (bq.mono HB.out.size)); replace HX := Lib.hid (HX.out.below bq); replace k0 := (bq.cell (lt_of_cellq k0)).trans k0; replace k1 := (bq.cell (lt_of_cellq k1)).trans k1; clear bq
    clear e0
    (go_wp2_with fail); refine (c143 _ _).mono ?_; rw [HZ.out]; rintro e wn ⟨rfl, rfl⟩
    go_wp2
    go_ret
    exact ⟨by rw [HR.out]; rfl, HB.out⟩
  · obtain ⟨s, hse⟩ : ∃ s, sgn (spd u o (t - 1)) = s := ⟨_, rfl⟩
    have HZ := Lib.hid hse
    have hs0 : (s == 0) = false := by
      have : ¬ s = 0 := fun h => hs (sgn_zero.1 (by rw [hse]; exact h))
      simp [this]
    have HSN := Lib.hid hs
    clear hs hse
    go_enter Tryz.func106, Tryz.ntmps106
    (go_wp2_with fail); refine (c109 u q cap o (t - 1) _ HX.out HM.out (by omega)).mono ?_; rintro e wn ⟨rfl, bq⟩; replace HB := Lib.hid (HB.out.trans (bq.mono HB.out.size)); replace HX := Lib.hid (HX.out.below bq); replace k0 := (bq.cell (lt_of_cellq k0)).trans k0; replace k1 := (bq.cell (lt_of_cellq k1)).trans k1; clear bq
    clear e0
    (go_wp2_with fail); refine (c143 _ _).mono ?_; rw [HZ.out]; rintro e wn ⟨rfl, rfl⟩
    go_wp2
    clear hs0
    go_loopw [6] (fun i wr => ∃ k : Nat, k ≤ o.length ∧ i = .int .i64 k ∧ Hid (∀ j : Nat, j < k → spd u o (t + j) = 0) ∧ Hid (Below wn.heap.size wn wr)) (fun i _ => o.length + 1 - (intOf i).toNat)
    case atStart => exact ⟨0, by omega, rfl, Lib.hid (by intro j hj; omega), Lib.hid (Below.refl _ _)⟩
    case round =>
      obtain ⟨k, hk, rfl, HK, HL⟩ := hrel
      have hkl : k < o.length := by
        rcases Nat.lt_or_ge k o.length with h | h
        · exact h
        · obtain rfl : k = o.length := by omega
          exact absurd (nextS_zero u o o.length t HK.out) HNE.out
      (have bq := HL.out); replace HB := Lib.hid (HB.out.trans (bq.mono HB.out.size)); replace HX := Lib.hid (HX.out.below bq); replace k0 := (bq.cell (lt_of_cellq k0)).trans k0; replace k1 := (bq.cell (lt_of_cellq k1)).trans k1; clear bq
      by_cases hz : spd u o (t + k) = 0
      · have HZ2 := Lib.hid (sgn_zero.2 hz)
        have HZZ := Lib.hid hz
        clear hz
        (go_wp2_with fail); refine (c109 u q cap o (t + k) _ HX.out HM.out (by omega)).mono ?_; rintro e wn ⟨rfl, bq⟩; replace HB := Lib.hid (HB.out.trans (bq.mono HB.out.size)); replace HX := Lib.hid (HX.out.below bq); replace HL := Lib.hid (HL.out.trans (bq.mono HL.out.size)); replace k0 := (bq.cell (lt_of_cellq k0)).trans k0; replace k1 := (bq.cell (lt_of_cellq k1)).trans k1; clear bq
        (go_wp2_with fail); refine (c143 _ _).mono ?_; rw [HZ2.out]; rintro e wn ⟨rfl, rfl⟩
        go_wp2
        go_roundw
        case rel =>
          refine ⟨k + 1, by omega, by go_num, Lib.hid fun j hj => ?_, HL⟩
          rcases Nat.lt_or_ge j k with h | h
          · exact HK.out j h
          · obtain rfl : j = k := by omega
            exact HZZ.out
        case measure => simp [intOf]; omega
      · have hnx := nextS_at u o o.length t k hkl HK.out hz
        obtain ⟨s2, hs2⟩ : ∃ s2, sgn (spd u o (t + k)) = s2 := ⟨_, rfl⟩
        have HZ2 := Lib.hid hs2
        have hs20 : (s2 != 0) = true := by
          have : ¬ s2 = 0 := fun h => hz (sgn_zero.1 (by rw [hs2]; exact h))
          simp [this]
        have HR := Lib.hid (show isSta u o t = (s2 != s) by
          unfold isSta
          rw [hnx, hs2, HZ.out, decide_eq_true HSN.out, decide_eq_true hz]
          by_cases h : s2 = s <;> simp [h])
        clear hnx hs2 hz
        (go_wp2_with fail); refine (c109 u q cap o (t + k) _ HX.out HM.out (by omega)).mono ?_; rintro e wn ⟨rfl, bq⟩; replace HB := Lib.hid (HB.out.trans (bq.mono HB.out.size)); replace HX := Lib.hid (HX.out.below bq); replace k0 := (bq.cell (lt_of_cellq k0)).trans k0; replace k1 := (bq.cell (lt_of_cellq k1)).trans k1; clear bq
        (go_wp2_with fail); refine (c143 _ _).mono ?_; rw [HZ2.out]; rintro e wn ⟨rfl, rfl⟩
        go_wp2
        go_ret
        exact ⟨by rw [HR.out]; rfl, HB.out⟩

set_option maxHeartbeats 1000000 in
set_option maxRecDepth 100000 in
theorem c50 (u : Int) (q : Option Addr) (cap : Nat) (o : List Int) (f z : Int) (w : World) (hx : RdI w q o) (hm : Mot u o) (hf : 0 ≤ f) (hz : z ≤ 2000) (hfz : f ≤ z) :
    Calls Tryz.prog 50 #[.agg #[.int .i64 u, .slice q o.length cap], .int .i64 f, .int .i64 z] w fun e w' => (∃ p c, e = .returned (.slice p (staF u o f (z - f + 1).toNat).length c) ∧ RdI w' p (staF u o f (z - f + 1).toNat)) ∧ Below w.heap.size w w' := by
  obtain ⟨w0, e0, HS, k0, k1, b0⟩ := box2 w (.int .i64 u) (.slice q o.length cap) 61
  have HX := Lib.hid (hx.below b0)
  have HM := Lib.hid hm
  have HB0 := Lib.hid b0
  obtain ⟨i0, hi0, hy0, hy1, hy2⟩ := info_parts info3
  obtain ⟨n, rfl⟩ : ∃ n : Nat, z = f + n := ⟨(z - f).toNat, by omega⟩
  have hn2 : (f + (n : Int) - f + 1).toNat = n + 1 := by omega
  rw [hn2]
  clear hx hm b0 hn2
  go_enter Tryz.func50, Tryz.ntmps50
  go_wp2
  clear e0
  go_loopw [7, 8] (fun v i wr => ∃ k : Nat, k ≤ n + 1 ∧ i = .int .i64 (f + k) ∧ wr.ownsRow w0.heap.size 3 1 v (staF u o f k).length (inV (staF u o f k)) ∧ Below w0.heap.size w0 wr) (fun _ i _ => (f + (n : Int) + 1 - intOf i).toNat)
  case atStart => exact ⟨0, by omega, by simp, World.ownsRow_nil _ _ _ _, Below.refl _ _⟩
  case round =>
    obtain ⟨k, hk, rfl, hown, hnx⟩ := hrel
    have HO := Lib.hid hown
    have HN := Lib.hid hnx
    by_cases hlt : k < n + 1
    · have r0 := (hnx.cell (lt_of_cellq k0)).trans k0
      have r1 := (hnx.cell (lt_of_cellq k1)).trans k1
      have HXr := Lib.hid (HX.out.below hnx)
      have hle := staF_le u o f k
      have h106 := c106 u q cap o (f + k) wr HXr.out HM.out (by omega)
      clear hown hnx
      rcases hs : isSta u o (f + k) with _ | _
      · have HSB := Lib.hid hs
        clear hs
        go_wp2_with fail
        refine h106.mono ?_
        rintro e w4 ⟨he, b4⟩
        rw [HSB.out] at he
        subst he
        have HO2 := Lib.hid (own_kept HO.out b4)
        have HN2 := Lib.hid (HN.out.trans (b4.mono HN.out.size))
        clear h106 b4
        go_wp2
        go_roundw
        case rel =>
          refine ⟨k + 1, by omega, by go_num, ?_, HN2.out⟩
          rw [staF_succ, if_neg (by rw [HSB.out]; simp)]
          exact HO2.out
        case measure => simp [intOf]; omega
      · have HSB := Lib.hid hs
        clear hs
        go_wp2_with fail
        refine h106.mono ?_
        rintro e w4 ⟨he, b4⟩
        rw [HSB.out] at he
        subst he
        have HO2 := Lib.hid (own_kept HO.out b4)
        have HN2 := Lib.hid (HN.out.trans (b4.mono HN.out.size))
        clear h106 b4
        go_wp2_with (at_builtin; refine wpList_append_own _ rfl _ _ 24 rfl w0.heap.size 3 i0 _ 1 8 Tryz.underlying24 hi0 hy0 hy1 hy2 rfl (by decide) _ _ _ rfl (HO2.out.alloc _) ⟨w4.heap.size, 0, none⟩ 1 1 [.int .i64 (f + (k : Int))] rfl rfl ?c1 ?c2 ?c3 ?c4 ?c5 ?_)
        case c1 => exact news_of _ _ _
        case c2 => intro x hx; simp at hx; subst hx; rfl
        case c3 => unfold maxLen; omega
        case c4 => omega
        case c5 => have := HN2.out.size; simp; omega
        intro v' w5 hown' hgrow _
        have hlt' := HO2.out.lt
        have HN' := Lib.hid (HN2.out.trans (((Below.refl w0.heap.size w4).alloc HN2.out.size _).grown hgrow (by have := HN2.out.size; simp; omega) (fun j hj => (hlt' j hj).1)))
        have HO' := Lib.hid hown'
        clear hown' hgrow hlt'
        go_wp2
        go_roundw
        case rel =>
          refine ⟨k + 1, by omega, by go_num, ?_, HN'.out⟩
          have := HO'.out
          rw [staF_succ, if_pos HSB.out, inV_append, List.length_append]
          exact this
        case measure => simp [intOf]; omega
    · obtain rfl : k = n + 1 := by omega
      go_wp2
      obtain ⟨pp, cc, rfl, hrd⟩ := rd_of_own hown
      go_ret
      exact ⟨⟨pp, cc, rfl, hrd⟩, HB0.out.trans (hnx.mono HB0.out.size)⟩
end Go.Proofs.YtncfgkhbenmpoaaGreatDoor
end

section
namespace Go.Proofs.YtncfgkhbenmpoaaGreatDoor
open Go Go.RowKit Go.Proofs
set_option linter.unusedVariables false
attribute [local go_sem] imax2 imin2

set_option maxRecDepth 100000 in
set_option maxHeartbeats 400000 in
theorem c111 (u : Int) (q : Option Addr) (cap : Nat) (o : List Int) (z : Int) (t : Nat) (w : World) (hx : RdI w q o) (hm : Mot u o) (ht : t ≤ 10000) :
    Calls Tryz.prog 111 #[.agg #[.int .i64 u, .slice q o.length cap], .int .i64 z, .int .i64 t] w fun e w' => e = .returned (.bool (passB u o z t)) ∧ Below w.heap.size w w' := by
  obtain ⟨w0, e0, HS, k0, k1, b0⟩ := box2 w (.int .i64 u) (.slice q o.length cap) 61
  have HX := Lib.hid (hx.below b0)
  have HM := Lib.hid hm
  have HP := Lib.hid (passB_iff u o z t)
  have g1 := plc_range u o t hm (by omega)
  have g2 := plc_range u o ((t : Int) + 1) hm (by omega)
  have HB0 := Lib.hid b0
  clear hx hm b0
  go_enter Tryz.func111, Tryz.ntmps111
  go_wp2
  clear e0
  refine wp_region_quiet_below (by kernel_rfl) (by kernel_rfl) ?_; (repeat (first | ((with_reducible refine wq_lda ag61 sz61 ?_ ?_ ?_ (fun _ hbq => bcells2 k0 k1 hbq) ?_); (focus rfl); (focus rfl); (focus rfl); go_frame) | ((with_reducible apply wq_ix Tryz.underlying24 sz3); (focus rfl); (focus rfl); (focus rfl); (focus omega); (try simp only [Nat.mul_one]); go_frame) | ((with_reducible apply wq_ix Tryz.underlying37 sz50); (focus rfl); (focus rfl); (focus rfl); (focus omega); (try simp only [Nat.mul_one]); go_frame) | ((with_reducible apply wq_ix Tryz.underlying35 sz47); (focus rfl); (focus rfl); (focus rfl); (focus omega); (try simp only [Nat.mul_one]); go_frame) | ((with_reducible apply wq_ix Tryz.underlying90 sz24); (focus rfl); (focus rfl); (focus rfl); (focus omega); (try simp only [Nat.mul_one]); go_frame) | ((with_reducible apply wq_ld ag3); (focus rfl); (focus rfl); (focus (intro _ hbq; first | fail)); go_frame) | ((with_reducible apply wq_ld ag24); (focus rfl); (focus rfl); (focus (intro _ hbq; first | fail)); go_frame) | ((with_reducible apply wq_ld ag37); (focus rfl); (focus rfl); (focus (intro _ hbq; first | fail)); go_frame) | ((with_reducible apply wq_ld ag90); (focus rfl); (focus rfl); (focus (intro _ hbq; first | fail)); go_frame) | ((with_reducible apply wq_ld ag35); (focus rfl); (focus rfl); (focus (intro _ hbq; first | fail)); go_frame) | ((with_reducible apply wq_add); (focus rfl); (focus rfl); (focus rfl); (focus omega); (focus omega); go_frame) | ((with_reducible apply wq_sub); (focus rfl); (focus rfl); (focus rfl); (focus omega); (focus omega); go_frame) | ((with_reducible apply wq_mul); (focus rfl); (focus rfl); (focus rfl); (focus omega); (focus omega); go_frame) | ((with_reducible apply wq_rem); (focus rfl); (focus rfl); (focus rfl); (focus omega); (focus omega); go_frame) | ((with_reducible apply wq_eql); (focus rfl); (focus rfl); (focus rfl); go_frame) | ((with_reducible apply wq_neq); (focus rfl); (focus rfl); (focus rfl); go_frame) | ((with_reducible apply wq_lss); (focus rfl); (focus rfl); (focus rfl); go_frame) | ((with_reducible apply wq_leq); (focus rfl); (focus rfl); (focus rfl); go_frame) | ((with_reducible apply wq_gtr); (focus rfl); (focus rfl); (focus rfl); go_frame) | ((with_reducible apply wq_geq); (focus rfl); (focus rfl); (focus rfl); go_frame) | ((with_reducible apply wq_max2); (focus rfl); (focus rfl); (focus rfl); go_frame) | ((with_reducible apply wq_min2); (focus rfl); (focus rfl); (focus rfl); go_frame) | ((with_reducible apply wq_max3); (focus rfl); (focus rfl); (focus rfl); (focus rfl); go_frame) | ((with_reducible apply wq_min3); (focus rfl); (focus rfl); (focus rfl); (focus rfl); go_frame) | ((with_reducible apply wq_neq50); (focus rfl); (focus rfl); (focus rfl); go_frame) | go_big_quiet_step ((intro hbq; exact calls_below hbq (c55i u q cap o _ _ (HX.out.below hbq) HM.out (by omega)))))); refine wpQuiet_nil ?_; intro wq hbq
  have HBq := Lib.hid (HB0.out.trans (hbq.mono HB0.out.size))
  clear hbq k0 k1
  generalize plc u o (t : Int) = a at *
  generalize plc u o ((t : Int) + 1) = b at *
  by_cases h1 : a = z
  · have HV := Lib.hid (HP.out.2 (.inl h1))
    have h1' : (a == z) = true := by simp [h1]
    clear h1
    go_wp2
    go_ret
    exact ⟨by rw [HV.out]; rfl, HBq.out⟩
  have h1' : (a == z) = false := by simp [h1]
  have H1 := Lib.hid h1
  clear h1
  by_cases h2 : a < z
  · by_cases h3 : z < b
    · have HV := Lib.hid (HP.out.2 (.inr (.inl ⟨h2, h3⟩)))
      go_wp2
      go_ret
      exact ⟨by rw [HV.out]; rfl, HBq.out⟩
    · have HV := Lib.hid (show passB u o z t = false by
        cases hv : passB u o z t with
        | false => rfl
        | true => rcases HP.out.1 hv with h | h | h <;> first | exact absurd h H1.out | omega)
      have h4 : ¬ b < z ∨ ¬ z < a := .inr (by omega)
      have h5 : ¬ z < a := by omega
      clear h4
      by_cases h6 : b < z
      · go_wp2
        go_ret
        exact ⟨by rw [HV.out]; rfl, HBq.out⟩
      · go_wp2
        go_ret
        exact ⟨by rw [HV.out]; rfl, HBq.out⟩
  · by_cases h3 : b < z
    · by_cases h4 : z < a
      · have HV := Lib.hid (HP.out.2 (.inr (.inr ⟨h3, h4⟩)))
        go_wp2
        go_ret
        exact ⟨by rw [HV.out]; rfl, HBq.out⟩
      · exact absurd (show a = z by omega) H1.out
    · have HV := Lib.hid (show passB u o z t = false by
        cases hv : passB u o z t with
        | false => rfl
        | true => rcases HP.out.1 hv with h | h | h <;> first | exact absurd h H1.out | omega)
      go_wp2
      go_ret
      exact ⟨by rw [HV.out]; rfl, HBq.out⟩

set_option maxHeartbeats 1000000 in
set_option maxRecDepth 100000 in
theorem c57 (u : Int) (q : Option Addr) (cap : Nat) (o : List Int) (z : Int) (n : Nat) (w : World) (hx : RdI w q o) (hm : Mot u o) (hn : n ≤ 2000) :
    Calls Tryz.prog 57 #[.agg #[.int .i64 u, .slice q o.length cap], .int .i64 z, .int .i64 n] w fun e w' => (∃ p c, e = .returned (.slice p (passF u o z (n + 1)).length c) ∧ RdI w' p (passF u o z (n + 1))) ∧ Below w.heap.size w w' := by
  obtain ⟨w0, e0, HS, k0, k1, b0⟩ := box2 w (.int .i64 u) (.slice q o.length cap) 61
  have HX := Lib.hid (hx.below b0)
  have HM := Lib.hid hm
  have HB0 := Lib.hid b0
  obtain ⟨i0, hi0, hy0, hy1, hy2⟩ := info_parts info3
  clear hx hm b0
  go_enter Tryz.func57, Tryz.ntmps57
  go_wp2
  clear e0
  go_loopw [7, 8] (fun v i wr => ∃ k : Nat, k ≤ n + 1 ∧ i = .int .i64 k ∧ wr.ownsRow w0.heap.size 3 1 v (passF u o z k).length (inV (passF u o z k)) ∧ Below w0.heap.size w0 wr) (fun _ i _ => n + 1 - (intOf i).toNat)
  case atStart => exact ⟨0, by omega, by simp, World.ownsRow_nil _ _ _ _, Below.refl _ _⟩
  case round =>
    obtain ⟨k, hk, rfl, hown, hnx⟩ := hrel
    have HO := Lib.hid hown
    have HN := Lib.hid hnx
    by_cases hlt : k < n + 1
    · have r0 := (hnx.cell (lt_of_cellq k0)).trans k0
      have r1 := (hnx.cell (lt_of_cellq k1)).trans k1
      have HXr := Lib.hid (HX.out.below hnx)
      have hle := passF_le u o z k
      have h111 := c111 u q cap o z k wr HXr.out HM.out (by omega)
      clear hown hnx
      rcases hs : passB u o z k with _ | _
      · have HSB := Lib.hid hs
        rw [hs] at h111
        clear hs
        go_wp2_with fail
        refine h111.mono ?_
        rintro e w4 ⟨rfl, b4⟩
        have HO2 := Lib.hid (own_kept HO.out b4)
        have HN2 := Lib.hid (HN.out.trans (b4.mono HN.out.size))
        clear h111 b4
        go_wp2
        go_roundw
        case rel =>
          refine ⟨k + 1, by omega, by go_num, ?_, HN2.out⟩
          rw [passF_succ, if_neg (by rw [HSB.out]; simp)]
          exact HO2.out
        case measure => simp [intOf]; omega
      · have HSB := Lib.hid hs
        rw [hs] at h111
        clear hs
        go_wp2_with fail
        refine h111.mono ?_
        rintro e w4 ⟨rfl, b4⟩
        have HO2 := Lib.hid (own_kept HO.out b4)
        have HN2 := Lib.hid (HN.out.trans (b4.mono HN.out.size))
        clear h111 b4
        go_wp2_with (at_builtin; refine wpList_append_own _ rfl _ _ 24 rfl w0.heap.size 3 i0 _ 1 8 Tryz.underlying24 hi0 hy0 hy1 hy2 rfl (by decide) _ _ _ rfl (HO2.out.alloc _) ⟨w4.heap.size, 0, none⟩ 1 1 [.int .i64 (k : Int)] rfl rfl ?c1 ?c2 ?c3 ?c4 ?c5 ?_)
        case c1 => exact news_of _ _ _
        case c2 => intro x hx; simp at hx; subst hx; rfl
        case c3 => unfold maxLen; omega
        case c4 => omega
        case c5 => have := HN2.out.size; simp; omega
        intro v' w5 hown' hgrow _
        have hlt' := HO2.out.lt
        have HN' := Lib.hid (HN2.out.trans (((Below.refl w0.heap.size w4).alloc HN2.out.size _).grown hgrow (by have := HN2.out.size; simp; omega) (fun j hj => (hlt' j hj).1)))
        have HO' := Lib.hid hown'
        clear hown' hgrow hlt'
        go_wp2
        go_roundw
        case rel =>
          refine ⟨k + 1, by omega, by go_num, ?_, HN'.out⟩
          have := HO'.out
          rw [passF_succ, if_pos HSB.out, inV_append, List.length_append]
          exact this
        case measure => simp [intOf]; omega
    · obtain rfl : k = n + 1 := by omega
      go_wp2
      obtain ⟨pp, cc, rfl, hrd⟩ := rd_of_own hown
      go_ret
      exact ⟨⟨pp, cc, rfl, hrd⟩, HB0.out.trans (hnx.mono HB0.out.size)⟩

/-- the references' retreats: at a station the speed just before is not zero -/
def retRTo (u : Int) (o l : List Int) : Nat → Ret
  | 0 => ⟨0, 0, 0⟩
  | k + 1 => if spd u o (gi l k - 1) > 0 then ⟨(retRTo u o l k).many + 1, max (retRTo u o l k).long (gi l (k + 1) - gi l k), max (retRTo u o l k).far (plc u o (gi l k) - plc u o (gi l (k + 1)))⟩ else retRTo u o l k
theorem retRTo_eq (u : Int) (o : List Int) (f : Int) (n : Nat) : ∀ k, k ≤ (staF u o f n).length → retRTo u o (staF u o f n) k = retTo u o (staF u o f n) k := by
  intro k
  induction k with
  | zero => intro _; rfl
  | succ k ih =>
    intro hk
    have h := gi_mem (staF u o f n) k (by omega)
    have hs : spd u o (gi (staF u o f n) k - 1) ≠ 0 := by
      have h2 := h
      unfold staF at h2
      rw [List.mem_filter] at h2
      have h3 : isSta u o (gi (staF u o f n) k) = true := h2.2
      unfold isSta at h3
      rw [Bool.and_eq_true] at h3
      exact of_decide_eq_true h3.1
    simp only [retRTo, retTo, ih (by omega)]
    by_cases h1 : spd u o (gi (staF u o f n) k - 1) < 0
    · rw [if_pos h1, if_neg (by omega)]
    · rw [if_neg h1, if_pos (by omega)]

set_option maxHeartbeats 1000000 in
set_option maxRecDepth 100000 in
theorem c52 (u : Int) (q : Option Addr) (cap : Nat) (o : List Int) (n : Nat) (w : World) (hx : RdI w q o) (hm : motB u o = true) (hn : n ≤ 2000) :
    Calls Tryz.prog 52 #[.agg #[.int .i64 u, .slice q o.length cap], .int .i64 n] w fun e w' =>
      e = .returned (.tuple #[.int .i64 (retTo u o (staF u o 0 (n + 1)) ((staF u o 0 (n + 1)).length - 1)).many, .int .i64 (retTo u o (staF u o 0 (n + 1)) ((staF u o 0 (n + 1)).length - 1)).long,
        .int .i64 (retTo u o (staF u o 0 (n + 1)) ((staF u o 0 (n + 1)).length - 1)).far]) ∧ Below w.heap.size w w' := by
  have hmot := Lib.hid (motB_mot hm)
  obtain ⟨w1, e0, HS, j0, j1, b0⟩ := box2 w (.int .i64 u) (.slice q o.length cap) 61
  have HX1 := Lib.hid (hx.below b0)
  have HB1 := Lib.hid b0
  have hrange := Lib.hid (staF_range u o (n + 1) (by omega))
  have hret := Lib.hid (retTo_range u o (staF u o 0 (n + 1)) (motB_mot hm) hrange.out)
  have hlen := staF_le u o 0 (n + 1)
  have HEQ := Lib.hid (retRTo_eq u o 0 (n + 1))
  clear hx hm b0
  go_enter Tryz.func52, Tryz.ntmps52
  go_wp2_with fail
  have h105 := c50 u q cap o 0 n w1 HX1.out hmot.out (by omega) (by omega) (by omega)
  rw [show ((n : Int) - 0 + 1).toNat = n + 1 by omega] at h105
  refine h105.mono ?_
  rintro e w2 ⟨⟨p, c, rfl, hrd⟩, b2⟩
  clear e0
  have HR := Lib.hid hrd
  have HB2 := Lib.hid b2
  have i0 := (b2.cell (lt_of_cellq j0)).trans j0
  have i1 := (b2.cell (lt_of_cellq j1)).trans j1
  have HX2 := Lib.hid (HX1.out.below b2)
  clear hrd b2 h105 j0 j1
  generalize hle : staF u o 0 (n + 1) = l at *
  have HLE := Lib.hid hle
  clear hle
  go_wp2
  go_loopw [8, 9, 10, 11] (fun a b c i wr => ∃ k : Nat, (k + 1 ≤ l.length ∨ k = 0) ∧ i = .int .i64 k ∧ a = .int .i64 (retTo u o l k).many ∧ b = .int .i64 (retTo u o l k).long ∧ c = .int .i64 (retTo u o l k).far ∧ Below w2.heap.size w2 wr) (fun _ _ _ i _ => l.length - (intOf i).toNat)
  case atStart => exact ⟨0, by omega, rfl, rfl, rfl, rfl, Below.refl _ _⟩
  case round =>
    obtain ⟨k, hk, rfl, rfl, rfl, rfl, hnx⟩ := hrel
    have g := hret.out k hk
    obtain ⟨g1, g2, g3, g4, g5, g6⟩ := g
    have HN := Lib.hid hnx
    by_cases hlt : k + 1 < l.length
    · obtain ⟨b, off, rfl, hc⟩ := (HR.out.below hnx).at (i := k) (by omega)
      have e1 := hc k (by omega)
      have e2 := hc (k + 1) (by omega)
      have m1 := hrange.out k (by omega)
      have m2 := hrange.out (k + 1) (by omega)
      have r0 := (hnx.cell (lt_of_cellq i0)).trans i0
      have r1 := (hnx.cell (lt_of_cellq i1)).trans i1
      have HXr := Lib.hid (HX2.out.below hnx)
      clear hc hnx
      have HQ1 := Lib.hid (HEQ.out (k + 1) (by omega))
      have HQ0 := Lib.hid (HEQ.out k (by omega))
      go_upto_region 6 with (fail)
      refine wp_region_quiet_below (by kernel_rfl) (by kernel_rfl) ?_; (repeat (first | ((with_reducible refine wq_lda ag61 sz61 ?_ ?_ ?_ (fun _ hbq => bcells2 r0 r1 hbq) ?_); (focus rfl); (focus rfl); (focus rfl); go_frame) | ((with_reducible apply wq_ix Tryz.underlying24 sz3); (focus rfl); (focus rfl); (focus rfl); (focus omega); (try simp only [Nat.mul_one]); go_frame) | ((with_reducible apply wq_ix Tryz.underlying37 sz50); (focus rfl); (focus rfl); (focus rfl); (focus omega); (try simp only [Nat.mul_one]); go_frame) | ((with_reducible apply wq_ix Tryz.underlying35 sz47); (focus rfl); (focus rfl); (focus rfl); (focus omega); (try simp only [Nat.mul_one]); go_frame) | ((with_reducible apply wq_ix Tryz.underlying90 sz24); (focus rfl); (focus rfl); (focus rfl); (focus omega); (try simp only [Nat.mul_one]); go_frame) | ((with_reducible apply wq_ld ag3); (focus rfl); (focus rfl); (focus (intro _ hbq; first | exact (hbq.cell (lt_of_cellq e1)).trans e1)); go_frame) | ((with_reducible apply wq_ld ag24); (focus rfl); (focus rfl); (focus (intro _ hbq; first | exact (hbq.cell (lt_of_cellq e1)).trans e1)); go_frame) | ((with_reducible apply wq_ld ag37); (focus rfl); (focus rfl); (focus (intro _ hbq; first | exact (hbq.cell (lt_of_cellq e1)).trans e1)); go_frame) | ((with_reducible apply wq_ld ag90); (focus rfl); (focus rfl); (focus (intro _ hbq; first | exact (hbq.cell (lt_of_cellq e1)).trans e1)); go_frame) | ((with_reducible apply wq_ld ag35); (focus rfl); (focus rfl); (focus (intro _ hbq; first | exact (hbq.cell (lt_of_cellq e1)).trans e1)); go_frame) | ((with_reducible apply wq_add); (focus rfl); (focus rfl); (focus rfl); (focus omega); (focus omega); go_frame) | ((with_reducible apply wq_sub); (focus rfl); (focus rfl); (focus rfl); (focus omega); (focus omega); go_frame) | ((with_reducible apply wq_mul); (focus rfl); (focus rfl); (focus rfl); (focus omega); (focus omega); go_frame) | ((with_reducible apply wq_rem); (focus rfl); (focus rfl); (focus rfl); (focus omega); (focus omega); go_frame) | ((with_reducible apply wq_eql); (focus rfl); (focus rfl); (focus rfl); go_frame) | ((with_reducible apply wq_neq); (focus rfl); (focus rfl); (focus rfl); go_frame) | ((with_reducible apply wq_lss); (focus rfl); (focus rfl); (focus rfl); go_frame) | ((with_reducible apply wq_leq); (focus rfl); (focus rfl); (focus rfl); go_frame) | ((with_reducible apply wq_gtr); (focus rfl); (focus rfl); (focus rfl); go_frame) | ((with_reducible apply wq_geq); (focus rfl); (focus rfl); (focus rfl); go_frame) | ((with_reducible apply wq_max2); (focus rfl); (focus rfl); (focus rfl); go_frame) | ((with_reducible apply wq_min2); (focus rfl); (focus rfl); (focus rfl); go_frame) | ((with_reducible apply wq_max3); (focus rfl); (focus rfl); (focus rfl); (focus rfl); go_frame) | ((with_reducible apply wq_min3); (focus rfl); (focus rfl); (focus rfl); (focus rfl); go_frame) | ((with_reducible apply wq_neq50); (focus rfl); (focus rfl); (focus rfl); go_frame) | go_big_quiet_step ((intro hbq; exact calls_below hbq (c109 u q cap o _ _ (HXr.out.below hbq) hmot.out ⟨by omega, by omega⟩))))); refine wpQuiet_nil ?_; intro wq hbq
      have HNq := Lib.hid (HN.out.trans (hbq.mono HN.out.size))
      have f1 := (hbq.cell (lt_of_cellq e1)).trans e1
      have f2 := (hbq.cell (lt_of_cellq e2)).trans e2
      have s0 := (hbq.cell (lt_of_cellq r0)).trans r0
      have s1 := (hbq.cell (lt_of_cellq r1)).trans r1
      have HXq := Lib.hid (HXr.out.below hbq)
      clear hbq e1 e2 r0 r1
      by_cases hsp : spd u o (gi l k - 1) > 0
      · have HST := Lib.hid (show retTo u o l (k + 1) = ⟨(retTo u o l k).many + 1, max (retTo u o l k).long (gi l (k + 1) - gi l k), max (retTo u o l k).far (plc u o (gi l k) - plc u o (gi l (k + 1)))⟩ by
          rw [← HQ1.out]; simp only [retRTo, if_pos hsp]; rw [HQ0.out])
        have p1 := plc_range u o (gi l k) hmot.out (by omega)
        have p2 := plc_range u o (gi l (k + 1)) hmot.out (by omega)
        have hk1 : (k : Int) + 1 = ((k + 1 : Nat) : Int) := by omega
        go_upto_region 8 with (fail)
        refine wp_region_quiet_lit (by kernel_rfl) (by kernel_rfl) ?_; (repeat (first | (rw [hk1]) | ((with_reducible apply wq_ix Tryz.underlying24 sz3); (focus rfl); (focus rfl); (focus rfl); (focus omega); (try simp only [Nat.mul_one]); go_frame) | ((with_reducible apply wq_ix Tryz.underlying37 sz50); (focus rfl); (focus rfl); (focus rfl); (focus omega); (try simp only [Nat.mul_one]); go_frame) | ((with_reducible apply wq_ix Tryz.underlying35 sz47); (focus rfl); (focus rfl); (focus rfl); (focus omega); (try simp only [Nat.mul_one]); go_frame) | ((with_reducible apply wq_ix Tryz.underlying90 sz24); (focus rfl); (focus rfl); (focus rfl); (focus omega); (try simp only [Nat.mul_one]); go_frame) | ((with_reducible apply wq_ld ag3); (focus rfl); (focus rfl); (focus (rintro _ ⟨_, rfl⟩; first | exact f1 | exact f2)); go_frame) | ((with_reducible apply wq_ld ag24); (focus rfl); (focus rfl); (focus (rintro _ ⟨_, rfl⟩; first | exact f1 | exact f2)); go_frame) | ((with_reducible apply wq_ld ag37); (focus rfl); (focus rfl); (focus (rintro _ ⟨_, rfl⟩; first | exact f1 | exact f2)); go_frame) | ((with_reducible apply wq_ld ag90); (focus rfl); (focus rfl); (focus (rintro _ ⟨_, rfl⟩; first | exact f1 | exact f2)); go_frame) | ((with_reducible apply wq_ld ag35); (focus rfl); (focus rfl); (focus (rintro _ ⟨_, rfl⟩; first | exact f1 | exact f2)); go_frame) | ((with_reducible apply wq_add); (focus rfl); (focus rfl); (focus rfl); (focus omega); (focus omega); go_frame) | ((with_reducible apply wq_sub); (focus rfl); (focus rfl); (focus rfl); (focus omega); (focus omega); go_frame) | ((with_reducible apply wq_mul); (focus rfl); (focus rfl); (focus rfl); (focus omega); (focus omega); go_frame) | ((with_reducible apply wq_rem); (focus rfl); (focus rfl); (focus rfl); (focus omega); (focus omega); go_frame) | ((with_reducible apply wq_eql); (focus rfl); (focus rfl); (focus rfl); go_frame) | ((with_reducible apply wq_neq); (focus rfl); (focus rfl); (focus rfl); go_frame) | ((with_reducible apply wq_lss); (focus rfl); (focus rfl); (focus rfl); go_frame) | ((with_reducible apply wq_leq); (focus rfl); (focus rfl); (focus rfl); go_frame) | ((with_reducible apply wq_gtr); (focus rfl); (focus rfl); (focus rfl); go_frame) | ((with_reducible apply wq_geq); (focus rfl); (focus rfl); (focus rfl); go_frame) | ((with_reducible apply wq_max2); (focus rfl); (focus rfl); (focus rfl); go_frame) | ((with_reducible apply wq_min2); (focus rfl); (focus rfl); (focus rfl); go_frame) | ((with_reducible apply wq_max3); (focus rfl); (focus rfl); (focus rfl); (focus rfl); go_frame) | ((with_reducible apply wq_min3); (focus rfl); (focus rfl); (focus rfl); (focus rfl); go_frame) | go_big_quiet_step (fail))); refine wpQuiet_nil ?_; rintro _ ⟨nq, rfl⟩
        have y1 : (wq.drewN nq).cell? ⟨b, off + k, none⟩ = some (.int .i64 (gi l k)) := f1
        have y2 : (wq.drewN nq).cell? ⟨b, off + (k + 1), none⟩ = some (.int .i64 (gi l (k + 1))) := f2
        have x0 : (wq.drewN nq).cell? ⟨w.heap.size, 0, none⟩ = some (.int .i64 u) := s0
        have x1 : (wq.drewN nq).cell? ⟨w.heap.size, 1, none⟩ = some (.slice q o.length cap) := s1
        have HXy := Lib.hid (show RdI (wq.drewN nq) q o from HXq.out)
        have HNy := Lib.hid (below_drewN HNq.out nq)
        clear f1 f2 s0 s1 HXq HNq
        generalize wq.drewN nq = wy at *
        go_upto_region 9 with (fail)
        refine wp_region_quiet_below (by kernel_rfl) (by kernel_rfl) ?_; (repeat (first | ((with_reducible refine wq_lda ag61 sz61 ?_ ?_ ?_ (fun _ hbq => bcells2 x0 x1 hbq) ?_); (focus rfl); (focus rfl); (focus rfl); go_frame) | (rw [hk1]) | ((with_reducible apply wq_ix Tryz.underlying24 sz3); (focus rfl); (focus rfl); (focus rfl); (focus omega); (try simp only [Nat.mul_one]); go_frame) | ((with_reducible apply wq_ix Tryz.underlying37 sz50); (focus rfl); (focus rfl); (focus rfl); (focus omega); (try simp only [Nat.mul_one]); go_frame) | ((with_reducible apply wq_ix Tryz.underlying35 sz47); (focus rfl); (focus rfl); (focus rfl); (focus omega); (try simp only [Nat.mul_one]); go_frame) | ((with_reducible apply wq_ix Tryz.underlying90 sz24); (focus rfl); (focus rfl); (focus rfl); (focus omega); (try simp only [Nat.mul_one]); go_frame) | ((with_reducible apply wq_ld ag3); (focus rfl); (focus rfl); (focus (intro _ hbq; first | exact (hbq.cell (lt_of_cellq y1)).trans y1 | exact (hbq.cell (lt_of_cellq y2)).trans y2)); go_frame) | ((with_reducible apply wq_ld ag24); (focus rfl); (focus rfl); (focus (intro _ hbq; first | exact (hbq.cell (lt_of_cellq y1)).trans y1 | exact (hbq.cell (lt_of_cellq y2)).trans y2)); go_frame) | ((with_reducible apply wq_ld ag37); (focus rfl); (focus rfl); (focus (intro _ hbq; first | exact (hbq.cell (lt_of_cellq y1)).trans y1 | exact (hbq.cell (lt_of_cellq y2)).trans y2)); go_frame) | ((with_reducible apply wq_ld ag90); (focus rfl); (focus rfl); (focus (intro _ hbq; first | exact (hbq.cell (lt_of_cellq y1)).trans y1 | exact (hbq.cell (lt_of_cellq y2)).trans y2)); go_frame) | ((with_reducible apply wq_ld ag35); (focus rfl); (focus rfl); (focus (intro _ hbq; first | exact (hbq.cell (lt_of_cellq y1)).trans y1 | exact (hbq.cell (lt_of_cellq y2)).trans y2)); go_frame) | ((with_reducible apply wq_add); (focus rfl); (focus rfl); (focus rfl); (focus omega); (focus omega); go_frame) | ((with_reducible apply wq_sub); (focus rfl); (focus rfl); (focus rfl); (focus omega); (focus omega); go_frame) | ((with_reducible apply wq_mul); (focus rfl); (focus rfl); (focus rfl); (focus omega); (focus omega); go_frame) | ((with_reducible apply wq_rem); (focus rfl); (focus rfl); (focus rfl); (focus omega); (focus omega); go_frame) | ((with_reducible apply wq_eql); (focus rfl); (focus rfl); (focus rfl); go_frame) | ((with_reducible apply wq_neq); (focus rfl); (focus rfl); (focus rfl); go_frame) | ((with_reducible apply wq_lss); (focus rfl); (focus rfl); (focus rfl); go_frame) | ((with_reducible apply wq_leq); (focus rfl); (focus rfl); (focus rfl); go_frame) | ((with_reducible apply wq_gtr); (focus rfl); (focus rfl); (focus rfl); go_frame) | ((with_reducible apply wq_geq); (focus rfl); (focus rfl); (focus rfl); go_frame) | ((with_reducible apply wq_max2); (focus rfl); (focus rfl); (focus rfl); go_frame) | ((with_reducible apply wq_min2); (focus rfl); (focus rfl); (focus rfl); go_frame) | ((with_reducible apply wq_max3); (focus rfl); (focus rfl); (focus rfl); (focus rfl); go_frame) | ((with_reducible apply wq_min3); (focus rfl); (focus rfl); (focus rfl); (focus rfl); go_frame) | ((with_reducible apply wq_neq50); (focus rfl); (focus rfl); (focus rfl); go_frame) | go_big_quiet_step ((intro hbq; exact calls_below hbq (c55i u q cap o _ _ (HXy.out.below hbq) hmot.out ⟨by omega, by omega⟩))))); refine wpQuiet_nil ?_; intro wq hbq
        clear hk1
        go_wp2
        go_roundw
        case rel => exact ⟨k + 1, by omega, by go_num, by rw [HST.out], by rw [HST.out], by rw [HST.out], HNy.out.trans (hbq.mono HNy.out.size)⟩
        case measure => simp [intOf]; omega
      · have HST := Lib.hid (show retTo u o l (k + 1) = retTo u o l k by
          rw [← HQ1.out]; simp only [retRTo, if_neg hsp]; rw [HQ0.out])
        go_wp2
        go_roundw
        case rel => exact ⟨k + 1, by omega, by go_num, by rw [HST.out], by rw [HST.out], by rw [HST.out], HNq.out⟩
        case measure => simp [intOf]; omega
    · have hke : k = l.length - 1 := by omega
      have HKE := Lib.hid hke
      clear hke
      go_wp2
      go_ret3
      exact ⟨by rw [HLE.out, ← HKE.out]; rfl, HB1.out.trans ((HB2.out.trans (hnx.mono HB2.out.size)).mono HB1.out.size)⟩
end Go.Proofs.YtncfgkhbenmpoaaGreatDoor
end
