/-
  Plain laws of meshes that are renewed (no program in sight).
  Plain law of a chain whose meshes were renewed: turned on far enough, it loses no more than the limit (no program in sight).
  A move, arbor by arbor; no program in sight.
  Which truths the program's search yields, and in which order; no program in sight.
  Counting over the keys of a map, in whatever order; no program in sight.
  What the references do, step by step: hulls, all plays mesh by mesh, lists of meshes; no program in sight.
-/
import Derived.Test.YtbknfddaoolagaaGreatDoorGA
section
namespace Go.Proofs.YtbknfddaoolagaaGreatDoor
set_option linter.unusedVariables false

def lexB : List Int → List Int → Bool
  | [], [] => false
  | [], _ :: _ => true
  | _ :: _, [] => false
  | x :: a, y :: b => if x = y then lexB a b else decide (x < y)
theorem lexB_irrefl : ∀ a, lexB a a = false := by
  intro a
  induction a with
  | nil => rfl
  | cons x r ih => simp [lexB, ih]
def priceF (prices l : List Int) : Int := l.foldl (fun n i => n + gi prices i.toNat) 0
def keyB (prices a b : List Int) : Bool := if priceF prices a ≠ priceF prices b then decide (priceF prices a < priceF prices b) else if a.length ≠ b.length then decide (a.length < b.length) else lexB a b
def pickF (prices : List Int) (b x : List Int) : List Int := if keyB prices x b = true then x else b
def firstF (prices : List Int) : List (List Int) → List Int
  | [] => []
  | x :: r => r.foldl (pickF prices) x
theorem firstF_snoc (prices : List Int) (L : List (List Int)) (x : List Int) : firstF prices (L ++ [x]) = if L = [] then x else pickF prices (firstF prices L) x := by
  cases L with
  | nil => rfl
  | cons y r => rw [if_neg (by simp)]; simp only [List.cons_append, firstF, List.foldl_append]; rfl
def bitB (s i : Nat) : Bool := decide (s / 2 ^ i % 2 = 1)
def setL (s : Nat) : Nat → List Int
  | 0 => []
  | k + 1 => if bitB s k = true then setL s k ++ [(k : Int)] else setL s k
def allL : Nat → List (List Int)
  | 0 => [[]]
  | n + 1 => allL n ++ (allL n).map fun a => a ++ [(n : Int)]
theorem bitB_low (s i : Nat) {n : Nat} (h : i < n) : bitB (2 ^ n + s) i = bitB s i := by
  unfold bitB; obtain ⟨k, rfl⟩ : ∃ k, n = i + 1 + k := ⟨n - i - 1, by omega⟩; have e : 2 ^ (i + 1 + k) = 2 ^ i * (2 * 2 ^ k) := by rw [Nat.pow_add, Nat.pow_succ, Nat.mul_assoc]
  rw [e, Nat.mul_add_div (Nat.two_pow_pos i)]
  congr 1
  rw [eq_iff_iff]; omega
theorem setL_low (s : Nat) {n : Nat} : ∀ k, k ≤ n → setL (2 ^ n + s) k = setL s k := by
  intro k
  induction k with
  | zero => intro _; rfl
  | succ k ih => intro hk; simp only [setL]; rw [bitB_low s k (by omega), ih (by omega)]
theorem setL_all : ∀ n, (List.range (2 ^ n)).map (fun s => setL s n) = allL n := by
  intro n
  induction n with
  | zero => rfl
  | succ n ih =>
    have e : 2 ^ (n + 1) = 2 ^ n + 2 ^ n := by rw [Nat.pow_succ]; omega
    rw [e, List.range_add, List.map_append, List.map_map]; simp only [allL]
    congr 1
    · rw [← ih]
      refine List.map_congr_left fun s hs => ?_
      have hs' := List.mem_range.1 hs; have : bitB s n = false := by unfold bitB; rw [Nat.div_eq_of_lt hs']; rfl
      simp only [setL]; rw [if_neg (by rw [this]; simp)]
    · rw [← ih, List.map_map]
      refine List.map_congr_left fun s hs => ?_
      have hs' := List.mem_range.1 hs
      have hb : bitB (2 ^ n + s) n = true := by
        unfold bitB
        have : (2 ^ n + s) / 2 ^ n = 1 := by
          rw [Nat.add_div_left s (Nat.two_pow_pos n), Nat.div_eq_of_lt hs']
        rw [this]; rfl
      simp only [Function.comp, setL]; rw [if_pos hb, setL_low s n (Nat.le_refl _)]
def restTo (pl l : List Int) : Nat → Int
  | 0 => 0
  | k + 1 => if ((k : Int) ∈ l) then restTo pl l k else restTo pl l k + gi pl k
def restF (pl l : List Int) : Int := restTo pl l pl.length
def enoughB (p : Pc) (lim : Int) (l : List Int) : Bool := (truthsF p).all fun pl => decide (restF pl l ≤ lim)
theorem enough_iff {p : Pc} {lim : Int} {l : List Int} : enoughB p lim l = true ↔ ∀ pl ∈ truthsF p, restF pl l ≤ lim := by
  unfold enoughB; simp [List.all_eq_true]
def lessF (pl l : List Int) : Int := l.foldl (fun n i => n - gi pl i.toNat) (sumT pl pl.length)
theorem less_fold (pl : List Int) : ∀ (l : List Int) (s : Int), l.foldl (fun n i => n - gi pl i.toNat) s = s - l.foldl (fun n i => n + gi pl i.toNat) 0 := by
  have gen : ∀ (l : List Int) (s t : Int), l.foldl (fun n i => n - gi pl i.toNat) (s - t) = s - l.foldl (fun n i => n + gi pl i.toNat) t := by
    intro l
    induction l with
    | nil => intro s t; rfl
    | cons x r ih => intro s t; simp only [List.foldl_cons]; rw [← ih]; congr 1; omega
  intro l s; have := gen l s 0
  simpa using this
theorem rest_set (pl : List Int) (s : Nat) : ∀ k, restTo pl (setL s k) k = sumT pl k - priceF pl (setL s k) := by
  have hlt : ∀ k, ∀ x ∈ setL s k, x < (k : Int) ∧ 0 ≤ x := by
    intro k
    induction k with
    | zero => intro x h; cases h
    | succ k ih =>
      intro x h; simp only [setL] at h
      by_cases hb : bitB s k = true
      · rw [if_pos hb] at h
        rcases List.mem_append.1 h with h | h
        · have := ih x h; omega
        · rw [List.mem_singleton.1 h]; omega
      · rw [if_neg hb] at h; have := ih x h; omega
  have cong : ∀ (l l' : List Int) (k : Nat), (∀ j : Nat, j < k → ((j : Int) ∈ l ↔ (j : Int) ∈ l')) → restTo pl l k = restTo pl l' k := by
    intro l l' k
    induction k with
    | zero => intro _; rfl
    | succ k ih =>
      intro h; simp only [restTo]; rw [ih fun j hj => h j (by omega)]
      by_cases hm : (k : Int) ∈ l
      · rw [if_pos hm, if_pos ((h k (by omega)).1 hm)]
      · rw [if_neg hm, if_neg (fun hc => hm ((h k (by omega)).2 hc))]
  intro k
  induction k with
  | zero => rfl
  | succ k ih =>
    by_cases hb : bitB s k = true
    · have e : setL s (k + 1) = setL s k ++ [(k : Int)] := by simp only [setL]; rw [if_pos hb]
      rw [e]; simp only [restTo, sumT]; rw [if_pos (List.mem_append_right _ (List.mem_singleton.2 rfl))]
      rw [cong _ (setL s k) k fun j hj => by
        rw [List.mem_append, List.mem_singleton]
        constructor
        · rintro (h | h)
          · exact h
          · omega
        · exact .inl, ih]
      unfold priceF; rw [List.foldl_append, List.foldl_cons, List.foldl_nil, Int.toNat_natCast]; omega
    · have e : setL s (k + 1) = setL s k := by simp only [setL]; rw [if_neg hb]
      rw [e]; simp only [restTo, sumT]; rw [if_neg (fun hc => by have := hlt k _ hc; omega), ih]; omega
theorem less_rest (pl : List Int) (s : Nat) : lessF pl (setL s pl.length) = restF pl (setL s pl.length) := by
  unfold lessF restF; rw [rest_set, less_fold]; rfl
def renewF (p : Pc) (prices : List Int) (lim : Int) : List Int := firstF prices ((allL p.ms.length).filter (enoughB p lim))
end Go.Proofs.YtbknfddaoolagaaGreatDoor
end

section
namespace Go.Proofs.YtbknfddaoolagaaGreatDoor
set_option linter.unusedVariables false

end Go.Proofs.YtbknfddaoolagaaGreatDoor
end

section
namespace Go.Proofs.YtbknfddaoolagaaGreatDoor
set_option linter.unusedVariables false

theorem gi_set (xs : List Int) (j : Nat) (z : Int) (i : Nat) : gi (xs.set j z) i = if i = j ∧ j < xs.length then z else gi xs i := by
  unfold gi; rw [List.getD_eq_getElem?_getD, List.getD_eq_getElem?_getD, List.getElem?_set]
  by_cases h : j = i
  · subst h
    by_cases h2 : j < xs.length
    · simp [h2]
    · simp [h2]
  · rw [if_neg h, if_neg (fun hh => h hh.1.symm)]
def mvTo (pl pc : List Int) (m : Int) (k : Nat) : List Int := (List.range (pl.length + 1)).map fun i => if i ≤ k then gi (mvF pl pc m) i else gi pc i
theorem mvTo_len (pl pc : List Int) (m : Int) (k : Nat) : (mvTo pl pc m k).length = pl.length + 1 := by simp [mvTo]
theorem mvTo_at (pl pc : List Int) (m : Int) (k i : Nat) (h : i ≤ pl.length) : gi (mvTo pl pc m k) i = if i ≤ k then gi (mvF pl pc m) i else gi pc i := gi_range _ _ _ (by omega)
theorem mvTo_zero {pl pc : List Int} (m : Int) (hl : pc.length = pl.length + 1) : pc.set 0 (gi pc 0 + m) = mvTo pl pc m 0 := by
  refine gi_ext (by rw [List.length_set, mvTo_len, hl]) fun i hi => ?_
  rw [List.length_set] at hi; rw [gi_set, mvTo_at _ _ _ _ _ (by omega)]
  by_cases h : i = 0
  · subst h
    rw [if_pos ⟨rfl, by omega⟩, if_pos (Nat.le_refl _), mvF_zero]
  · rw [if_neg (fun hh => h hh.1), if_neg (by omega)]
theorem mvTo_succ (pl pc : List Int) (m : Int) (k : Nat) (hk : k < pl.length) : (mvTo pl pc m k).set (k + 1) (gi (mvF pl pc m) (k + 1)) = mvTo pl pc m (k + 1) := by
  refine gi_ext (by rw [List.length_set, mvTo_len, mvTo_len]) fun i hi => ?_
  rw [List.length_set, mvTo_len] at hi; rw [gi_set, mvTo_at _ _ _ _ _ (by omega), mvTo_at _ _ _ _ _ (by omega), mvTo_len]
  by_cases h : i = k + 1
  · subst h
    rw [if_pos ⟨rfl, by omega⟩, if_pos (Nat.le_refl _)]
  · rw [if_neg (fun hh => h hh.1)]
    by_cases h2 : i ≤ k
    · rw [if_pos h2, if_pos (by omega)]
    · rw [if_neg h2, if_neg (by omega)]
theorem mvTo_all (pl pc : List Int) (m : Int) : mvTo pl pc m pl.length = mvF pl pc m := by
  refine gi_ext (by rw [mvTo_len, mvF_len]) fun i hi => ?_
  rw [mvTo_len] at hi; rw [mvTo_at _ _ _ _ _ (by omega), if_pos (by omega)]
theorem mvTo_done (pl pc : List Int) (m : Int) (k : Nat) (hk : k ≤ pl.length) : gi (mvTo pl pc m k) k = gi (mvF pl pc m) k := by
  rw [mvTo_at _ _ _ _ _ hk, if_pos (Nat.le_refl _)]
theorem mvTo_next (pl pc : List Int) (m : Int) (k : Nat) (hk : k < pl.length) : gi (mvTo pl pc m k) (k + 1) = gi pc (k + 1) := by
  rw [mvTo_at _ _ _ _ _ (by omega), if_neg (by omega)]
def begTo (pl : List Int) (k : Nat) : List Int := (List.range (k + 1)).map fun i => -sumT pl i
theorem begTo_len (pl : List Int) (k : Nat) : (begTo pl k).length = k + 1 := by simp [begTo]
theorem begTo_at (pl : List Int) (k i : Nat) (h : i ≤ k) : gi (begTo pl k) i = -sumT pl i := gi_range _ _ _ (by omega)
theorem begTo_zero (pl : List Int) : begTo pl 0 = [0] := by simp [begTo, sumT]
theorem begTo_succ (pl : List Int) (k : Nat) : begTo pl (k + 1) = begTo pl k ++ [gi (begTo pl k) k - gi pl k] := by
  rw [begTo_at _ _ _ (Nat.le_refl _)]; unfold begTo; rw [List.range_succ (n := k + 1), List.map_append]
  congr 1
  simp [sumT]; omega
theorem begTo_all (pl : List Int) : begTo pl pl.length = begF pl := rfl
def allF (pl mv : List Int) (k : Nat) : List (List Int) := (List.range (k + 1)).map (runF pl mv)
theorem allF_len (pl mv : List Int) (k : Nat) : (allF pl mv k).length = k + 1 := by simp [allF]
theorem allF_zero (pl mv : List Int) : allF pl mv 0 = [begF pl] := rfl
theorem allF_succ (pl mv : List Int) (k : Nat) : allF pl mv (k + 1) = allF pl mv k ++ [runF pl mv (k + 1)] := by
  unfold allF; rw [List.range_succ (n := k + 1), List.map_append]
  rfl
def gl (css : List (List Int)) (i : Nat) : List Int := css.getD i []
theorem allF_at (pl mv : List Int) (k i : Nat) (h : i ≤ k) : gl (allF pl mv k) i = runF pl mv i := by
  unfold gl allF; have h' : i < k + 1 := by omega
  simp [h']
end Go.Proofs.YtbknfddaoolagaaGreatDoor
end

section
namespace Go.Proofs.YtbknfddaoolagaaGreatDoor
set_option linter.unusedVariables false

def agreeAt (p : Pc) (pl : List Int) (i : Nat) : Bool := p.rs.all fun r => !decide (r.aft = (i : Int)) || inB (gi (runF pl p.mv i) r.arb.toNat - r.seen) (-r.off) r.off
def livedB (p : Pc) (pl : List Int) : Bool := p.rs.all (agreeB pl p.mv)
theorem fits_lived (p : Pc) (pl : List Int) : fitsB p pl = (withinB p pl && livedB p pl) := rfl
theorem agree_all {p : Pc} (hp : PieceOk p) (pl : List Int) : (∀ i, i ≤ p.mv.length → agreeAt p pl i = true) ↔ livedB p pl = true := by
  unfold livedB
  constructor
  · intro h
    rw [all_at rd0]; intro j hj; obtain ⟨⟨h1, h2⟩, _⟩ := hp.read j hj; have ha := h (gr p.rs j).aft.toNat (by omega); unfold agreeAt at ha; rw [all_at rd0] at ha; have := ha j hj; simp only [Bool.or_eq_true, Bool.not_eq_true', decide_eq_false_iff_not] at this; have e : ((gr p.rs j).aft.toNat : Int) = (gr p.rs j).aft := by omega
    rcases this with h3 | h3
    · exact absurd e.symm h3
    · unfold agreeB
      rw [inB_iff] at h3 ⊢; show (gr p.rs j).seen - (gr p.rs j).off ≤ gi (runF pl p.mv (gr p.rs j).aft.toNat) (gr p.rs j).arb.toNat ∧ gi (runF pl p.mv (gr p.rs j).aft.toNat) (gr p.rs j).arb.toNat ≤ (gr p.rs j).seen + (gr p.rs j).off; have h4 : -(gr p.rs j).off ≤ gi (runF pl p.mv (gr p.rs j).aft.toNat) (gr p.rs j).arb.toNat - (gr p.rs j).seen ∧ gi (runF pl p.mv (gr p.rs j).aft.toNat) (gr p.rs j).arb.toNat - (gr p.rs j).seen ≤ (gr p.rs j).off := h3; omega
  · intro h i hi
    rw [all_at rd0] at h; unfold agreeAt; rw [all_at rd0]; intro j hj; have := h j hj; unfold agreeB at this; rw [inB_iff] at this; simp only [Bool.or_eq_true, Bool.not_eq_true', decide_eq_false_iff_not]
    by_cases he : (p.rs.getD j rd0).aft = (i : Int)
    · right
      rw [inB_iff]; rw [he] at this; simp only [Int.toNat_natCast] at this; omega
    · exact .inl he
def yF (p : Pc) (a : List Int) : List (List Int) := (subF p a).filter (livedB p)
theorem prod_within {p : Pc} {pl : List Int} (h : pl ∈ prodF p.ms) : withinB p pl = true := withinB_iff.2 (mem_prodF.1 h).2
theorem yF_nil (p : Pc) : yF p [] = truthsF p := by
  unfold yF truthsF; rw [subF_nil]; refine List.filter_congr fun pl h => ?_
  rw [fits_lived, prod_within h, Bool.true_and]
theorem yF_end (p : Pc) (a : List Int) (h : a.length = p.ms.length) : yF p a = if livedB p a = true then [a] else [] := by
  unfold yF; rw [subF_end p a h]
  by_cases hl : livedB p a = true
  · rw [if_pos hl]; simp [hl]
  · rw [if_neg hl]; simp [hl]
theorem filter_flatMap' {α β : Type} (l : List α) (f : α → List β) (q : β → Bool) : (l.flatMap f).filter q = l.flatMap fun x => (f x).filter q := by
  induction l with
  | nil => rfl
  | cons x l ih => rw [List.flatMap_cons, List.flatMap_cons, List.filter_append, ih]
theorem yF_step (p : Pc) (a : List Int) (h : a.length < p.ms.length) : yF p a = (rng (gm p.ms a.length).1 (gm p.ms a.length).2).flatMap fun n => yF p (a ++ [n]) := by
  unfold yF; rw [subF_step p a h, filter_flatMap']
def yTo (p : Pc) (a : List Int) (k : Nat) : List (List Int) := ((rng (gm p.ms a.length).1 (gm p.ms a.length).2).take k).flatMap fun n => yF p (a ++ [n])
theorem yTo_zero (p : Pc) (a : List Int) : yTo p a 0 = [] := by simp [yTo]
theorem rng_take (a b : Int) (k : Nat) (h : k < (b - a + 1).toNat) : (rng a b).take (k + 1) = (rng a b).take k ++ [a + (k : Int)] := by
  rw [List.take_succ_eq_append_getElem (by rw [rng_len]; exact h)]
  congr 1
  simp [rng]
theorem yTo_succ (p : Pc) (a : List Int) (k : Nat) (h : k < ((gm p.ms a.length).2 - (gm p.ms a.length).1 + 1).toNat) : yTo p a (k + 1) = yTo p a k ++ yF p (a ++ [(gm p.ms a.length).1 + (k : Int)]) := by
  unfold yTo; rw [rng_take _ _ _ h, List.flatMap_append]
  simp
theorem yTo_all (p : Pc) (a : List Int) (h : a.length < p.ms.length) (k : Nat) (hk : ((gm p.ms a.length).2 - (gm p.ms a.length).1 + 1).toNat ≤ k) : yTo p a k = yF p a := by
  unfold yTo; rw [List.take_of_length_le (by rw [rng_len]; exact hk), yF_step p a h]
def Tried (p : Pc) (a : List Int) : Prop := a.length ≤ p.ms.length ∧ ∀ i, i < a.length → (gm p.ms i).1 ≤ gi a i ∧ gi a i ≤ (gm p.ms i).2
theorem tried_nil (p : Pc) : Tried p [] := ⟨Nat.zero_le _, fun i h => absurd h (Nat.not_lt_zero _)⟩
theorem Tried.snoc {p : Pc} {a : List Int} (h : Tried p a) (hl : a.length < p.ms.length) {n : Int} (h1 : (gm p.ms a.length).1 ≤ n) (h2 : n ≤ (gm p.ms a.length).2) : Tried p (a ++ [n]) := by
  refine ⟨by rw [List.length_append, List.length_singleton]; omega, fun i hi => ?_⟩; rw [List.length_append, List.length_singleton] at hi
  by_cases hk : i < a.length
  · have e : gi (a ++ [n]) i = gi a i := by unfold gi; rw [List.getD_eq_getElem?_getD, List.getD_eq_getElem?_getD, List.getElem?_append_left hk]
    rw [e]; exact h.2 i hk
  · obtain rfl : i = a.length := by omega
    have e : gi (a ++ [n]) a.length = n := by unfold gi; simp
    rw [e]; exact ⟨h1, h2⟩
theorem Tried.plays {p : Pc} (hp : PieceOk p) {a : List Int} (h : Tried p a) (hl : a.length = p.ms.length) : PlaysOk p a := by
  rw [← playsB_iff]; unfold playsB; rw [Bool.and_eq_true]; refine ⟨by simp [hl], ?_⟩; rw [all_at (0 : Int)]; intro i hi; have h1 := h.2 i hi; have h2 := hp.mesh i (by omega); rw [inB_iff]; show 0 ≤ gi a i ∧ gi a i ≤ 100; omega
end Go.Proofs.YtbknfddaoolagaaGreatDoor
end

section
namespace Go.Proofs.YtbknfddaoolagaaGreatDoor
set_option linter.unusedVariables false

theorem sum_map_add {α : Type} (l : List α) (f g : α → Nat) : (l.map fun x => f x + g x).sum = (l.map f).sum + (l.map g).sum := by
  induction l with
  | nil => rfl
  | cons x l ih => simp only [List.map_cons, List.sum_cons, ih]; omega
theorem sum_one {y : Int} : ∀ (ks : List Int), ks.Nodup → (ks.map fun k => if y = k then 1 else 0).sum = if y ∈ ks then 1 else 0 := by
  intro ks
  induction ks with
  | nil => intro _; rfl
  | cons k ks ih =>
    intro hn; rw [List.nodup_cons] at hn; rw [List.map_cons, List.sum_cons, ih hn.2]
    by_cases h : y = k
    · subst h
      simp [hn.1]
    · simp [h]
theorem hist_sum (f : Int → Bool) {ks : List Int} (hn : ks.Nodup) : ∀ xs : List Int, (∀ x ∈ xs, x ∈ ks) → ((ks.filter f).map fun k => xs.count k).sum = (xs.filter f).length := by
  intro xs
  induction xs with
  | nil =>
    intro _; simp only [List.count_nil, List.filter_nil, List.length_nil]
    induction ks.filter f with
    | nil => rfl
    | cons x l ih => simp [ih]
  | cons y xs ih =>
    intro h
    have e : ((ks.filter f).map fun k => (y :: xs).count k) = (ks.filter f).map fun k => xs.count k + if y = k then 1 else 0 := by
      refine List.map_congr_left fun k _ => ?_
      rw [List.count_cons]
      congr 1
      by_cases h : y = k <;> simp [h]
    rw [e, sum_map_add, ih (fun x hx => h x (List.mem_cons_of_mem _ hx)), sum_one _ (hn.filter _), List.filter_cons]
    by_cases hf : f y = true
    · have hm : y ∈ ks.filter f := List.mem_filter.2 ⟨h y List.mem_cons_self, hf⟩
      rw [if_pos hm, if_pos hf, List.length_cons]
    · have hm : ¬ y ∈ ks.filter f := fun hc => hf (List.mem_filter.1 hc).2
      rw [if_neg hm, if_neg hf, Nat.add_zero]
def placesF (p : Pc) (a : Nat) : List Int := (truthsF p).map fun pl => gi (endF p pl) a
theorem cntF_places (p : Pc) (a : Nat) (lo hi : Int) : cntF p a lo hi = ((placesF p a).filter fun x => inB x lo hi).length := by
  unfold cntF placesF; rw [List.filter_map, List.length_map]
  rfl
theorem leftF_places (p : Pc) (a : Nat) (o : Int) : leftF p a o = maxN ((placesF p a).map fun x => cntF p a x (x + 2 * o)) := by
  unfold leftF placesF; rw [List.map_map]
  rfl
theorem maxN_same {l l' : List Nat} (h : ∀ x, x ∈ l ↔ x ∈ l') : maxN l = maxN l' := by
  refine Nat.le_antisymm (maxN_le fun x hx => maxN_mem ((h x).1 hx)) (maxN_le fun x hx => maxN_mem ((h x).2 hx))
theorem left_keys (p : Pc) (a : Nat) (o : Int) {ks : List Int} (h : ∀ x, x ∈ ks ↔ x ∈ placesF p a) : maxN (ks.map fun x => cntF p a x (x + 2 * o)) = leftF p a o := by
  rw [leftF_places]; refine maxN_same fun x => ?_
  simp only [List.mem_map]; exact ⟨fun ⟨y, h1, h2⟩ => ⟨y, (h y).1 h1, h2⟩, fun ⟨y, h1, h2⟩ => ⟨y, (h y).2 h1, h2⟩⟩
end Go.Proofs.YtbknfddaoolagaaGreatDoor
end

section
namespace Go.Proofs.YtbknfddaoolagaaGreatDoor
set_option linter.unusedVariables false

end Go.Proofs.YtbknfddaoolagaaGreatDoor
end
