/-
  Plain laws of chains of arbors (no program in sight): where all arbors are before the first move, and after a move.
  Plain laws of pieces: plays that are tried, truths, and what all truths have (no program in sight).
  Base words of these seats' walks: what slices that are only read hold; regions that draw their order; boxes; owned rows.
  Plain laws of bounds, of lost motion, and of a crank that is turned on and back (no program in sight).
  Plain laws of meshes that are renewed (no program in sight).
  What the references do, step by step: hulls, all plays mesh by mesh, lists of meshes; no program in sight.
  Prices, lists of meshes and what they cost, in the document's words: contracts.
  A move made in two parts: what the moves are then, and where the arbors are (no program in sight).
  A negation in a quiet walk.
  A drawn region whose cells are known: its beginning, in short words.
  The document's move of all arbors, and where all arbors are: contracts.
  The document's places before the first move and after each one: contract.
  Whether plays are a truth, in the document's words: contract.
  All truths, in the document's words: contract.
  Better lists, all lists, and whether a list is enough, in the document's words: contracts.
  Whether a list is enough, and the best list, in the document's words: contracts.
  Where all arbors are after all moves, in each of some truths: contract.
  How many truths are left, and which arbor should be read, in the document's words: contracts.
  The least and the greatest number at each place of some lists: contracts.
  What the laws ask: a piece's truths, or its error; contracts.
  The stage's theorem: what is known of a piece (the walk).
  A piece with some moves more, or with one reading more, in the document's words: contracts.
  By how much the crank can be turned before an arbor moves (the walk).
  The theorem of lost motion (the walk).
  The laws' word on plain spans: contract.
  What is a place, and a limit, in the document's words; whether an arbor surely is near to a place after a move more, in the law's words: contracts.
  Which meshes are to be renewed, and their price (the walk; printed by ref.py, renews.py).
  The law SlackRenews: its card. Conditions: none of the input; the tables of the library that the row lists are as the program lays them (the tie is given).
-/
import Derived.Test.YtlednchfifphgabGreatDoorGA
import Derived.Test.YtlednchfifphgabGreatDoorProg
import Derived.WalkKit
import Derived.WalkSpells
import Derived.WalkLawsBesides
import Derived.Handy
import Derived.Deep.QuietTactic
import Derived.BigQuiet
import Derived.Outline
import Derived.Below
import Derived.Lib.Hide
import Derived.Maps.RangeWalk
import Derived.StillTailTactics
import Derived.WalkMore
import Derived.Deep.RegionHeld3
import Derived.Deep.Cut
import Derived.RangeFuncBox
import Derived.Test.YtlednchfifphgabGreatDoorGC
import Derived.Test.YtlednchfifphgabGreatDoorGG
import Derived.Test.YtlednchfifphgabGreatDoorGH
import Derived.Test.YtlednchfifphgabGreatDoorGL
import Derived.Test.YtlednchfifphgabGreatDoorGD
import Derived.Deep.Upon
import Derived.Deep.AppendLies
import Derived.Deep.RegionLaw
import Derived.OwnWalk
import Derived.Maps.AppendAt
import Derived.Test.YtlednchfifphgabGreatDoorGJ
import Derived.Test.YtlednchfifphgabGreatDoorGM
import Derived.Test.YtlednchfifphgabGreatDoorGN
import Derived.Test.YtlednchfifphgabGreatDoorGQ
import Derived.Test.YtlednchfifphgabGreatDoorGV
import Derived.Test.YtlednchfifphgabGreatDoorGY
import Derived.Test.YtlednchfifphgabGreatDoorGZ
import Derived.Test.YtlednchfifphgabGreatDoorCards
section
namespace Go.Proofs.YtlednchfifphgabGreatDoor

theorem mvF_stepBack {pl pc : List Int} {m : Int} (hc : Chain pl pc) (hm : ¬ 0 ≤ m) (k : Nat) (h : k < pl.length) : gi (mvF pl pc m) (k + 1) = min (gi pc (k + 1)) (gi (mvF pl pc m) k) := by
  rw [mvF_back hm k (by omega), mvF_back hm (k + 1) (by omega)]; have := hc.le k h; omega
theorem mvF_stepRef {pl pc : List Int} {m : Int} (hp : Pos pl) (hc : Chain pl pc) (k : Nat) (h : k < pl.length) : gi (mvF pl pc m) (k + 1) = min (gi (mvF pl pc m) k) (max (gi (mvF pl pc m) k - gi pl k) (gi pc (k + 1))) := by
  have h3 := (mvF_chain hp hc m).le k h; have h4 := hp k h
  by_cases hm : 0 ≤ m
  · rw [mvF_stepOn hc hm k h] at h3 ⊢; omega
  · have h5 := hc.ge k h
    have h6 := mvF_back hm k (pc := pc) (pl := pl) (by omega); rw [mvF_stepBack hc hm k h] at h3 ⊢; omega
end Go.Proofs.YtlednchfifphgabGreatDoor
end

section
namespace Go.Proofs.YtlednchfifphgabGreatDoor

theorem prodF_snoc (ms : List (Int × Int)) (m : Int × Int) : prodF (ms ++ [m]) = (prodF ms).flatMap fun a => (rng m.1 m.2).map fun n => a ++ [n] := by
  induction ms with
  | nil =>
    simp only [List.nil_append, prodF, List.flatMap_cons, List.flatMap_nil, List.append_nil, List.map_cons, List.map_nil]
    induction rng m.1 m.2 with
    | nil => rfl
    | cons x r ih => simp only [List.flatMap_cons, List.map_cons, ih]; rfl
  | cons m0 r ih =>
    simp only [List.cons_append, prodF, ih, List.flatMap_assoc]
    congr 1
    funext n
    simp only [List.map_flatMap, List.flatMap_map, List.map_map]
    rfl
end Go.Proofs.YtlednchfifphgabGreatDoor
end

section
namespace Go.Proofs.YtlednchfifphgabGreatDoor
open Go Go.RowKit Go.Proofs
set_option linter.unusedVariables false

section
variable {P : Program} {C : World → Prop} {K : Act → Prop} {a : Act} {ops : Array Oper} {Q : Act → Prop} {o : Oper} {rest : List Oper}

variable {d : Nat} {x y : Operand} {t t' ty : TypeId} {pos : String} {af : Array Edge} {g : Option (Nat × Bool)} {m n : Int}

variable {z : Operand} {l : Int} {ats : Array TypeId}
end


section
variable {P : Program} {ops : Array Oper} {C : World → Prop} {Q : Act → Prop} {rest : List Oper} {a : Act} {d : Nat} {x y : Operand} {ty t t' : TypeId} {pos : String} {af : Array Edge} {g : Option (Nat × Bool)}
end
theorem inV_length (a : List Int) : (inV a).length = a.length := by simp [inV]
section
variable {P : Program} {ops : Array Oper} {md : Region.Mode} {C : World → Prop}

end
end Go.Proofs.YtlednchfifphgabGreatDoor
end

section
namespace Go.Proofs.YtlednchfifphgabGreatDoor
set_option linter.unusedVariables false

theorem ne_of_mem {α : Type} {l : List α} {x : α} (h : x ∈ l) : l ≠ [] := by rintro rfl; cases h
theorem gi_app (a b : List Int) (i : Nat) (h : i < a.length) : gi (a ++ b) i = gi a i := by
  unfold gi; rw [List.getD_eq_getElem?_getD, List.getD_eq_getElem?_getD, List.getElem?_append_left h]
theorem gi_app2 (a b : List Int) (i : Nat) : gi (a ++ b) (a.length + i) = gi b i := by
  unfold gi; rw [List.getD_eq_getElem?_getD, List.getD_eq_getElem?_getD, List.getElem?_append_right (by omega)]; congr 2; omega
end Go.Proofs.YtlednchfifphgabGreatDoor
end

section
namespace Go.Proofs.YtlednchfifphgabGreatDoor
set_option linter.unusedVariables false

theorem lexB_total : ∀ a b, a ≠ b → lexB a b = true ∨ lexB b a = true := by
  intro a
  induction a with
  | nil => intro b h; cases b with
    | nil => exact absurd rfl h
    | cons y b => exact .inl rfl
  | cons x a ih =>
    intro b h
    cases b with
    | nil => exact .inr rfl
    | cons y b =>
      by_cases e : x = y
      · subst e
        simp only [lexB, if_true]; exact ih b fun he => h (by rw [he])
      · simp only [lexB, if_neg e, if_neg (Ne.symm e), decide_eq_true_eq]
        omega
theorem lexB_trans : ∀ a b c, lexB a b = true → lexB b c = true → lexB a c = true := by
  intro a
  induction a with
  | nil =>
    intro b c h1 h2
    cases c with
    | nil => cases b <;> simp [lexB] at h2
    | cons z c => rfl
  | cons x a ih =>
    intro b c h1 h2
    cases b with
    | nil => simp [lexB] at h1
    | cons y b =>
      cases c with
      | nil => simp [lexB] at h2
      | cons z c =>
        simp only [lexB] at h1 h2 ⊢
        by_cases e1 : x = y
        · subst e1
          rw [if_pos rfl] at h1
          by_cases e2 : x = z
          · subst e2; rw [if_pos rfl] at h2 ⊢; exact ih b c h1 h2
          · rw [if_neg e2] at h2 ⊢; exact h2
        · rw [if_neg e1] at h1
          have h1' := of_decide_eq_true h1
          by_cases e2 : y = z
          · subst e2; rw [if_neg e1]; exact h1
          · rw [if_neg e2] at h2
            have h2' := of_decide_eq_true h2; rw [if_neg (by omega)]; exact decide_eq_true (by omega)
theorem keyB_irrefl (prices a : List Int) : keyB prices a a = false := by simp [keyB, lexB_irrefl]
theorem keyB_total (prices : List Int) {a b : List Int} (h : a ≠ b) : keyB prices a b = true ∨ keyB prices b a = true := by
  unfold keyB
  by_cases h1 : priceF prices a = priceF prices b
  · rw [if_neg (show ¬ priceF prices a ≠ priceF prices b by simpa using h1), if_neg (show ¬ priceF prices b ≠ priceF prices a by simpa using h1.symm)]
    by_cases h2 : a.length = b.length
    · rw [if_neg (show ¬ a.length ≠ b.length by simpa using h2), if_neg (show ¬ b.length ≠ a.length by simpa using h2.symm)]
      exact lexB_total a b h
    · rw [if_pos (show a.length ≠ b.length from h2), if_pos (show b.length ≠ a.length from Ne.symm h2)]; simp only [decide_eq_true_eq]; omega
  · rw [if_pos h1, if_pos (Ne.symm h1)]; simp only [decide_eq_true_eq]; omega
theorem keyB_trans (prices : List Int) {a b c : List Int} (h1 : keyB prices a b = true) (h2 : keyB prices b c = true) : keyB prices a c = true := by
  unfold keyB at *
  by_cases e1 : priceF prices a = priceF prices b
  · rw [if_neg (by simpa using e1)] at h1
    by_cases e2 : priceF prices b = priceF prices c
    · rw [if_neg (by simpa using e2)] at h2
      rw [if_neg (by simp [e1, e2])]
      by_cases l1 : a.length = b.length
      · rw [if_neg (by simpa using l1)] at h1
        by_cases l2 : b.length = c.length
        · rw [if_neg (by simpa using l2)] at h2
          rw [if_neg (by simp [l1, l2])]; exact lexB_trans a b c h1 h2
        · rw [if_pos l2] at h2
          rw [if_pos (by omega), l1]; exact h2
      · rw [if_pos l1] at h1
        have h1' := of_decide_eq_true h1
        by_cases l2 : b.length = c.length
        · rw [if_pos (by omega), ← l2]; exact h1
        · rw [if_pos l2] at h2
          have h2' := of_decide_eq_true h2; rw [if_pos (by omega)]; exact decide_eq_true (by omega)
    · rw [if_pos e2] at h2
      rw [if_pos (by rw [e1]; exact e2), e1]; exact h2
  · rw [if_pos e1] at h1
    have h1' := of_decide_eq_true h1
    by_cases e2 : priceF prices b = priceF prices c
    · rw [if_pos (by rw [← e2]; exact e1), ← e2]; exact h1
    · rw [if_pos e2] at h2
      have h2' := of_decide_eq_true h2; rw [if_pos (by omega)]; exact decide_eq_true (by omega)

theorem pick_fold (prices : List Int) : ∀ (L : List (List Int)) (b : List Int), (L.foldl (pickF prices) b = b ∨ L.foldl (pickF prices) b ∈ L) ∧ keyB prices b (L.foldl (pickF prices) b) = false ∧ ∀ x ∈ L, keyB prices x (L.foldl (pickF prices) b) = false := by
  intro L
  induction L with
  | nil => intro b; exact ⟨.inl rfl, keyB_irrefl _ _, fun x h => by cases h⟩
  | cons y r ih =>
    intro b; obtain ⟨h1, h2, h3⟩ := ih (pickF prices b y); simp only [List.foldl_cons]
    generalize hF : r.foldl (pickF prices) (pickF prices b y) = F at *
    have key : ∀ z, (z = b ∨ z = y) → keyB prices z F = false := fun z hz => by
      cases hk : keyB prices z F with
      | false => rfl
      | true =>
        exfalso
        unfold pickF at h2
        by_cases hy : keyB prices y b = true
        · rw [if_pos hy] at h2
          rcases hz with rfl | rfl
          · rw [keyB_trans prices hy hk] at h2; cases h2
          · rw [hk] at h2; cases h2
        · rw [if_neg hy] at h2
          rcases hz with rfl | rfl
          · rw [hk] at h2; cases h2
          · by_cases e : z = b
            · subst e; rw [hk] at h2; cases h2
            · rcases keyB_total prices e with h | h
              · exact hy h
              · rw [keyB_trans prices h hk] at h2; cases h2
    refine ⟨?_, key b (.inl rfl), fun x hx => ?_⟩
    · rcases h1 with h1 | h1
      · unfold pickF at h1
        by_cases hy : keyB prices y b = true
        · rw [if_pos hy] at h1; exact .inr (by rw [h1]; exact List.mem_cons_self)
        · rw [if_neg hy] at h1; exact .inl h1
      · exact .inr (List.mem_cons_of_mem _ h1)
    · rcases List.mem_cons.1 hx with rfl | hx
      · exact key x (.inr rfl)
      · exact h3 x hx
def Least (prices : List Int) (L : List (List Int)) (r : List Int) : Prop := r ∈ L ∧ ∀ x ∈ L, keyB prices x r = false
theorem least_unique {prices : List Int} {L : List (List Int)} {r r' : List Int} (h : Least prices L r) (h' : Least prices L r') : r = r' := by
  by_cases e : r = r'
  · exact e
  · rcases keyB_total prices e with h1 | h1
    · rw [h'.2 r h.1] at h1; cases h1
    · rw [h.2 r' h'.1] at h1; cases h1
theorem first_least {prices : List Int} {L : List (List Int)} (h : L ≠ []) : Least prices L (firstF prices L) := by
  cases L with
  | nil => exact absurd rfl h
  | cons x r =>
    obtain ⟨h1, h2, h3⟩ := pick_fold prices r x; refine ⟨?_, fun y hy => ?_⟩
    · rcases h1 with h1 | h1
      · show r.foldl (pickF prices) x ∈ _
        rw [h1]; exact List.mem_cons_self
      · exact List.mem_cons_of_mem _ h1
    · rcases List.mem_cons.1 hy with rfl | hy
      · exact h2
      · exact h3 y hy
def goF (prices : List Int) (ok : List Int → Bool) (b : List Int) (L : List (List Int)) : List Int := L.foldl (fun b x => if ok x = true ∧ keyB prices x b = true then x else b) b
theorem goF_filter (prices : List Int) (ok : List Int → Bool) (L : List (List Int)) : ∀ b, goF prices ok b L = (L.filter ok).foldl (pickF prices) b := by
  induction L with
  | nil => intro b; rfl
  | cons x r ih =>
    intro b; show goF prices ok (if ok x = true ∧ keyB prices x b = true then x else b) r = _; rw [ih, List.filter_cons]
    by_cases h : ok x = true
    · rw [if_pos h, List.foldl_cons]; congr 1; unfold pickF; simp [h]
    · rw [if_neg h, if_neg (fun hc => h hc.1)]
theorem go_least {prices : List Int} {ok : List Int → Bool} {b : List Int} {L : List (List Int)} (hb : b ∈ L) (ho : ok b = true) : Least prices (L.filter ok) (goF prices ok b L) := by
  rw [goF_filter]; obtain ⟨h1, h2, h3⟩ := pick_fold prices (L.filter ok) b; refine ⟨?_, h3⟩
  rcases h1 with h1 | h1
  · rw [h1]; exact List.mem_filter.2 ⟨hb, ho⟩
  · exact h1

theorem allL_len (n : Nat) : (allL n).length = 2 ^ n := by rw [← setL_all n]; simp
def RisesTo (l : List Int) (n : Nat) : Prop := ∀ i, i < l.length → (0 ≤ gi l i ∧ gi l i < n) ∧ (0 < i → gi l (i - 1) < gi l i)
theorem rises_mem : ∀ (n : Nat) (l : List Int), RisesTo l n → l ∈ allL n := by
  intro n
  induction n with
  | zero =>
    intro l h
    cases l with
    | nil => exact List.mem_singleton.2 rfl
    | cons x r => have := (h 0 (by simp)).1; omega
  | succ n ih =>
    intro l h
    rcases List.eq_nil_or_concat l with rfl | ⟨r, x, rfl⟩
    · have : ([] : List Int) ∈ allL n := ih [] fun i hi => absurd hi (Nat.not_lt_zero _)
      exact List.mem_append_left _ this
    · rw [List.concat_eq_append] at h ⊢
      have hx : gi (r ++ [x]) r.length = x := by rw [show r.length = r.length + 0 from rfl, gi_app2]; rfl
      have hr : ∀ i, i < r.length → gi (r ++ [x]) i = gi r i := fun i hi => gi_app r [x] i hi
      have hlast := h r.length (by simp); rw [hx] at hlast
      -- all before the last one are less than it
      have hlt : ∀ j, j < r.length → gi r j < x := by
        intro j hj
        have step : ∀ d, d < r.length → gi r (r.length - 1 - d) < x := by
          intro d
          induction d with
          | zero =>
            intro hd; have := hlast.2 (by omega); rw [hr _ (by omega)] at this
            simpa using this
          | succ d ihd =>
            intro hd; have h1 := ihd (by omega); have h2 := (h (r.length - 1 - d) (by simp; omega)).2 (by omega); rw [hr _ (by omega), hr _ (by omega)] at h2; rw [show r.length - 1 - (d + 1) = r.length - 1 - d - 1 by omega]; omega
        have := step (r.length - 1 - j) (by omega)
        rwa [show r.length - 1 - (r.length - 1 - j) = j by omega] at this
      have hrr : ∀ m : Nat, (∀ i, i < r.length → gi r i < m) → RisesTo r m := fun m hm i hi => by
        have := h i (by simp; omega); rw [hr i hi] at this; refine ⟨⟨this.1.1, hm i hi⟩, fun h0 => ?_⟩; have h2 := this.2 h0
        rwa [hr (i - 1) (by omega)] at h2
      by_cases hn : x = n
      · refine List.mem_append_right _ (List.mem_map.2 ⟨r, ih r (hrr n fun i hi => by have := hlt i hi; omega), by rw [hn]⟩)
      · refine List.mem_append_left _ (ih _ fun i hi => ?_)
        have h1 := h i hi; refine ⟨⟨h1.1.1, ?_⟩, h1.2⟩; rw [List.length_append, List.length_singleton] at hi
        by_cases hi2 : i < r.length
        · have := hlt i hi2
          rw [hr i hi2]; omega
        · obtain rfl : i = r.length := by omega
          rw [hx]; omega
theorem mem_rises : ∀ (n : Nat) (l : List Int), l ∈ allL n → RisesTo l n := by
  intro n
  induction n with
  | zero =>
    intro l h; rw [allL, List.mem_singleton] at h; subst h; intro i hi; exact absurd hi (Nat.not_lt_zero _)
  | succ n ih =>
    intro l h
    rcases List.mem_append.1 h with h | h
    · intro i hi
      have := ih l h i hi; exact ⟨⟨this.1.1, by omega⟩, this.2⟩
    · obtain ⟨r, hr, rfl⟩ := List.mem_map.1 h
      have h1 := ih r hr; intro i hi; rw [List.length_append, List.length_singleton] at hi
      by_cases hi2 : i < r.length
      · have := h1 i hi2
        rw [gi_app r _ i hi2, gi_app r _ (i - 1) (by omega)]; exact ⟨⟨this.1.1, by omega⟩, this.2⟩
      · obtain rfl : i = r.length := by omega
        have e : gi (r ++ [(n : Int)]) r.length = n := by rw [show r.length = r.length + 0 from rfl, gi_app2]; rfl
        rw [e]; refine ⟨by omega, fun h0 => ?_⟩; rw [gi_app r _ _ (by omega)]; exact (h1 (r.length - 1) (by omega)).1.2

theorem rest_mono {a b l : List Int} : ∀ k, (∀ i, i < k → gi a i ≤ gi b i) → restTo a l k ≤ restTo b l k := by
  intro k
  induction k with
  | zero => intro _; exact Int.le_refl _
  | succ k ih =>
    intro h; have h1 := ih fun i hi => h i (by omega)
    have h2 := h k (by omega); simp only [restTo]
    split <;> omega
theorem rest_full {pl : List Int} (n : Nat) : ∀ k, k ≤ n → restTo pl (setL (2 ^ n - 1) n) k = 0 := by
  have hb : ∀ i, i < n → bitB (2 ^ n - 1) i = true := by
    intro i hi; unfold bitB; obtain ⟨k, rfl⟩ : ∃ k, n = i + 1 + k := ⟨n - i - 1, by omega⟩
    have e : 2 ^ (i + 1 + k) - 1 = 2 ^ i * (2 * 2 ^ k - 1) + (2 ^ i - 1) := by
      have h1 : 2 ^ (i + 1 + k) = 2 ^ i * (2 * 2 ^ k) := by rw [Nat.pow_add, Nat.pow_succ, Nat.mul_assoc]
      have h2 := Nat.two_pow_pos i; have h3 := Nat.two_pow_pos k; rw [h1, Nat.mul_sub_one]; have h4 : 2 ^ i ≤ 2 ^ i * (2 * 2 ^ k) := Nat.le_mul_of_pos_right _ (by omega); omega
    rw [e, Nat.mul_add_div (Nat.two_pow_pos i), Nat.div_eq_of_lt (a := 2 ^ i - 1) (by have := Nat.two_pow_pos i; omega)]; have h3 := Nat.two_pow_pos k; refine decide_eq_true ?_; omega
  have hm : ∀ m, m ≤ n → ∀ j : Nat, j < m → (j : Int) ∈ setL (2 ^ n - 1) m := by
    intro m
    induction m with
    | zero => intro _ j hj; omega
    | succ m ih =>
      intro hmn j hj; simp only [setL]; rw [if_pos (hb m (by omega))]
      by_cases e : j = m
      · subst e; exact List.mem_append_right _ (List.mem_singleton.2 rfl)
      · exact List.mem_append_left _ (ih (by omega) j (by omega))
  intro k
  induction k with
  | zero => intro _; rfl
  | succ k ih => intro hk; simp only [restTo]; rw [if_pos (hm n (Nat.le_refl _) k (by omega)), ih (by omega)]

theorem full_enough {p : Pc} (hp : PieceOk p) {lim : Int} (hl : 0 ≤ lim) : setL (2 ^ p.ms.length - 1) p.ms.length ∈ (allL p.ms.length).filter (enoughB p lim) := by
  refine List.mem_filter.2 ⟨?_, enough_iff.2 fun pl hpl => ?_⟩
  · rw [← setL_all]
    exact List.mem_map.2 ⟨_, List.mem_range.2 (by have := Nat.two_pow_pos p.ms.length; omega), rfl⟩
  · have hk := truth_plays hp hpl
    unfold restF; rw [hk.len, rest_full p.ms.length p.ms.length (Nat.le_refl _)]; exact hl
theorem renew_least {p : Pc} (hp : PieceOk p) {prices : List Int} {lim : Int} (hl : 0 ≤ lim) : Least prices ((allL p.ms.length).filter (enoughB p lim)) (renewF p prices lim) := first_least (ne_of_mem (full_enough hp hl))
theorem renew_go {p : Pc} (hp : PieceOk p) {prices : List Int} {lim : Int} (hl : 0 ≤ lim) : goF prices (enoughB p lim) (setL (2 ^ p.ms.length - 1) p.ms.length) (allL p.ms.length) = renewF p prices lim := by
  have h := List.mem_filter.1 (full_enough hp hl); exact least_unique (go_least h.1 h.2) (renew_least hp hl)
theorem cheaper_law {p : Pc} (hp : PieceOk p) {prices : List Int} {lim : Int} (hl : 0 ≤ lim) : RisesTo (renewF p prices lim) p.ms.length ∧ (∀ pl ∈ truthsF p, restF pl (renewF p prices lim) ≤ lim) ∧
    ∀ other, RisesTo other p.ms.length → (∃ most : List Int, most.length = p.ms.length ∧ (∀ pl ∈ truthsF p, ∀ i, i < p.ms.length → gi pl i ≤ gi most i) ∧ restF most other ≤ lim) → keyB prices other (renewF p prices lim) = false := by
  have h := renew_least hp (prices := prices) hl; obtain ⟨h1, h2⟩ := List.mem_filter.1 h.1; refine ⟨mem_rises _ _ h1, enough_iff.1 h2, fun other ho hm => ?_⟩; obtain ⟨most, hm1, hm2, hm3⟩ := hm; refine h.2 other (List.mem_filter.2 ⟨rises_mem _ _ ho, enough_iff.2 fun pl hpl => ?_⟩); have hk := truth_plays hp hpl; have := rest_mono (a := pl) (b := most) (l := other) p.ms.length fun i hi => hm2 pl hpl i hi
  unfold restF at hm3 ⊢; rw [hm1] at hm3; rw [hk.len]; omega
end Go.Proofs.YtlednchfifphgabGreatDoor
end

section
namespace Go.Proofs.YtlednchfifphgabGreatDoor
set_option linter.unusedVariables false

theorem gl_get (xs : List (List Int)) (i : Nat) (h : i < xs.length) : gl xs i = xs[i] := by
  unfold gl; simp [h]
theorem take_step {α : Type} (l : List α) (k : Nat) (h : k < l.length) : l.take (k + 1) = l.take k ++ [l[k]] := List.take_succ_eq_append_getElem h
theorem take_gl (ls : List (List Int)) (k : Nat) (h : k < ls.length) : ls.take (k + 1) = ls.take k ++ [gl ls k] := by rw [gl_get ls k h]; exact take_step ls k h
theorem gm_take (ms : List (Int × Int)) (k : Nat) (h : k < ms.length) : ms.take (k + 1) = ms.take k ++ [gm ms k] := by rw [gm_get ms k h]; exact take_step ms k h
def nextTo (m : Int × Int) (all : List (List Int)) (k : Nat) : List (List Int) := (all.take k).flatMap fun a => (rng m.1 m.2).map fun n => a ++ [n]
theorem nextTo_zero (m : Int × Int) (all : List (List Int)) : nextTo m all 0 = [] := by simp [nextTo]
theorem nextTo_succ (m : Int × Int) (all : List (List Int)) (k : Nat) (h : k < all.length) : nextTo m all (k + 1) = nextTo m all k ++ (rng m.1 m.2).map fun n => gl all k ++ [n] := by
  unfold nextTo; rw [take_gl all k h, List.flatMap_append]
  simp
theorem nextTo_prod (ms : List (Int × Int)) (k : Nat) (h : k < ms.length) : nextTo (gm ms k) (prodF (ms.take k)) (prodF (ms.take k)).length = prodF (ms.take (k + 1)) := by
  unfold nextTo; rw [List.take_length, gm_take ms k h, prodF_snoc]
def rowTo (a : List Int) (lo : Int) (j : Nat) : List (List Int) := (List.range j).map fun (i : Nat) => a ++ [lo + (i : Int)]
theorem rowTo_zero (a : List Int) (lo : Int) : rowTo a lo 0 = [] := rfl
theorem rowTo_succ (a : List Int) (lo : Int) (j : Nat) : rowTo a lo (j + 1) = rowTo a lo j ++ [a ++ [lo + (j : Int)]] := by
  unfold rowTo; rw [List.range_succ, List.map_append]; rfl
theorem rowTo_all (a : List Int) (lo hi : Int) (j : Nat) (h : (j : Int) = hi - lo + 1) : rowTo a lo j = (rng lo hi).map fun n => a ++ [n] := by
  unfold rowTo rng; rw [List.map_map, show (hi - lo + 1).toNat = j by omega]; rfl
theorem prodF_lens (ms : List (Int × Int)) : ∀ k, k ≤ ms.length → ∀ i, i < (prodF (ms.take k)).length → (gl (prodF (ms.take k)) i).length = k := by
  intro k hk i hi; rw [gl_get _ i hi]; have := (mem_prodF.1 (List.getElem_mem hi)).1; rw [this, List.length_take]; omega
theorem prodF_count (ms : List (Int × Int)) (h : ∀ i, i < ms.length → (gm ms i).2 - (gm ms i).1 ≤ 4) : (prodF ms).length ≤ 5 ^ ms.length := by
  induction ms with
  | nil => simp [prodF]
  | cons m r ih =>
    have h0 := h 0 (by simp); have e0 : gm (m :: r) 0 = m := rfl; rw [e0] at h0
    have ih' := ih fun i hi => by
      have := h (i + 1) (by simp; omega); exact this
    have : (prodF (m :: r)).length = (rng m.1 m.2).length * (prodF r).length := by
      show ((rng m.1 m.2).flatMap fun n => (prodF r).map (n :: ·)).length = _; rw [List.length_flatMap]; simp [List.map_const']
    rw [this, rng_len, List.length_cons, Nat.pow_succ, Nat.mul_comm (5 ^ r.length) 5]; exact Nat.mul_le_mul (by omega) ih'
theorem filter_take (f : List Int → Bool) (ls : List (List Int)) (k : Nat) (h : k < ls.length) : (ls.take (k + 1)).filter f = (ls.take k).filter f ++ (if f (gl ls k) = true then [gl ls k] else []) := by
  rw [take_gl ls k h, List.filter_append]
  cases hf : f (gl ls k) <;> simp [hf]

def listsTo (n k : Nat) : List (List Int) := allL n ++ ((allL n).take k).map fun a => a ++ [(n : Int)]
theorem listsTo_zero (n : Nat) : listsTo n 0 = allL n := by simp [listsTo]
theorem listsTo_succ (n k : Nat) (h : k < (allL n).length) : listsTo n (k + 1) = listsTo n k ++ [gl (allL n) k ++ [(n : Int)]] := by
  unfold listsTo; rw [take_gl _ k h, List.map_append, List.append_assoc]; rfl
theorem listsTo_all (n : Nat) : listsTo n (allL n).length = allL (n + 1) := by
  unfold listsTo; rw [List.take_length]; rfl
theorem listsTo_low (n k i : Nat) (h : i < (allL n).length) : gl (listsTo n k) i = gl (allL n) i := by
  unfold listsTo gl; rw [List.getD_eq_getElem?_getD, List.getD_eq_getElem?_getD, List.getElem?_append_left h]
theorem listsTo_len (n k : Nat) (h : k ≤ (allL n).length) : (listsTo n k).length = (allL n).length + k := by
  unfold listsTo; rw [List.length_append, List.length_map, List.length_take]; omega
theorem allL_last (n : Nat) : gl (allL n) ((allL n).length - 1) = setL (2 ^ n - 1) n := by
  have h := Nat.two_pow_pos n; rw [allL_len, ← setL_all]; unfold gl; rw [List.getD_eq_getElem?_getD, List.getElem?_map, List.getElem?_range (by omega)]
  rfl
theorem allL_rises (n i : Nat) (h : i < (allL n).length) : RisesTo (gl (allL n) i) n := by
  rw [gl_get _ i h]; exact mem_rises _ _ (List.getElem_mem h)
theorem rises_len {l : List Int} {n : Nat} (h : RisesTo l n) : l.length ≤ n := by
  have key : ∀ i, i < l.length → (i : Int) ≤ gi l i := by
    intro i
    induction i with
    | zero => intro hi; have := (h 0 hi).1; omega
    | succ i ih =>
      intro hi; have h1 := ih (by omega); have h2 := (h (i + 1) hi).2 (by omega); have e : i + 1 - 1 = i := by omega
      rw [e] at h2; omega
  rcases Nat.lt_or_ge n l.length with hc | hc
  · have h1 := key n hc
    have h2 := (h n hc).1; omega
  · exact hc
def goTo (prices : List Int) (ok : List Int → Bool) (b : List Int) (L : List (List Int)) (k : Nat) : List Int := goF prices ok b (L.take k)
theorem goTo_succ (prices : List Int) (ok : List Int → Bool) (b : List Int) (L : List (List Int)) (k : Nat) (h : k < L.length) : goTo prices ok b L (k + 1) = if ok (gl L k) = true ∧ keyB prices (gl L k) (goTo prices ok b L k) = true then gl L k else goTo prices ok b L k := by
  unfold goTo goF; rw [take_gl L k h, List.foldl_append]; rfl
def priceTo (prices l : List Int) (k : Nat) : Int := priceF prices (l.take k)
theorem priceTo_succ (prices l : List Int) (k : Nat) (h : k < l.length) : priceTo prices l (k + 1) = priceTo prices l k + gi prices (gi l k).toNat := by
  unfold priceTo priceF; rw [take_step l k h, List.foldl_append]; rw [gi_get l k h]; rfl
theorem priceTo_all (prices l : List Int) : priceTo prices l l.length = priceF prices l := by unfold priceTo; rw [List.take_length]
theorem price_range {prices l : List Int} {n : Nat} (hp : ∀ i, i < prices.length → 0 ≤ gi prices i ∧ gi prices i ≤ 1000) (hl : ∀ i, i < l.length → 0 ≤ gi l i ∧ gi l i < (prices.length : Int)) : ∀ k, k ≤ l.length → 0 ≤ priceTo prices l k ∧ priceTo prices l k ≤ 1000 * (k : Int) := by
  intro k
  induction k with
  | zero => intro _; simp [priceTo, priceF]
  | succ k ih =>
    intro hk; have h1 := ih (by omega); have h2 := hl k (by omega); have h3 := hp (gi l k).toNat (by omega); rw [priceTo_succ _ _ _ (by omega)]; omega
theorem lex_same {a b : List Int} (k : Nat) (ha : k ≤ a.length) (hb : k ≤ b.length) (h : ∀ i, i < k → gi a i = gi b i) : lexB a b = lexB (a.drop k) (b.drop k) := by
  induction k generalizing a b with
  | zero => rfl
  | succ k ih =>
    cases a with
    | nil => simp at ha
    | cons x a =>
      cases b with
      | nil => simp at hb
      | cons y b =>
        have h0 : x = y := h 0 (by omega); subst h0; rw [lexB, if_pos rfl, List.drop_succ_cons, List.drop_succ_cons]; exact ih (by simp at ha; omega) (by simp at hb; omega) fun i hi => h (i + 1) (by omega)
theorem lex_diff {a b : List Int} {k : Nat} (ha : k < a.length) (hb : k < b.length) (h : ∀ i, i < k → gi a i = gi b i) (hd : gi a k ≠ gi b k) : lexB a b = decide (gi a k < gi b k) := by
  rw [lex_same k (by omega) (by omega) h, List.drop_eq_getElem_cons ha, List.drop_eq_getElem_cons hb, lexB]; rw [gi_get a k ha, gi_get b k hb] at *; rw [if_neg hd]
theorem lex_end {a b : List Int} {k : Nat} (ha : k ≤ a.length) (hb : k ≤ b.length) (hk : k = a.length ∨ k = b.length) (h : ∀ i, i < k → gi a i = gi b i) : lexB a b = decide ((a.length : Int) < b.length) := by
  rw [lex_same k ha hb h]
  rcases hk with rfl | rfl
  · rw [List.drop_length]
    rcases Nat.lt_or_ge a.length b.length with hl | hl
    · rw [List.drop_eq_getElem_cons hl, lexB]; symm; rw [decide_eq_true_eq]; omega
    · rw [List.drop_eq_nil_of_le hl, lexB]; symm; rw [decide_eq_false_iff_not]; omega
  · rw [List.drop_length]
    rcases Nat.lt_or_ge b.length a.length with hl | hl
    · rw [List.drop_eq_getElem_cons hl, lexB]; symm; rw [decide_eq_false_iff_not]; omega
    · rw [List.drop_eq_nil_of_le hl, lexB]; symm; rw [decide_eq_false_iff_not]; omega

end Go.Proofs.YtlednchfifphgabGreatDoor
end

section
namespace Go.Proofs.YtlednchfifphgabGreatDoor
open Go Go.RowKit Go.Proofs
set_option linter.unusedVariables false
set_option linter.unusedSimpArgs false
attribute [local go_sem] imax2 imin2

def pricesB (p : Pc) (prices : List Int) : Bool := ((prices.length : Int) == (p.ms.length : Int)) && prices.all fun x => inB x 0 1000
theorem pricesB_iff {p : Pc} {prices : List Int} : pricesB p prices = true ↔ prices.length = p.ms.length ∧ ∀ i, i < prices.length → 0 ≤ gi prices i ∧ gi prices i ≤ 1000 := by
  unfold pricesB; rw [Bool.and_eq_true, beq_iff_eq, all_at (f := fun x => inB x 0 1000) 0]
  constructor
  · rintro ⟨h1, h2⟩
    exact ⟨by omega, fun i hi => inB_iff.1 (h2 i hi)⟩
  · rintro ⟨h1, h2⟩
    exact ⟨by omega, fun i hi => inB_iff.2 (h2 i hi)⟩
set_option maxRecDepth 100000 in
theorem r_Prices (pm pv pr : Option Addr) (cm cv cr : Nat) (p : Pc) (q : Option Addr) (cq : Nat) (pl : List Int) (w : World) (hq : RdI w q pl) (hlq : pl.length ≤ 1000000) :
    Calls Tryz.prog 39 #[.agg #[.slice pm p.ms.length cm, .slice pv p.mv.length cv, .slice pr p.rs.length cr], .slice q pl.length cq] w fun e w' => e = .returned (.bool (pricesB p pl)) ∧ Below w.heap.size w w' := by
  obtain ⟨w0, e0, HS0, k0, k1, k2, b0⟩ := box3 w (.slice pm p.ms.length cm) (.slice pv p.mv.length cv) (.slice pr p.rs.length cr) 26; have HB := Lib.hid b0; have HQ := Lib.hid (hq.below b0); clear b0 hq
  go_enter Tryz.func39, Tryz.ntmps39
  go_wp2; clear e0
  go_loopw [5] (fun i wr => ∃ k : Nat, k ≤ pl.length ∧ i = .int .i64 k ∧ Hid (∀ j, j < k → inB (gi pl j) 0 1000 = true) ∧ wr = w0) (fun i _ => pl.length - (intOf i).toNat)
  case atStart => exact ⟨0, Nat.zero_le _, rfl, Lib.hid (fun j hj => by omega), rfl⟩
  case round =>
    obtain ⟨k, hk, rfl, HK, rfl⟩ := hrel
    by_cases hlt : k < pl.length
    · have hki : (k : Int) < (pl.length : Int) := by omega
      obtain ⟨b, off, rfl, hc⟩ := HQ.out.at hlt; have d0 := hc k hlt; clear hc
      cases hb : inB (gi pl k) 0 1000 with
      | false =>
        have H := Lib.hid (show pricesB p pl = false by
          unfold pricesB; rw [all_badP (f := fun x => inB x 0 1000) 0 hlt (show inB (pl.getD k 0) 0 1000 = false from hb)]; simp)
        go_wp2_with fail; refine (r_in _ _ _ _).mono ?_; rw [hb]; rintro e wn ⟨rfl, rfl⟩; go_wp2; go_ret; exact ⟨by rw [H.out]; rfl, HB.out⟩
      | true =>
        have H := Lib.hid (upto_succ HK.out hb); go_wp2_with fail; refine (r_in _ _ _ _).mono ?_; rw [hb]; rintro e wn ⟨rfl, rfl⟩; clear hb; go_wp2; go_roundw
        case rel => exact ⟨k + 1, by omega, by go_num, H, by first | rfl | trivial⟩
        case measure => simp [intOf]; omega
    · obtain rfl : k = pl.length := by omega
      have hki : ¬ (pl.length : Int) < (pl.length : Int) := by omega
      have H := Lib.hid (show ((pl.length : Int) == (p.ms.length : Int)) = pricesB p pl by
        unfold pricesB; rw [(all_at (f := fun x => inB x 0 1000) 0 pl).2 HK.out, Bool.and_true])
      go_wp2; go_ret; exact ⟨by rw [← H.out]; rfl, HB.out⟩
theorem mem_gi {l : List Int} {n : Int} : n ∈ l ↔ ∃ i, i < l.length ∧ gi l i = n := by
  rw [List.mem_iff_getElem]
  constructor
  · rintro ⟨i, h, rfl⟩; exact ⟨i, h, gi_get l i h⟩
  · rintro ⟨i, h, rfl⟩; exact ⟨i, h, (gi_get l i h).symm⟩
set_option maxRecDepth 100000 in
theorem r_listed (q : Option Addr) (c : Nat) (l : List Int) (n : Int) (w : World) (hx : RdI w q l) (hl : l.length ≤ 1000000) :
    Calls Tryz.prog 101 #[.slice q l.length c, .int .i64 n] w fun e w' => e = .returned (.bool (decide (n ∈ l))) ∧ Below w.heap.size w w' := by
  have HX := Lib.hid hx; clear hx
  go_enter Tryz.func101, Tryz.ntmps101
  go_wp2
  go_loopw [5] (fun i wr => ∃ k : Nat, k ≤ l.length ∧ i = .int .i64 k ∧ Hid (∀ j, j < k → gi l j ≠ n) ∧ wr = w) (fun i _ => l.length - (intOf i).toNat)
  case atStart => exact ⟨0, Nat.zero_le _, rfl, Lib.hid (fun j hj => by omega), rfl⟩
  case round =>
    obtain ⟨k, hk, rfl, HK, rfl⟩ := hrel
    by_cases hlt : k < l.length
    · have hki : (k : Int) < (l.length : Int) := by omega
      obtain ⟨b, off, rfl, hc⟩ := HX.out.at hlt; have d0 := hc k hlt; clear hc
      by_cases he : gi l k = n
      · have H := Lib.hid (show decide (n ∈ l) = true from decide_eq_true (mem_gi.2 ⟨k, hlt, he⟩))
        obtain ⟨x, hx⟩ : ∃ x, gi l k = x := ⟨_, rfl⟩; rw [hx] at d0 he; have he' : (x == n) = true := by simp [he]
        clear hx he; go_wp2; go_ret; exact ⟨by rw [H.out]; rfl, Below.refl _ _⟩
      · have H := Lib.hid (upto_succ HK.out he)
        obtain ⟨x, hx⟩ : ∃ x, gi l k = x := ⟨_, rfl⟩; rw [hx] at d0 he; have he' : (x == n) = false := by simp [he]
        clear hx he; go_wp2; go_roundw
        case rel => exact ⟨k + 1, by omega, by go_num, H, by first | rfl | trivial⟩
        case measure => simp [intOf]; omega
    · obtain rfl : k = l.length := by omega
      have hki : ¬ (l.length : Int) < (l.length : Int) := by omega
      have H := Lib.hid (show decide (n ∈ l) = false from decide_eq_false (fun hm => by
        obtain ⟨i, hi, e⟩ := mem_gi.1 hm; exact HK.out i hi e))
      go_wp2; go_ret; exact ⟨by rw [H.out]; rfl, Below.refl _ _⟩
set_option maxRecDepth 100000 in
theorem r_Price (pq : Option Addr) (cp : Nat) (prices : List Int) (q : Option Addr) (c : Nat) (l : List Int) (w : World) (hp : RdI w pq prices) (hx : RdI w q l) (hl : l.length ≤ 1000) (hpp : ∀ i, i < prices.length → 0 ≤ gi prices i ∧ gi prices i ≤ 1000) (hll : ∀ i, i < l.length → 0 ≤ gi l i ∧ gi l i < (prices.length : Int)) :
    Calls Tryz.prog 42 #[.slice pq prices.length cp, .slice q l.length c] w fun e w' => e = .returned (.int .i64 (priceF prices l)) ∧ Below w.heap.size w w' := by
  have HX := Lib.hid hx; have HP := Lib.hid hp; have HPP := Lib.hid hpp; have HLL := Lib.hid hll; clear hx hp hpp hll
  go_enter Tryz.func42, Tryz.ntmps42
  go_wp2
  go_loopw [5, 6] (fun s i wr => ∃ k : Nat, k ≤ l.length ∧ i = .int .i64 k ∧ s = .int .i64 (priceTo prices l k) ∧ wr = w) (fun _ i _ => l.length - (intOf i).toNat)
  case atStart => exact ⟨0, Nat.zero_le _, rfl, rfl, rfl⟩
  case round =>
    obtain ⟨k, hk, rfl, rfl, rfl⟩ := hrel
    by_cases hlt : k < l.length
    · have hki : (k : Int) < (l.length : Int) := by omega
      obtain ⟨b, off, rfl, hc⟩ := HX.out.at hlt; have d0 := hc k hlt; have hr := HLL.out k hlt; obtain ⟨j, hj⟩ : ∃ j : Nat, gi l k = (j : Int) := ⟨(gi l k).toNat, by omega⟩; have hjl : j < prices.length := by omega
      obtain ⟨bp, op, rfl, hcp⟩ := HP.out.at hjl; have d1 := hcp j hjl; have hp1 := HPP.out j hjl; have hp2 := (price_range (n := 0) HPP.out HLL.out k (by omega)); have HST := Lib.hid (show priceTo prices l (k + 1) = priceTo prices l k + gi prices j by rw [priceTo_succ _ _ _ hlt, hj]; rfl); rw [hj] at d0; obtain ⟨x, hx⟩ : ∃ x, gi prices j = x := ⟨_, rfl⟩; obtain ⟨s, hs⟩ : ∃ s, priceTo prices l k = s := ⟨_, rfl⟩; rw [hx] at d1 hp1 HST; rw [hs] at hp2 HST ⊢; have hw : IntKind.i64.wrap (s + x) = s + x := w64 _ (by omega) (by omega); have hji : (j : Int) < (prices.length : Int) := by omega
      clear hc hcp hx hs hr hj; go_wp2; go_roundw
      case rel => exact ⟨k + 1, by omega, by go_num, by rw [HST.out], by first | rfl | trivial⟩
      case measure => simp [intOf]; omega
    · obtain rfl : k = l.length := by omega
      have hki : ¬ (l.length : Int) < (l.length : Int) := by omega
      go_wp2; go_ret; exact ⟨by rw [priceTo_all]; rfl, Below.refl _ _⟩
theorem cellq_drewN {w : World} {a : Addr} {v : Value} (h : w.cell? a = some v) (n : Nat) : (w.drewN n).cell? a = some v := h
set_option maxRecDepth 100000 in
theorem r_Before (p : Option Addr) (c : Nat) (a : List Int) (q : Option Addr) (d : Nat) (b : List Int) (w : World) (hx : RdI w p a) (hy : RdI w q b) (hl : a.length ≤ 1000) (hl2 : b.length ≤ 1000) :
    Calls Tryz.prog 102 #[.slice p a.length c, .slice q b.length d] w fun e w' => e = .returned (.bool (lexB a b)) ∧ Below w.heap.size w w' := by
  have HX := Lib.hid hx; have HY := Lib.hid hy; clear hx hy
  go_enter Tryz.func102, Tryz.ntmps102
  go_wp2
  go_loopw [5] (fun i wr => ∃ k : Nat, k ≤ a.length ∧ k ≤ b.length ∧ i = .int .i64 k ∧ Hid (∀ j, j < k → gi a j = gi b j) ∧ ∃ m, wr = w.drewN m) (fun i _ => a.length - (intOf i).toNat)
  case atStart => exact ⟨0, Nat.zero_le _, Nat.zero_le _, rfl, Lib.hid (fun j hj => by omega), 0, rfl⟩
  case round =>
    obtain ⟨k, hk, hk2, rfl, HK, m, hwr⟩ := hrel; have HWB := Lib.hid (show Below w.heap.size w wr by rw [hwr]; exact below_drewN (Below.refl _ _) _); have HW := Lib.hid hwr; clear hwr
    by_cases hlt : k < a.length
    · have hki : (k : Int) < (a.length : Int) := by omega
      by_cases hlt2 : k < b.length
      · have hki2 : (k : Int) < (b.length : Int) := by omega
        obtain ⟨ba, oa, rfl, hca⟩ := HX.out.at hlt; have d0 := hca k hlt; obtain ⟨bb, ob, rfl, hcb⟩ := HY.out.at hlt2; have d1 := hcb k hlt2; have d0 := (HWB.out.cell (lt_of_cellq d0)).trans d0; have d1 := (HWB.out.cell (lt_of_cellq d1)).trans d1; clear hca hcb
        by_cases he : gi a k = gi b k
        · have H := Lib.hid (upto_succ HK.out he)
          obtain ⟨x, hx⟩ : ∃ x, gi a k = x := ⟨_, rfl⟩; rw [← he] at d1; rw [hx] at d0 d1; have he' : (x != x) = false := by simp
          clear hx he; go_wp2; refine wp_region_quiet_lit (by kernel_rfl) (by kernel_rfl) ?_; (repeat (first | ((with_reducible first | apply wq_ix Tryz.underlying23 szI | apply wq_ix Tryz.underlying27 szSp | apply wq_ix Tryz.underlying22 szM | apply wq_ix Tryz.underlying24 szR | apply wq_ix Tryz.underlying43 szL | apply wq_ix Tryz.underlying103 szT); (focus rfl); (focus rfl); (focus rfl); (focus omega); (try simp only [Nat.mul_one]); go_frame) | ((with_reducible first | apply wq_ld agI | apply wq_ld agB | apply wq_ld agLI | apply wq_ld agLS | apply wq_ld agLM | apply wq_ld agLR | apply wq_ld agLL | apply wq_ld agLT); (focus rfl); (focus rfl); (focus (rintro _ ⟨_, rfl⟩; first | exact d0 | exact d1)); go_frame) | ((with_reducible first | apply wq_add | apply wq_sub | apply wq_mul | apply wq_rem); (focus rfl); (focus rfl); (focus rfl); (focus omega); (focus omega); go_frame) | ((with_reducible first | apply wq_eql | apply wq_neq | apply wq_lss | apply wq_leq | apply wq_gtr | apply wq_geq | apply wq_max2 | apply wq_min2); (focus rfl); (focus rfl); (focus rfl); go_frame) | ((with_reducible first | apply wq_max3 | apply wq_min3); (focus rfl); (focus rfl); (focus rfl); (focus rfl); go_frame) | go_big_quiet_step (fail))); refine wpQuiet_nil ?_; rintro _ ⟨nq, rfl⟩
          go_wp2; go_roundw
          case rel => exact ⟨k + 1, by omega, by omega, by go_num, H, m + nq, by rw [HW.out, drew_add]⟩
          case measure => simp [intOf]; omega
        · have H := Lib.hid (lex_diff hlt hlt2 HK.out he)
          obtain ⟨x, hx⟩ : ∃ x, gi a k = x := ⟨_, rfl⟩; obtain ⟨y, hy⟩ : ∃ y, gi b k = y := ⟨_, rfl⟩; rw [hx] at d0 he H; rw [hy] at d1 he H; have he' : (x != y) = true := by simp [he]
          clear hx hy he; go_wp2; refine wp_region_quiet_lit (by kernel_rfl) (by kernel_rfl) ?_; (repeat (first | ((with_reducible first | apply wq_ix Tryz.underlying23 szI | apply wq_ix Tryz.underlying27 szSp | apply wq_ix Tryz.underlying22 szM | apply wq_ix Tryz.underlying24 szR | apply wq_ix Tryz.underlying43 szL | apply wq_ix Tryz.underlying103 szT); (focus rfl); (focus rfl); (focus rfl); (focus omega); (try simp only [Nat.mul_one]); go_frame) | ((with_reducible first | apply wq_ld agI | apply wq_ld agB | apply wq_ld agLI | apply wq_ld agLS | apply wq_ld agLM | apply wq_ld agLR | apply wq_ld agLL | apply wq_ld agLT); (focus rfl); (focus rfl); (focus (rintro _ ⟨_, rfl⟩; first | exact d0 | exact d1)); go_frame) | ((with_reducible first | apply wq_add | apply wq_sub | apply wq_mul | apply wq_rem); (focus rfl); (focus rfl); (focus rfl); (focus omega); (focus omega); go_frame) | ((with_reducible first | apply wq_eql | apply wq_neq | apply wq_lss | apply wq_leq | apply wq_gtr | apply wq_geq | apply wq_max2 | apply wq_min2); (focus rfl); (focus rfl); (focus rfl); go_frame) | ((with_reducible first | apply wq_max3 | apply wq_min3); (focus rfl); (focus rfl); (focus rfl); (focus rfl); go_frame) | go_big_quiet_step (fail))); refine wpQuiet_nil ?_; rintro _ ⟨nq, rfl⟩
          have d0 := (cellq_drewN d0 nq); have d1 := (cellq_drewN d1 nq); go_wp2; refine wp_region_quiet_lit (by kernel_rfl) (by kernel_rfl) ?_; (repeat (first | ((with_reducible first | apply wq_ix Tryz.underlying23 szI | apply wq_ix Tryz.underlying27 szSp | apply wq_ix Tryz.underlying22 szM | apply wq_ix Tryz.underlying24 szR | apply wq_ix Tryz.underlying43 szL | apply wq_ix Tryz.underlying103 szT); (focus rfl); (focus rfl); (focus rfl); (focus omega); (try simp only [Nat.mul_one]); go_frame) | ((with_reducible first | apply wq_ld agI | apply wq_ld agB | apply wq_ld agLI | apply wq_ld agLS | apply wq_ld agLM | apply wq_ld agLR | apply wq_ld agLL | apply wq_ld agLT); (focus rfl); (focus rfl); (focus (rintro _ ⟨_, rfl⟩; first | exact d0 | exact d1)); go_frame) | ((with_reducible first | apply wq_add | apply wq_sub | apply wq_mul | apply wq_rem); (focus rfl); (focus rfl); (focus rfl); (focus omega); (focus omega); go_frame) | ((with_reducible first | apply wq_eql | apply wq_neq | apply wq_lss | apply wq_leq | apply wq_gtr | apply wq_geq | apply wq_max2 | apply wq_min2); (focus rfl); (focus rfl); (focus rfl); go_frame) | ((with_reducible first | apply wq_max3 | apply wq_min3); (focus rfl); (focus rfl); (focus rfl); (focus rfl); go_frame) | go_big_quiet_step (fail))); refine wpQuiet_nil ?_; rintro _ ⟨nq, rfl⟩
          go_wp2; go_ret; exact ⟨by rw [H.out]; rfl, below_drewN (below_drewN HWB.out _) _⟩
      · have hki2 : ¬ (k : Int) < (b.length : Int) := by omega
        have H := Lib.hid (show lexB a b = decide (a.length < b.length) by rw [lex_end hk hk2 (.inr (by omega)) HK.out]; exact decide_eq_decide.2 Int.ofNat_lt); go_wp2; go_ret; exact ⟨by rw [H.out]; rfl, HWB.out⟩
    · have hki : ¬ (k : Int) < (a.length : Int) := by omega
      have H := Lib.hid (show lexB a b = decide (a.length < b.length) by rw [lex_end hk hk2 (.inl (by omega)) HK.out]; exact decide_eq_decide.2 Int.ofNat_lt); go_wp2; go_ret; exact ⟨by rw [H.out]; rfl, HWB.out⟩
end Go.Proofs.YtlednchfifphgabGreatDoor
end

section
namespace Go.Proofs.YtlednchfifphgabGreatDoor
set_option linter.unusedVariables false

theorem gi_take (a : List Int) (k i : Nat) (h : i < k) : gi (a.take k) i = gi a i := by
  unfold gi; rw [List.getD_eq_getElem?_getD, List.getElem?_take, if_pos h, ← List.getD_eq_getElem?_getD]
end Go.Proofs.YtlednchfifphgabGreatDoor
end

section
namespace Go.Proofs.YtlednchfifphgabGreatDoor
open Go Go.RowKit
set_option linter.unusedVariables false
theorem wq_not {P : Program} {C : World → Prop} {ops : Array Oper} {Q : Act → Prop} {rest : List Oper} {a : Act} {d : Nat} {t ty : TypeId} {x : Operand} {pos : String} {af : Array Edge} {g : Option (Nat × Bool)} {b : Bool}
    (hw : Region.wanted ⟨some d, .unOp .not t x, ty, pos, af, g⟩ (yielded ops a.tmps) = true) (hx : a.eval x = .bool b)
    (hk : wpQuiet P ops C Q rest (a.put (some d) (.bool (!b)))) : wpQuiet P ops C Q (⟨some d, .unOp .not t x, ty, pos, af, g⟩ :: rest) a :=
  wq hw (q_val (o := ⟨some d, .unOp .not t x, ty, pos, af, g⟩) (.bool (!b)) (fun w _ => by unfold execOp; dsimp only; rw [hx]; simp [go_sem]) hk)
end Go.Proofs.YtlednchfifphgabGreatDoor
end

section
namespace Go.Proofs.YtlednchfifphgabGreatDoor
open Go Go.RowKit
set_option linter.unusedVariables false
section
variable {P : Program} {ops : Array Oper} {Q : Exit → Act → World → Prop} {id : Nat} {a : Act} {w : World}
theorem cl2 {a0 a1 : Addr} {v0 v1 : Value} (h0 : w.cell? a0 = some v0) (h1 : w.cell? a1 = some v1) : ∀ w', Below w.heap.size w w' → w'.cell? a0 = some v0 ∧ w'.cell? a1 = some v1 := fun w' hb => ⟨(hb.cell (lt_of_cellq h0)).trans h0, (hb.cell (lt_of_cellq h1)).trans h1⟩
theorem held2 {a0 a1 : Addr} {v0 v1 : Value} (h0 : w.cell? a0 = some v0) (h1 : w.cell? a1 = some v1)
    (k : ∀ W0, Below w.heap.size w W0 → wpAnyH P .any ops Q (fun w' => w'.cell? a0 = some v0 ∧ w'.cell? a1 = some v1) ops.size (Array.replicate ops.size false) a W0)
    (hm : P.follows .mixedOrders = true := by kernel_rfl) : (Code.region id ops true).wp P Q a w :=
  wp_region_held_drew (S := fun w' => w'.cell? a0 = some v0 ∧ w'.cell? a1 = some v1) hm (cl2 h0 h1 _ (Below.refl _ _).drew) (fun _ => k _ (Below.refl _ _).drew)
theorem cl3 {a0 a1 a2 : Addr} {v0 v1 v2 : Value} (h0 : w.cell? a0 = some v0) (h1 : w.cell? a1 = some v1) (h2 : w.cell? a2 = some v2) : ∀ w', Below w.heap.size w w' → w'.cell? a0 = some v0 ∧ w'.cell? a1 = some v1 ∧ w'.cell? a2 = some v2 := fun w' hb => ⟨(hb.cell (lt_of_cellq h0)).trans h0, (hb.cell (lt_of_cellq h1)).trans h1, (hb.cell (lt_of_cellq h2)).trans h2⟩
theorem held3 {a0 a1 a2 : Addr} {v0 v1 v2 : Value} (h0 : w.cell? a0 = some v0) (h1 : w.cell? a1 = some v1) (h2 : w.cell? a2 = some v2)
    (k : ∀ W0, Below w.heap.size w W0 → wpAnyH P .any ops Q (fun w' => w'.cell? a0 = some v0 ∧ w'.cell? a1 = some v1 ∧ w'.cell? a2 = some v2) ops.size (Array.replicate ops.size false) a W0)
    (hm : P.follows .mixedOrders = true := by kernel_rfl) : (Code.region id ops true).wp P Q a w :=
  wp_region_held_drew (S := fun w' => w'.cell? a0 = some v0 ∧ w'.cell? a1 = some v1 ∧ w'.cell? a2 = some v2) hm (cl3 h0 h1 h2 _ (Below.refl _ _).drew) (fun _ => k _ (Below.refl _ _).drew)
theorem tu {md : Region.Mode} {S : World → Prop} (i : Nat) {oi : Oper} {d : Nat} {fuel : Nat} {listed : Array Bool} {a : Act} {w : World} (hi : ops[i]? = some oi) (hS : S w)
    (h : wpAnyH P md ops Q S fuel (listed.setIfInBounds i true) { a with tmps := a.tmps.setIfInBounds d undef } w)
    (hs : Region.noSelect ops = true := by kernel_rfl) (hf : Region.free md ops listed i = true := by kernel_rfl) (hr : (Region.ready md ops listed).contains i = true := by kernel_rfl)
    (hd : oi.dst = some d := by rfl)
    (hQ : ∀ c a w, Q (.panic c) (a.put oi.dst undef) w → Q (.panic c) a w := by intro _ _ _ h; first | exact h | (exact absurd h.1 (by intro hh; cases hh)))
    (hw : Region.wanted oi (yielded ops a.tmps) = false := by kernel_rfl) : wpAnyH P md ops Q S (fuel + 1) listed a w :=
  wpAnyH_take hi hs hf hr hQ (Or.inr ⟨hw, rfl⟩) hS (by rw [hd]; exact h)
end
end Go.Proofs.YtlednchfifphgabGreatDoor
end

section
namespace Go.Proofs.YtlednchfifphgabGreatDoor
open Go Go.RowKit Go.Proofs
set_option linter.unusedVariables false
set_option linter.unusedSimpArgs false
attribute [local go_sem] imax2 imin2

theorem run_append_src {P : Program} (w : World) (base : Nat) (t ty e : TypeId) (i : TypeInfo) (z : Value) (size bytes : Nat) (ht : P.underlying t = some (.slice e)) (hi : P.info? e = some i) (hz : i.zero = some z)
    (hsize : i.size = size) (hby : i.bytes = bytes) (hzs : z.cells.size = size) (hsz : 0 < size)
    (v : Value) (n : Nat) (xs : List Value) (hown : w.ownsRow base e size v n xs)
    (po : Option Addr) (m c : Nat) (news : List Value) (hl : news.length = m * size) (hnews : m = 0 ∨ ∃ ad, po = some ad ∧ ∀ j u, news[j]? = some u → w.cell? (ad.add j) = some u) (h1 : ∀ u ∈ news, u.oneCell' = true)
    (h63 : n + m ≤ maxLen) (hbytes : (n + m) * bytes ≤ 140737488355328) (hbase : base ≤ w.heap.size) :
    ∃ v' w', (Builtin.append_ #[t, t] ty #[v, .slice po m c]).run P w = .ok v' w' ∧ w'.ownsRow base e size v' (n + m) (xs ++ news) ∧ w.grownBy w' v.ownBlock ∧ (v'.ownBlock = v.ownBlock ∨ v'.ownBlock = some w.heap.size) := by
  by_cases hm : m = 0
  · subst hm
    have hn : news = [] := List.length_eq_zero_iff.1 (by rw [hl, Nat.zero_mul]); subst hn
    have hs : Src P i.size t (.slice po 0 c) 0 [] w := by
      cases po with
      | none => exact Src.ofNil w ht c
      | some a => exact Src.ofSlice w ht a 0 c [] (by simp) (by intro j u hu; simp at hu) (by intro u hu; cases hu)
    rcases hown.2 with ⟨rfl, rfl⟩ | ⟨g, cap, cur, rfl, hb, hg, hnc, hrest⟩
    · exact ⟨_, w, run_append_nothing w t t ty e i ht hi none 0 0 (Nat.le_refl _) _ hs, by simpa using hown, World.grownBy.refl _ _, .inl rfl⟩
    · exact ⟨_, w, run_append_nothing w t t ty e i ht hi (some ⟨g, 0, none⟩) n cap hnc _ hs, by simpa using hown, World.grownBy.refl _ _, .inl rfl⟩
  · obtain ⟨ad, rfl, hc⟩ := hnews.resolve_left hm
    obtain ⟨v', w', hr, h2, h3, _, h5⟩ := run_append_own_at (P := P) w base t ty e i z size bytes ht hi hz hsize hby hzs hsz v n xs hown ad m c news hl hc h1 h63 hbytes hbase; exact ⟨v', w', hr, h2, h3, h5⟩
theorem wpList_append_src {P : Program} (w : World) {ops : Array Oper} {rest : List Oper} {o : Oper} {a : Act} {Q : Exit → Act → World → Prop} (hgd : o.guard = none) (s x : Operand) (t : TypeId)
    (ho : o.op = .call { callee := .builtin .append, args := #[s, x], argTypes := #[t, t] })
    (base : Nat) (e : TypeId) (i : TypeInfo) (z : Value) (size bytes : Nat) (ht : P.underlying t = some (.slice e)) (hi : P.info? e = some i) (hz : i.zero = some z)
    (hsize : i.size = size) (hby : i.bytes = bytes) (hzs : z.cells.size = size) (hsz : 0 < size)
    (v : Value) (n : Nat) (xs : List Value) (hs : a.eval s = v) (hown : w.ownsRow base e size v n xs)
    (po : Option Addr) (m c : Nat) (news : List Value) (hx : a.eval x = .slice po m c) (hl : news.length = m * size) (hnews : m = 0 ∨ ∃ ad, po = some ad ∧ ∀ j u, news[j]? = some u → w.cell? (ad.add j) = some u) (h1 : ∀ u ∈ news, u.oneCell' = true)
    (h63 : n + m ≤ maxLen) (hbytes : (n + m) * bytes ≤ 140737488355328) (hbase : base ≤ w.heap.size)
    (h : ∀ v' w', w'.ownsRow base e size v' (n + m) (xs ++ news) → w.grownBy w' v.ownBlock → (v'.ownBlock = v.ownBlock ∨ v'.ownBlock = some w.heap.size) → wpList P ops Q rest (a.put o.dst v') w') : wpList P ops Q (o :: rest) a w :=
  wpList_plain hgd fun K hK => by
    obtain ⟨v', w', hr, h2, h3, h5⟩ := run_append_src (P := P) w base t o.type e i z size bytes ht hi hz hsize hby hzs hsz v n xs hown po m c news hl hnews h1 h63 hbytes hbase; unfold Oper.wp execOp; simp only [ho, resolve, invoke, builtin, Sem.run_bind, Sem.run_pure, Result.andThen_ok, List.map_toArray, List.map_cons, List.map_nil, hs, hx, hr]; exact hK _ _ (h v' w' h2 h3 h5)

theorem append_keeps {P : Program} (w : World) (t ty e : TypeId) (i : TypeInfo) (z : Value) (base size bytes : Nat) (ht : P.underlying t = some (.slice e)) (hi : P.info? e = some i) (hz : i.zero = some z) (hsize : i.size = size) (hby : i.bytes = bytes)
    (g n cap : Nat) (xs : List Value) (hown : w.ownsRow base e size (.slice (some ⟨g, 0, none⟩) n cap) n xs)
    (ad : Addr) (m c : Nat) (news : List Value) (hl : news.length = m * size) (hnews : ∀ j u, news[j]? = some u → w.cell? (ad.add j) = some u) (h1 : ∀ u ∈ news, u.oneCell' = true)
    (h63 : n + m ≤ maxLen) (hbytes : (n + m) * bytes ≤ 140737488355328) {v' : Value} {w' : World}
    (hr : (Builtin.append_ #[t, t] ty #[.slice (some ⟨g, 0, none⟩) n cap, .slice (some ad) m c]).run P w = .ok v' w') : ∀ j u, xs[j]? = some u → w'.cell? ⟨g, j, none⟩ = some u := by
  subst hsize; subst hby
  have holds := hown.cells (g := g) rfl
  have hlt : g < w.heap.size := by
    obtain ⟨g', _, h, _, h2⟩ := (show ∃ g' cap', (Value.slice (some ⟨g, 0, none⟩) n cap) = .slice (some ⟨g', 0, none⟩) n cap' ∧ base ≤ g' ∧ g' < w.heap.size from by
      rcases hown.2 with ⟨h, _⟩ | ⟨g', cap', cur, h, hbg, hg, _⟩
      · cases h
      · refine ⟨g', cap', h, hbg, ?_⟩
        rcases Nat.lt_or_ge g' w.heap.size with h1 | h1
        · exact h1
        · rw [Array.getElem?_eq_none h1] at hg; cases hg)
    cases h; exact h2
  rcases hown.2 with ⟨h, _⟩ | ⟨g', cap', cur, h, hbg, hg, hnc, hcm, hcs, htake⟩
  · cases h
  · cases h
    by_cases hroom : n + m ≤ cap
    · have hfit : n * i.size + news.length ≤ cur.size := by rw [hl, hcs, ← Nat.add_mul]; exact Nat.mul_le_mul_right _ hroom
      rw [run_append_room (P := P) w t ty e i ht hi g n cap cur hg ad m c news hl hnews h1 hroom hfit] at hr
      cases hr
      intro j u hj; rw [cell_of_row _ g j _ e (0, 0) (setRow_heap w g cur _ e _ hg), htake]; have hj' : j < xs.length := (List.getElem?_eq_some_iff.1 hj).1; simp only [List.getElem?_toArray]; rw [List.append_assoc, List.getElem?_append_left hj']; exact hj
    · have hsmall : n + m ≤ 9223372036854775807 := by simp only [maxLen] at h63; omega
      rw [run_append_grow (P := P) w t ty e i z ht hi hz ⟨g, 0, none⟩ n cap xs hown.1 holds ad m c news hl hnews (by omega) (by omega) (growslice_fits (by omega) hbytes)] at hr
      cases hr
      intro j u hj; have h := holds j u hj; rw [add_new] at h; rw [World.cell?_alloc_lt _ _ _ (by simpa using hlt)]; exact h
theorem step_append_keep {P : Program} (w : World) {ops : Array Oper} {o : Oper} {a : Act} {K : Act → World → Prop} {Q : Exit → Act → World → Prop} {E : Prop} (hgd : o.guard = none) (s x : Operand) (t : TypeId)
    (ho : o.op = .call { callee := .builtin .append, args := #[s, x], argTypes := #[t, t] })
    (base : Nat) (e : TypeId) (i : TypeInfo) (z : Value) (size bytes : Nat) (ht : P.underlying t = some (.slice e)) (hi : P.info? e = some i) (hz : i.zero = some z)
    (hsize : i.size = size) (hby : i.bytes = bytes) (hzs : z.cells.size = size) (hsz : 0 < size)
    (g n cap : Nat) (xs : List Value) (hs : a.eval s = .slice (some ⟨g, 0, none⟩) n cap) (hown : w.ownsRow base e size (.slice (some ⟨g, 0, none⟩) n cap) n xs)
    (ad : Addr) (m c : Nat) (news : List Value) (hx : a.eval x = .slice (some ad) m c) (hl : news.length = m * size) (hnews : ∀ j u, news[j]? = some u → w.cell? (ad.add j) = some u) (h1 : ∀ u ∈ news, u.oneCell' = true)
    (h63 : n + m ≤ maxLen) (hbytes : (n + m) * bytes ≤ 140737488355328) (hbase : base ≤ w.heap.size)
    (h : ∀ v' w', w'.ownsRow base e size v' (n + m) (xs ++ news) → w.grownBy w' (some g) → (∀ j u, xs[j]? = some u → w'.cell? ⟨g, j, none⟩ = some u) → K (a.put o.dst v') w') :
    if Region.wanted o (yielded ops a.tmps) = true then Oper.wp P o a w K Q else E := by
  have hw : Region.wanted o (yielded ops a.tmps) = true := by simp [Region.wanted, hgd]
  rw [if_pos hw]; obtain ⟨v', w', hr, h2, h3, _, h5⟩ := run_append_own_at (P := P) w base t o.type e i z size bytes ht hi hz hsize hby hzs hsz _ n xs hown ad m c news hl hnews h1 h63 hbytes hbase; have hk := append_keeps w t o.type e i z base size bytes ht hi hz hsize hby g n cap xs hown ad m c news hl hnews h1 h63 hbytes hr; unfold Oper.wp execOp; simp only [ho, resolve, invoke, builtin, Sem.run_bind, Sem.run_pure, Result.andThen_ok, List.map_toArray, List.map_cons, List.map_nil, hs, hx, hr]; exact h v' w' h2 h3 hk

def IntsPost (xs : List Int) (w : World) (e : Ending) (w' : World) : Prop :=
  ∃ g cap, e = .returned (.slice (some ⟨g, 0, none⟩) xs.length cap) ∧ w'.ownsRow w.heap.size 3 1 (.slice (some ⟨g, 0, none⟩) xs.length cap) xs.length (inV xs) ∧ Below w.heap.size w w'
theorem mv_range {pl pc : List Int} (hp : PlOk pl) (hch : Chain pl pc) (hr : ∀ i, i < pc.length → -100000 ≤ gi pc i ∧ gi pc i ≤ 100000) {m : Int} (hm : -100000 ≤ m ∧ m ≤ 100000) : ∀ k, k ≤ pl.length → -300000 ≤ gi (mvF pl pc m) k ∧ gi (mvF pl pc m) k ≤ 300000 := by
  intro k hk; have hpos : Pos pl := fun i hi => (hp.in' i hi).1
  have h1 := (mvF_chain hpos hch m).top k hk; have h2 := (mvF_chain hpos hch m).low k hk; have h3 := hp.sum k hk; rw [mvF_zero] at h1 h2; have h4 := hr 0 (by rw [hch.len]; omega); omega
set_option maxHeartbeats 800000 in
set_option maxRecDepth 100000 in
theorem r_Moved (pp : Option Addr) (cp n : Nat) (pc : List Int) (q : Option Addr) (cq : Nat) (pl : List Int) (m : Int) (w : World) (hpc : RdI w pp pc) (hn : pc.length = n) (hq : RdI w q pl) (hp : PlOk pl) (hch : Chain pl pc) (hr : ∀ i, i < pc.length → -100000 ≤ gi pc i ∧ gi pc i ≤ 100000) (hm : -100000 ≤ m ∧ m ≤ 100000) :
    Calls Tryz.prog 126 #[.slice pp n cp, .slice q pl.length cq, .int .i64 m] w (IntsPost (mvF pl pc m) w) := by
  obtain ⟨i0, hi0, hz0, hz1, hz2⟩ := info_parts infI; have hpos : Pos pl := fun i hi => (hp.in' i hi).1
  have hlen := hch.len; obtain ⟨b, off, rfl, hc⟩ := hpc.at (i := 0) (by rw [hlen]; omega); have d0 := hc 0 (by rw [hlen]; omega); rw [Nat.add_zero] at d0; have h0 := hr 0 (by rw [hlen]; omega); have hz := mvF_zero pl pc m; have HM := Lib.hid (show (mvF pl pc m).length = pl.length + 1 from mvF_len pl pc m); have HST := Lib.hid (fun (k : Nat) (hk : k < pl.length) => (mvF_stepRef (m := m) hpos hch k hk)); have HRM := Lib.hid (mv_range hp hch hr hm); have HC := Lib.hid (show ∀ i, i < pl.length + 1 → w.cell? ⟨b, off + i, none⟩ = some (.int .i64 (gi pc i)) from fun i hi => hc i (by rw [hlen]; exact hi)); have HR := Lib.hid (show ∀ i, i < pl.length + 1 → -100000 ≤ gi pc i ∧ gi pc i ≤ 100000 from fun i hi => hr i (by rw [hlen]; exact hi)); have HP := Lib.hid hp; have HQ := Lib.hid hq; obtain rfl : n = pl.length + 1 := by rw [← hn, hlen]
  obtain ⟨M, hMe⟩ : ∃ M, mvF pl pc m = M := ⟨_, rfl⟩; rw [hMe] at HM HST HRM hz ⊢; obtain ⟨X0, hX0⟩ : ∃ x, gi pc 0 = x := ⟨_, rfl⟩; rw [hX0] at d0 h0 hz; have hw0 : IntKind.i64.wrap (X0 + m) = X0 + m := w64 _ (by omega) (by omega); have hrow := World.ownsRow_lit (base := w.heap.size) (e := 3) (size := 1) w #[.int .i64 (X0 + m)] 1 (Nat.le_refl _) (by unfold maxLen; omega) (by simp); obtain ⟨w2, e2, HS2, _, _, b2⟩ := box1 w (.int .i64 (X0 + m)) 3; rw [e2] at hrow
  have HO0 := Lib.hid (show w2.ownsRow w.heap.size 3 1 (.slice (some ⟨w.heap.size, 0, none⟩) 1 1) 1 (inV (M.take 1)) by
    have : M.take 1 = [X0 + m] := by
      rw [show (1 : Nat) = 0 + 1 by rfl, List.take_succ_eq_append_getElem (by rw [HM.out]; omega), ← gi_get M 0 (by rw [HM.out]; omega), hz]; rfl
    rw [this]; exact hrow)
  have HB2 := Lib.hid b2; have hlP := hp.len; clear hpc hq hp hc hr hn hch hpos hMe hX0 hrow b2 hz hlen
  go_enter Tryz.func126, Tryz.ntmps126
  go_wp2; clear e2
  go_loopw [7, 8] (fun v i wr => ∃ k : Nat, k ≤ pl.length ∧ i = .int .i64 k ∧ (∃ g cap, v = .slice (some ⟨g, 0, none⟩) (k + 1) cap ∧ Hid (wr.ownsRow w.heap.size 3 1 (.slice (some ⟨g, 0, none⟩) (k + 1) cap) (k + 1) (inV (M.take (k + 1))))) ∧ Hid (Below w.heap.size w wr)) (fun _ i _ => pl.length - (intOf i).toNat)
  case atStart => exact ⟨0, Nat.zero_le _, rfl, ⟨_, _, rfl, HO0⟩, HB2⟩
  case round =>
    obtain ⟨k, hk, rfl, ⟨g, cap, rfl, HO⟩, HN⟩ := hrel
    by_cases hlt : k < pl.length
    · have hki : (k : Int) < (pl.length : Int) := by omega
      obtain ⟨bq, oq, rfl, hcq⟩ := HQ.out.at hlt; have HQB := Lib.hid (show bq < w.heap.size from lt_of_cellq (hcq k hlt)); have HPB := Lib.hid (show b < w.heap.size from lt_of_cellq (HC.out (k + 1) (by omega))); have HGB := Lib.hid (show w.heap.size ≤ g from (HO.out.lt g rfl).1); have e1 := (HN.out.cell (lt_of_cellq (hcq k hlt))).trans (hcq k hlt)
      have e2 : wr.cell? ⟨g, k, none⟩ = some (.int .i64 (gi M k)) := by
        have h := own_cell HO.out (j := k) (by rw [List.length_take, HM.out]; omega); rw [gi_take _ _ _ (by omega)] at h; exact h
      have h0k : (0 : Int) ≤ (k : Int) := by omega
      have hkk : (k : Int) < (k : Int) + 1 := by omega
      have hkk1 : (0 : Int) ≤ (k : Int) + 1 := by omega
      have hkk2 : (k : Int) + 1 < (pl.length : Int) + 1 := by omega
      have e3 := (HN.out.cell (lt_of_cellq (HC.out (k + 1) (by omega)))).trans (HC.out (k + 1) (by omega)); have hst := HST.out k hlt; have hr1 := HRM.out k hk; have hr2 := HR.out (k + 1) (by omega); have hr3 := HP.out.in' k hlt
      have HT := Lib.hid (show inV (M.take (k + 1 + 1)) = inV (M.take (k + 1)) ++ [.int .i64 (gi M (k + 1))] by
        rw [List.take_succ_eq_append_getElem (by rw [HM.out]; omega), inV_append, gi_get M (k + 1) (by rw [HM.out]; omega)]; rfl)
      obtain ⟨A, hA⟩ : ∃ A, gi M k = A := ⟨_, rfl⟩; obtain ⟨X, hX⟩ : ∃ X, gi pc (k + 1) = X := ⟨_, rfl⟩; obtain ⟨Y, hY⟩ : ∃ Y, gi M (k + 1) = Y := ⟨_, rfl⟩; obtain ⟨P, hP⟩ : ∃ P, gi pl k = P := ⟨_, rfl⟩; have HMA := Lib.hid hA; rw [hA] at e2 hst hr1; rw [hX] at e3 hst hr2; rw [hY] at hst HT; rw [hP] at e1 hst hr3; have HSQ := Lib.hid hst; have hw1 : IntKind.i64.wrap (A - P) = A - P := w64 _ (by omega) (by omega); have hw2 : IntKind.i64.wrap ((k : Int) + 1) = (k : Int) + 1 := w64 _ (by omega) (by omega); have HKS := Lib.hid (show (k : Int) + 1 = ((k + 1 : Nat) : Int) by omega); clear hcq hA hX hY hP hst; go_wp2; have HSB := Lib.hid (cl3 e1 e2 e3); refine held3 e1 e2 e3 (fun W0 HB0 => ?_); refine tk 0 rfl (by exact HSB.out _ HB0) ?_; (try simp only [Act.put, ptL]); refine tk 1 rfl (by exact HSB.out _ HB0) ?_; (try simp only [Act.put, ptL]); refine tk 2 rfl (by exact HSB.out _ HB0) ?_; (try simp only [Act.put, ptL]); refine tk 3 rfl (by exact HSB.out _ HB0) ?_; (try simp only [Act.put, ptL]); refine tk 4 rfl (by exact HSB.out _ HB0) ?_; (try simp only [Act.put, ptL]); refine tk 5 rfl (by exact HSB.out _ HB0) ?_; (try simp only [Act.put, ptL]); refine tk 6 rfl (by exact HSB.out _ HB0) ?_; (try simp only [Act.put, ptL]); refine tk 7 rfl (by exact HSB.out _ HB0) ?_; (try simp only [Act.put, ptL]); refine tk 8 rfl (by exact HSB.out _ HB0) ?_; (try simp only [Act.put, ptL]); refine tk 9 rfl (by exact HSB.out _ HB0) ?_; (try simp only [Act.put, ptL]); refine tk 10 rfl (by exact HSB.out _ HB0) ?_; (try simp only [Act.put, ptL]); refine tk 11 rfl (by exact HSB.out _ HB0) ?_; (try simp only [Act.put, ptL]); refine tk 12 rfl (by exact HSB.out _ HB0) ?_; (try simp only [Act.put, ptL]); refine tk 13 rfl (by exact HSB.out _ HB0) ?_; (try simp only [Act.put, ptL]); refine tk 14 rfl (by exact HSB.out _ HB0) ?_; (try simp only [Act.put, ptL]); refine tk 15 rfl (by exact HSB.out _ HB0) ?_; (try simp only [Act.put, ptL]); refine tk 16 rfl (by exact HSB.out _ HB0) ?_; (try simp only [Act.put, ptL]); refine tk 17 rfl (by exact HSB.out _ HB0) ?_; (try simp only [Act.put, ptL]); refine tk 18 rfl (by exact HSB.out _ HB0) ?_; (try simp only [Act.put, ptL]); refine tk 19 rfl (by exact HSB.out _ HB0) ?_; (try simp only [Act.put, ptL]); refine tk 20 rfl (by exact HSB.out _ HB0) ?_; (try simp only [Act.put, ptL])
      refine rz1 21 rfl ?_; intro K hK; go_simp; refine kz hK (by exact HSB.out _ (HB0.alloc HB0.size _)) ?_; clear hK K; (try simp only [Act.put, ptL]); have hO1 := (own_kept HO.out HB0).alloc (.cells #[.int .i64 (min A (max (A - P) X))] 3); have hB1 := HB0.alloc HB0.size (.cells #[.int .i64 (min A (max (A - P) X))] 3); refine rz1 22 rfl ?_; intro K hK; refine step_append_keep _ rfl _ _ 23 rfl w.heap.size 3 i0 _ 1 8 Tryz.underlying23 hi0 hz0 hz1 hz2 rfl (by decide) g (k + 1) cap _ rfl hO1 ⟨W0.heap.size, 0, none⟩ 1 1 [.int .i64 (min A (max (A - P) X))] rfl rfl (news_of W0 _ _) (by intro u hu; simp at hu; subst hu; rfl) (by unfold maxLen; omega) (by omega) (by have := HN.out.size; have := hB1.size; omega) ?_; intro v' w3 hown' hgrow hkeep; have hB3 := (HN.out.trans (hB1.mono HN.out.size)).grown hgrow (by have := HN.out.size; have := hB1.size; omega) (fun j hj => (hO1.lt j hj).1); have f2 := hkeep k (.int .i64 A) (by rw [inV_get _ _ (by rw [List.length_take, HM.out]; omega), gi_take _ _ _ (by omega), HMA.out])
      have f1 := (hgrow.cell_far ⟨bq, oq + k, none⟩ (lt_of_cellq ((hB1.cell (lt_of_cellq e1)).trans e1)) (by have := HQB.out; have := HGB.out; simp; omega)).trans ((hB1.cell (lt_of_cellq e1)).trans e1); have f3 := (hgrow.cell_far ⟨b, off + (k + 1), none⟩ (lt_of_cellq ((hB1.cell (lt_of_cellq e3)).trans e3)) (by have := HPB.out; have := HGB.out; simp; omega)).trans ((hB1.cell (lt_of_cellq e3)).trans e3); refine kz hK (by exact ⟨f1, f2, f3⟩) ?_; clear hK K; (try simp only [Act.put, ptL]); obtain ⟨g', cap', rfl⟩ := own_form hown'; refine tk 23 rfl (by exact ⟨f1, f2, f3⟩) ?_; (try simp only [Act.put, ptL]); refine wpAnyH_done (by kernel_rfl) ?_ _; have HO' := Lib.hid hown'; have HN' := Lib.hid hB3; clear hown' hgrow hkeep f1 f2 f3 hO1 hB1 hB3 HB0 HSB e1 e2 e3; go_wp2; go_roundw
      case rel =>
        refine ⟨k + 1, by omega, by go_num, ⟨g', cap', rfl, Lib.hid ?_⟩, HN'⟩; rw [HT.out, HSQ.out]; exact HO'.out
      case measure => simp [intOf]; omega
    · obtain rfl : k = pl.length := by omega
      have hki : ¬ (pl.length : Int) < (pl.length : Int) := by omega
      go_wp2; go_ret; refine ⟨g, cap, by rw [HM.out]; rfl, ?_, HN.out⟩; have h := HO.out; rw [List.take_of_length_le (by rw [HM.out]; exact Nat.le_refl _)] at h; rw [HM.out]; exact h
def ElV (w : World) (B : Nat) (css : List (List Int)) (hs : List Value) : Prop := hs.length = css.length ∧ ∀ i, i < css.length → ∃ v, hs[i]? = some v ∧ w.ownsRow B 3 1 v (gl css i).length (inV (gl css i))
theorem ElV.below {w w' : World} {B : Nat} {css : List (List Int)} {hs : List Value} (h : ElV w B css hs) (hb : Below w.heap.size w w') : ElV w' B css hs := by
  refine ⟨h.1, fun i hi => ?_⟩; obtain ⟨v, e1, e2⟩ := h.2 i hi; exact ⟨v, e1, own_kept e2 hb⟩
theorem ElV.mono {w : World} {B B' : Nat} {css : List (List Int)} {hs : List Value} (h : ElV w B css hs) (hB : B' ≤ B) : ElV w B' css hs := by
  refine ⟨h.1, fun i hi => ?_⟩; obtain ⟨v, e1, e2⟩ := h.2 i hi; exact ⟨v, e1, own_mono e2 hB⟩
theorem ElV.grown {w w' : World} {B B' n size e : Nat} {css : List (List Int)} {hs xs : List Value} {v : Value} (h : ElV w B css hs) (ho : w.ownsRow B' e size v n xs) (he : e ≠ 3) (hg : w.grownBy w' v.ownBlock) : ElV w' B css hs := by
  refine ⟨h.1, fun i hi => ?_⟩; obtain ⟨u, e1, e2⟩ := h.2 i hi; exact ⟨u, e1, e2.kept hg (own_apart e2 ho (Ne.symm he))⟩
theorem ElV.snoc {w : World} {B : Nat} {css : List (List Int)} {hs : List Value} {x : List Int} {v : Value} (h : ElV w B css hs) (hx : w.ownsRow B 3 1 v x.length (inV x)) : ElV w B (css ++ [x]) (hs ++ [v]) := by
  refine ⟨by simp [h.1], fun i hi => ?_⟩; rw [List.length_append, List.length_singleton] at hi; rw [gl_snoc]
  by_cases h1 : i < css.length
  · obtain ⟨u, e1, e2⟩ := h.2 i h1
    rw [if_pos h1]; exact ⟨u, by rw [List.getElem?_append_left (by rw [h.1]; omega)]; exact e1, e2⟩
  · obtain rfl : i = css.length := by omega
    rw [if_neg h1, if_pos rfl]; exact ⟨v, by rw [← h.1]; simp, hx⟩
def OwLs (w : World) (B : Nat) (v : Value) (ls : List (List Int)) : Prop := ∃ hs, w.ownsRow B 23 1 v ls.length hs ∧ ElV w B ls hs
theorem OwLs.nil (w : World) (B : Nat) : OwLs w B (.slice none 0 0) [] := ⟨[], World.ownsRow_nil _ _ _ _, rfl, fun i hi => by simp at hi⟩
theorem OwLs.below {w w' : World} {B : Nat} {v : Value} {ls : List (List Int)} (h : OwLs w B v ls) (hb : Below w.heap.size w w') : OwLs w' B v ls := by
  obtain ⟨hs, h1, h2⟩ := h; exact ⟨hs, own_kept h1 hb, h2.below hb⟩
theorem OwLs.mono {w : World} {B B' : Nat} {v : Value} {ls : List (List Int)} (h : OwLs w B v ls) (hB : B' ≤ B) : OwLs w B' v ls := by
  obtain ⟨hs, h1, h2⟩ := h; exact ⟨hs, own_mono h1 hB, h2.mono hB⟩
theorem OwLs.read {w : World} {B : Nat} {v : Value} {ls : List (List Int)} (h : OwLs w B v ls) : ∃ q c, v = .slice q ls.length c ∧ RdLs w q ls := by
  obtain ⟨hs, h1, h2⟩ := h
  rcases h1.2 with ⟨rfl, h0⟩ | ⟨g, cap, cur, rfl, hrest⟩
  · have : ls = [] := List.length_eq_zero_iff.1 h0
    subst this; exact ⟨none, 0, rfl, .inl rfl⟩
  · refine ⟨some ⟨g, 0, none⟩, cap, rfl, .inr ⟨g, 0, rfl, fun i hi => ?_⟩⟩
    obtain ⟨u, e1, e2⟩ := h2.2 i hi; obtain ⟨q, c, hu, hr⟩ := rd_of_own e2; subst hu; have h3 := h1.cells (g := g) rfl i _ e1; rw [add_new] at h3; exact ⟨q, c, by rw [Nat.zero_add]; exact h3, hr⟩
def LsPost (ls : List (List Int)) (w : World) (e : Ending) (w' : World) : Prop := (∃ v, e = .returned v ∧ OwLs w' w.heap.size v ls) ∧ Below w.heap.size w w'
theorem OwLs.app {w w' : World} {B : Nat} {v v' u : Value} {ls : List (List Int)} {x : List Int} {hs : List Value} (h1 : w.ownsRow B 23 1 v ls.length hs) (h2 : ElV w B ls hs) (hu : w.ownsRow B 3 1 u x.length (inV x)) (hg : w.grownBy w' v.ownBlock) (ho : w'.ownsRow B 23 1 v' (ls.length + 1) (hs ++ [u])) : OwLs w' B v' (ls ++ [x]) := by
  refine ⟨hs ++ [u], by rw [List.length_append]; exact ho, ?_⟩; exact (h2.grown h1 (by decide) hg).snoc (hu.kept hg (own_apart hu h1 (by decide)))
end Go.Proofs.YtlednchfifphgabGreatDoor
end

section
namespace Go.Proofs.YtlednchfifphgabGreatDoor
open Go Go.RowKit Go.Proofs
set_option linter.unusedVariables false
set_option linter.unusedSimpArgs false
attribute [local go_sem] imax2 imin2

set_option maxHeartbeats 1600000 in
set_option maxRecDepth 100000 in
theorem r_Run (pm pv pr : Option Addr) (cm cv cr : Nat) (p : Pc) (q : Option Addr) (cq : Nat) (pl : List Int) (w : World) (hp : RdP w pm pv pr p) (hq : RdI w q pl) (hpo : PieceOk p) (hpl : PlaysOk p pl) :
    Calls Tryz.prog 80 #[.agg #[.slice pm p.ms.length cm, .slice pv p.mv.length cv, .slice pr p.rs.length cr], .slice q pl.length cq] w (LsPost (allF pl p.mv p.mv.length) w) := by
  obtain ⟨i0, hi0, hz0, hz1, hz2⟩ := info_parts infI; obtain ⟨j0, hj0, hy0, hy1, hy2⟩ := info_parts infL; obtain ⟨w1, e1, HS1, k0, k1, k2, b1⟩ := box3 w (.slice pm p.ms.length cm) (.slice pv p.mv.length cv) (.slice pr p.rs.length cr) 26; have hpk := hpl.plok hpo
  have hrow : (w1.alloc (.cells #[.int .i64 0] 3)).ownsRow w1.heap.size 3 1 (.slice (some ⟨w1.heap.size, 0, none⟩) 1 1) 1 (inV (begTo pl 0)) := by
    rw [begTo_zero]; exact World.ownsRow_lit w1 #[.int .i64 0] 1 (Nat.le_refl _) (by unfold maxLen; omega) (by simp)
  obtain ⟨w2, e2, HS2, _, _, b2⟩ := box1 w1 (.int .i64 0) 3; rw [e2] at hrow; have HO0 := Lib.hid hrow; have HB2 := Lib.hid b2; have HB1 := Lib.hid b1; have HV := Lib.hid (hp.mv.below b1); have HQ := Lib.hid (hq.below b1); have HP := Lib.hid hpk; have HPO := Lib.hid hpo; have HPL := Lib.hid hpl; have K1 := Lib.hid k1; have hl := hpk.len; clear hp hq hpo hpl hpk hrow b1 b2 k0 k1 k2
  go_enter Tryz.func80, Tryz.ntmps80
  go_wp2; clear e1 e2
  go_loopw [5, 6] (fun v i wr => ∃ k : Nat, k ≤ pl.length ∧ i = .int .i64 k ∧ (∃ g cap, v = .slice (some ⟨g, 0, none⟩) (k + 1) cap ∧ Hid (wr.ownsRow w1.heap.size 3 1 (.slice (some ⟨g, 0, none⟩) (k + 1) cap) (k + 1) (inV (begTo pl k)))) ∧ Below w1.heap.size w1 wr) (fun _ i _ => pl.length - (intOf i).toNat)
  case atStart => exact ⟨0, by omega, rfl, ⟨w1.heap.size, 1, rfl, HO0⟩, HB2.out⟩
  case round =>
    obtain ⟨k, hk, rfl, ⟨g, cap, rfl, HO⟩, hnx⟩ := hrel; have HN := Lib.hid hnx
    by_cases hlt : k < pl.length
    · have hki : (k : Int) < (pl.length : Int) := by omega
      have h0k : (0 : Int) ≤ (k : Int) := by omega
      have hkk : (k : Int) < (k : Int) + 1 := by omega
      obtain ⟨b, off, rfl, hc⟩ := HQ.out.at hlt; have HQB := Lib.hid (show b < w1.heap.size from lt_of_cellq (hc k hlt)); have HGB := Lib.hid (show w1.heap.size ≤ g from (HO.out.lt g rfl).1); have e1 := (HN.out.cell (lt_of_cellq (hc k hlt))).trans (hc k hlt); have e2 := own_cell HO.out (j := k) (by rw [begTo_len]; omega); have hsk := HP.out.sum k (by omega); have hsp := HP.out.in' k hlt; have HE := Lib.hid (begTo_at pl k k (Nat.le_refl _)); have hw : IntKind.i64.wrap (gi (begTo pl k) k - gi pl k) = gi (begTo pl k) k - gi pl k := by rw [HE.out]; exact w64 _ (by omega) (by omega)
      have HT := Lib.hid (begTo_succ pl k); have HBL := Lib.hid (begTo_len pl k); obtain ⟨A, hA⟩ : ∃ A, gi (begTo pl k) k = A := ⟨_, rfl⟩; obtain ⟨P, hP⟩ : ∃ P, gi pl k = P := ⟨_, rfl⟩; have HMA := Lib.hid hA; rw [hA] at e2 hw HT; rw [hP] at e1 hw HT; clear hc hnx hsk hsp hA hP HE; go_wp2; have HSB := Lib.hid (cl2 e1 e2); refine held2 e1 e2 (fun W0 HB0 => ?_); refine tk 0 rfl (by exact HSB.out _ HB0) ?_; (try simp only [Act.put, ptL]); refine tk 1 rfl (by exact HSB.out _ HB0) ?_; (try simp only [Act.put, ptL]); refine tk 2 rfl (by exact HSB.out _ HB0) ?_; (try simp only [Act.put, ptL]); refine tk 3 rfl (by exact HSB.out _ HB0) ?_; (try simp only [Act.put, ptL]); refine tk 4 rfl (by exact HSB.out _ HB0) ?_; (try simp only [Act.put, ptL]); refine tk 5 rfl (by exact HSB.out _ HB0) ?_; (try simp only [Act.put, ptL]); refine tk 6 rfl (by exact HSB.out _ HB0) ?_; (try simp only [Act.put, ptL]); refine tk 7 rfl (by exact HSB.out _ HB0) ?_; (try simp only [Act.put, ptL]); refine tk 8 rfl (by exact HSB.out _ HB0) ?_; (try simp only [Act.put, ptL]); refine tk 9 rfl (by exact HSB.out _ HB0) ?_; (try simp only [Act.put, ptL])
      refine rz1 10 rfl ?_; intro K hK; go_simp; refine kz hK (by exact HSB.out _ (HB0.alloc HB0.size _)) ?_; clear hK K; (try simp only [Act.put, ptL]); have hO1 := (own_kept HO.out HB0).alloc (.cells #[.int .i64 (A - P)] 3); have hB1 := HB0.alloc HB0.size (.cells #[.int .i64 (A - P)] 3); refine rz1 11 rfl ?_; intro K hK; refine step_append_keep _ rfl _ _ 23 rfl w1.heap.size 3 i0 _ 1 8 Tryz.underlying23 hi0 hz0 hz1 hz2 rfl (by decide) g (k + 1) cap _ rfl hO1 ⟨W0.heap.size, 0, none⟩ 1 1 [.int .i64 (A - P)] rfl rfl (news_of W0 _ _) (by intro u hu; simp at hu; subst hu; rfl) (by unfold maxLen; omega) (by omega) (by have := HN.out.size; have := hB1.size; omega) ?_; intro v' w3 hown' hgrow hkeep; have hB3 := (HN.out.trans (hB1.mono HN.out.size)).grown hgrow (by have := HN.out.size; have := hB1.size; omega) (fun j hj => (hO1.lt j hj).1); have f2 := hkeep k (.int .i64 A) (by rw [inV_get _ _ (by rw [HBL.out]; omega), HMA.out])
      have f1 := (hgrow.cell_far ⟨b, off + k, none⟩ (lt_of_cellq ((hB1.cell (lt_of_cellq e1)).trans e1)) (by have := HQB.out; have := HGB.out; simp; omega)).trans ((hB1.cell (lt_of_cellq e1)).trans e1); refine kz hK (by exact ⟨f1, f2⟩) ?_; clear hK K; (try simp only [Act.put, ptL]); obtain ⟨g', cap', rfl⟩ := own_form hown'; refine tk 12 rfl (by exact ⟨f1, f2⟩) ?_; (try simp only [Act.put, ptL]); refine wpAnyH_done (by kernel_rfl) ?_ _; have HO' := Lib.hid hown'; have HN' := Lib.hid hB3; clear hown' hgrow hkeep f1 f2 hO1 hB1 hB3 HB0 HSB e1 e2; go_wp2; go_roundw
      case rel =>
        refine ⟨k + 1, by omega, by go_num, ⟨g', cap', rfl, Lib.hid ?_⟩, HN'.out⟩; rw [HT.out, inV_append]; exact HO'.out
      case measure => simp [intOf]; omega
    · obtain rfl : k = pl.length := by omega
      obtain ⟨wn, rfl⟩ : ∃ wn : World, wn = wr := ⟨_, rfl⟩; obtain ⟨w3, e3, HS3, _, _, b3⟩ := box1 wn (.slice (some ⟨g, 0, none⟩) (pl.length + 1) cap) 23; have hrow3 := World.ownsRow_lit (base := w1.heap.size) (e := 23) (size := 1) wn #[.slice (some ⟨g, 0, none⟩) (pl.length + 1) cap] 1 hnx.size (by unfold maxLen; omega) (by simp); rw [e3] at hrow3; have ho3 := own_kept HO.out b3; rw [begTo_all] at ho3; have HOW := Lib.hid (show w3.ownsRow w1.heap.size 23 1 (.slice (some ⟨wn.heap.size, 0, none⟩) (0 + 1) 1) (0 + 1) [.slice (some ⟨g, 0, none⟩) (pl.length + 1) cap] from hrow3)
      have HEL := Lib.hid (show ElC w3 w1.heap.size (allF pl p.mv 0) [.slice (some ⟨g, 0, none⟩) (pl.length + 1) cap] by
        rw [allF_zero]; refine ⟨rfl, fun i hi => ?_⟩; obtain rfl : i = 0 := by simp at hi; exact hi
        have e : (gl [begF pl] 0).length = pl.length + 1 := begF_len pl; rw [e]; exact ⟨g, cap, rfl, ho3⟩)
      have HR0 := Lib.hid (show RdI w3 (some ⟨g, 0, none⟩) (runF pl p.mv 0) from rd_of_own0 ho3); have HB3 := Lib.hid (show Below w1.heap.size w1 w3 from hnx.trans (b3.mono hnx.size)); clear hnx hlt b3 hrow3 ho3 HO HO0; go_wp2; clear e3
      go_loopw [5, 7, 8] (fun v o i wr => ∃ (k g1 c1 g cap : Nat) (hs : List Value), k ≤ p.mv.length ∧ i = .int .i64 k ∧ v = .slice (some ⟨g1, 0, none⟩) (pl.length + 1) c1 ∧ Hid (RdI wr (some ⟨g1, 0, none⟩) (runF pl p.mv k)) ∧ o = .slice (some ⟨g, 0, none⟩) (k + 1) cap ∧ Hid (wr.ownsRow w1.heap.size 23 1 (.slice (some ⟨g, 0, none⟩) (k + 1) cap) (k + 1) hs) ∧ Hid (ElC wr w1.heap.size (allF pl p.mv k) hs) ∧ Hid (Below w1.heap.size w1 wr)) (fun _ _ i _ => p.mv.length - (intOf i).toNat)
      case atStart => exact ⟨0, g, cap, wn.heap.size, 1, [.slice (some ⟨g, 0, none⟩) (pl.length + 1) cap], by omega, rfl, rfl, HR0, rfl, HOW, HEL, HB3⟩
      case round =>
        obtain ⟨k, g1, c1, g, cap, hs, hk, rfl, rfl, HRN, rfl, HO, HE, HN⟩ := hrel; have k1 := (HN.out.cell (lt_of_cellq K1.out)).trans K1.out
        by_cases hlt : k < p.mv.length
        · have hki : (k : Int) < (p.mv.length : Int) := by omega
          obtain ⟨b, off, rfl, hc⟩ := (HV.out.below HN.out).at hlt; have e1 := hc k hlt; have hm := HPO.out.move k hlt; have hch := runF_chain HPL.out.pos p.mv k
          have HCL := Lib.hid (r_Moved (some ⟨g1, 0, none⟩) c1 (pl.length + 1) (runF pl p.mv k) q cq pl (gi p.mv k) wr HRN.out hch.len (HQ.out.below HN.out) HP.out hch (fun i hi => by
            have := place_range HPO.out HPL.out k i (by omega) (by have := hch.len; omega); omega) (by omega))
          have hm8 := (piece_len HPO.out).2.1; clear hc hm hch; go_wp2_with fail; refine HCL.out.mono ?_; rintro e w4 ⟨g2, c2, he, ho4, b4⟩; rw [mvF_len] at he ho4; subst he; have HO4 := Lib.hid (own_kept HO.out b4); have HE4 := Lib.hid (HE.out.below b4); have HX4 := Lib.hid (own_mono ho4 HN.out.size); have HN4 := Lib.hid (HN.out.trans (b4.mono HN.out.size)); clear ho4 b4; go_wp2_with (at_builtin; refine wpList_append_own _ rfl _ _ 43 rfl w1.heap.size 23 j0 _ 1 24 Tryz.underlying43 hj0 hy0 hy1 hy2 rfl (by decide) _ _ _ rfl (HO4.out.alloc _) ⟨w4.heap.size, 0, none⟩ 1 1 [.slice (some ⟨g2, 0, none⟩) (pl.length + 1) c2] rfl rfl ?c1 ?c2 ?c3 ?c4 ?c5 ?_)
          case c1 => exact news_of _ _ _
          case c2 => intro u hu; simp at hu; subst hu; rfl
          case c3 => unfold maxLen; omega
          case c4 => omega
          case c5 => have := HN4.out.size; simp; omega
          intro v' w7 hown' hgrow _; obtain ⟨g', cap', rfl⟩ := own_form hown'; have HO7 := Lib.hid hown'; have HN7 := Lib.hid ((HN4.out.alloc HN4.out.size _).grown hgrow (by have := HN4.out.size; simp; omega) (fun j hj => (HO4.out.lt j hj).1)); have h3 := own_kept HX4.out (below_alloc1 w4 (.cells #[.slice (some ⟨g2, 0, none⟩) (pl.length + 1) c2] 23)); have h2 := h3.kept hgrow (own_apart h3 (HO4.out.alloc _) (by decide)); have HR7 := Lib.hid (show RdI w7 (some ⟨g2, 0, none⟩) (runF pl p.mv (k + 1)) from rd_of_own0 h2)
          have HE7 := Lib.hid (show ElC w7 w1.heap.size (allF pl p.mv (k + 1)) (hs ++ [.slice (some ⟨g2, 0, none⟩) (pl.length + 1) c2]) by
            have h1 := (HE4.out.below (below_alloc1 w4 (.cells #[.slice (some ⟨g2, 0, none⟩) (pl.length + 1) c2] 23))).grown (HO4.out.alloc _) (by decide) hgrow; have hl : (runF pl p.mv (k + 1)).length = pl.length + 1 := mvF_len _ _ _; rw [allF_succ, ← hl]; refine h1.snoc ?_; rw [hl]; exact h2)
          clear hown' hgrow h2 h3; go_wp2; go_roundw
          case rel => exact ⟨k + 1, g2, c2, g', cap', _, by omega, by go_num, rfl, HR7, rfl, HO7, HE7, HN7⟩
          case measure => simp [intOf]; omega
        · obtain rfl : k = p.mv.length := by omega
          have hki : ¬ (p.mv.length : Int) < (p.mv.length : Int) := by omega
          go_wp2; go_ret; refine ⟨⟨_, rfl, hs, ?_, ?_⟩, HB1.out.trans (HN.out.mono HB1.out.size)⟩
          · rw [allF_len]; exact own_mono HO.out HB1.out.size
          · refine ⟨HE.out.1, fun i hi => ?_⟩
            obtain ⟨u, c, h1, h2⟩ := HE.out.2 i hi; exact ⟨_, h1, own_mono h2 HB1.out.size⟩
end Go.Proofs.YtlednchfifphgabGreatDoor
end

section
namespace Go.Proofs.YtlednchfifphgabGreatDoor
open Go Go.RowKit Go.Proofs
set_option linter.unusedVariables false
set_option linter.unusedSimpArgs false
attribute [local go_sem] imax2 imin2

theorem fits_no {p : Pc} {pl : List Int} (h : withinB p pl = false) : fitsB p pl = false := by unfold fitsB; rw [h]; rfl
set_option maxHeartbeats 1600000 in
set_option maxRecDepth 100000 in
theorem r_Fits (pm pv pr : Option Addr) (cm cv cr : Nat) (p : Pc) (q : Option Addr) (cq : Nat) (pl : List Int) (w : World) (hp : RdP w pm pv pr p) (hq : RdI w q pl) (hpo : PieceOk p) (hpl : PlaysOk p pl) :
    Calls Tryz.prog 28 #[.agg #[.slice pm p.ms.length cm, .slice pv p.mv.length cv, .slice pr p.rs.length cr], .slice q pl.length cq] w fun e w' => e = .returned (.bool (fitsB p pl)) ∧ Below w.heap.size w w' := by
  obtain ⟨w1, e1, HS1, k0, k1, k2, b1⟩ := box3 w (.slice pm p.ms.length cm) (.slice pv p.mv.length cv) (.slice pr p.rs.length cr) 26; have HP := Lib.hid (hp.below b1); have HQ := Lib.hid (hq.below b1); have HB := Lib.hid b1; have HPO := Lib.hid hpo; have HPL := Lib.hid hpl; have HLN := Lib.hid (piece_len hpo); have HPN := Lib.hid hpl.len; have hrl6 : p.rs.length ≤ 1000 := by have := (piece_len hpo).2.2; omega
  clear hp hq b1 hpo hpl
  go_enter Tryz.func28, Tryz.ntmps28
  go_wp2_with fail; refine (r_Within pm pv pr cm cv cr p q cq pl _ HP.out.ms HQ.out (by rw [HPN.out]; exact Nat.le_refl _) (by have := HLN.out.1; omega)).mono ?_; clear e1
  rcases hw : withinB p pl with _ | _
  · have H := Lib.hid (fits_no hw)
    clear hw; rintro e wn ⟨rfl, bq⟩; have HBB := Lib.hid (HB.out.trans (bq.mono HB.out.size)); clear bq; go_wp2; go_ret; exact ⟨by rw [H.out]; rfl, HBB.out⟩
  have HW := Lib.hid hw; clear hw; rintro e wn ⟨rfl, bq⟩; replace HB := Lib.hid (HB.out.trans (bq.mono HB.out.size)); replace HP := Lib.hid (HP.out.below bq); replace HQ := Lib.hid (HQ.out.below bq); have k0 := (bq.cell (lt_of_cellq k0)).trans k0; have k1 := (bq.cell (lt_of_cellq k1)).trans k1; have k2 := (bq.cell (lt_of_cellq k2)).trans k2; clear bq; go_wp2_with fail; refine (r_Run pm pv pr cm cv cr p q cq pl _ HP.out HQ.out HPO.out HPL.out).mono ?_; rintro e w2 ⟨⟨v, rfl, ho⟩, bq⟩; obtain ⟨lq, lc, rfl, hls⟩ := ho.read; have HL := Lib.hid hls; rw [allF_len]; have k2 := (bq.cell (lt_of_cellq k2)).trans k2; have HR := Lib.hid (HP.out.rs.below bq); have HB2 := Lib.hid (HB.out.trans (bq.mono HB.out.size)); clear ho hls bq HP HQ k0 k1; go_wp2
  go_loopw [6] (fun v wr => ∃ k : Nat, k ≤ p.rs.length ∧ v = .int .i64 k ∧ Hid (∀ j, j < k → agreeB pl p.mv (gr p.rs j) = true) ∧ Hid (Below w2.heap.size w2 wr)) (fun v _ => p.rs.length - (intOf v).toNat)
  case atStart => exact ⟨0, Nat.zero_le _, rfl, Lib.hid (by intro j hj; omega), Lib.hid (Below.refl _ _)⟩
  case round =>
    obtain ⟨k, hk, rfl, HH, HN⟩ := hrel; have k2 := (HN.out.cell (lt_of_cellq k2)).trans k2
    by_cases hlt : k < p.rs.length
    · have hki : (k : Int) < (p.rs.length : Int) := by omega
      obtain ⟨b, off, rfl, hc⟩ := (HR.out.below HN.out).at hlt; obtain ⟨a0, a1, a2, a3⟩ := hc k hlt; obtain ⟨⟨ha1, ha2⟩, ⟨hb1, hb2⟩, ⟨hs1, hs2⟩, ho1, ho2⟩ := HPO.out.read k hlt; have HAG := Lib.hid (show agreeB pl p.mv (gr p.rs k) = inB (gi (runF pl p.mv (gr p.rs k).aft.toNat) (gr p.rs k).arb.toNat) ((gr p.rs k).seen - (gr p.rs k).off) ((gr p.rs k).seen + (gr p.rs k).off) from rfl)
      have HNO := Lib.hid (show agreeB pl p.mv (gr p.rs k) = false → fitsB p pl = false from fun h => by
        unfold fitsB; rw [HW.out, all_bad (f := agreeB pl p.mv) (d := rd0) (l := p.rs) hlt h]; rfl)
      obtain ⟨a, ha⟩ : ∃ a : Nat, (gr p.rs k).aft = (a : Int) := ⟨(gr p.rs k).aft.toNat, by omega⟩; obtain ⟨c, hcc⟩ : ∃ c : Nat, (gr p.rs k).arb = (c : Int) := ⟨(gr p.rs k).arb.toNat, by omega⟩; have HG := Lib.hid (show agreeB pl p.mv (gr p.rs k) = agreeB pl p.mv (gr p.rs k) from rfl); obtain ⟨S, hS⟩ : ∃ S, (gr p.rs k).seen = S := ⟨_, rfl⟩; obtain ⟨O, hO⟩ : ∃ O, (gr p.rs k).off = O := ⟨_, rfl⟩; obtain ⟨A, hA⟩ : ∃ A, agreeB pl p.mv (gr p.rs k) = A := ⟨_, rfl⟩; rw [hA] at HNO HAG HG; rw [hS] at a2 hs1 hs2 HAG; rw [hO] at a3 ho1 ho2 HAG; rw [ha] at a0 ha2 HAG; rw [hcc] at a1 hb2 HAG; rw [Int.toNat_natCast, Int.toNat_natCast] at HAG; have hpn := HPN.out; obtain ⟨bl, ol, rfl, hcl⟩ := (HL.out.below HN.out).at (i := a) (by rw [allF_len]; omega); obtain ⟨qa, ca, r0, hra⟩ := hcl a (by rw [allF_len]; omega); rw [allF_at _ _ _ _ (by omega)] at r0 hra; have hrl := (runF_chain HPL.out.pos p.mv a).len
      rw [hrl] at r0; obtain ⟨b1, o1, rfl, hc1⟩ := hra.at (i := c) (by rw [hrl]; omega); have r1 := hc1 c (by rw [hrl]; omega); obtain ⟨w4, e4, HS4, y0, y1, y2, y3, b4⟩ := box4 wr (.int .i64 (a : Int)) (.int .i64 (c : Int)) (.int .i64 S) (.int .i64 O) 116; have r0 := (b4.cell (lt_of_cellq r0)).trans r0; have r1 := (b4.cell (lt_of_cellq r1)).trans r1; have HN4 := Lib.hid (HN.out.trans (b4.mono HN.out.size)); have hw1 : IntKind.i64.wrap (S - O) = S - O := w64 _ (by omega) (by omega); have hw2 : IntKind.i64.wrap (S + O) = S + O := w64 _ (by omega) (by omega); have hai : (a : Int) < (p.mv.length : Int) + 1 := by omega
      have hci : (c : Int) < (pl.length : Int) + 1 := by omega
      clear hpn
      have HC := Lib.hid (fun W => show Calls Tryz.prog 76 #[.int .i64 (gi (runF pl p.mv a) c), .int .i64 (S - O), .int .i64 (S + O)] W fun e w' => e = .returned (.bool A) ∧ Below W.heap.size W w' by
        rw [HAG.out]; exact (r_in _ _ _ W).mono fun e w' h => ⟨h.1, h.2 ▸ Below.refl _ _⟩)
      have HST := Lib.hid (show A = true → ∀ j, j < k + 1 → agreeB pl p.mv (gr p.rs j) = true from fun h j hj => by
        rcases Nat.lt_or_ge j k with h' | h'
        · exact HH.out j h'
        · obtain rfl : j = k := by omega
          rw [hA]; exact h)
      clear hc hcl hra hc1 hrl b4 ha hcc hS hO hA; go_upto_region 8 with (fail); clear e4 a0 a1 a2 a3
      cases A with
      | false =>
        refine wp_region_quiet_below (by kernel_rfl) (by kernel_rfl) ?_; (repeat (first | ((with_reducible first | apply wq_fg faP0 | apply wq_fg faP1 | apply wq_fg faP2 | apply wq_fg faM0 | apply wq_fg faS0 | apply wq_fg faS1 | apply wq_fg faR0 | apply wq_fg faR1 | apply wq_fg faR2 | apply wq_fg faR3 | apply wq_fg faT0 | apply wq_fg faT1 | apply wq_fg faQ0 | apply wq_fg faQ1 | apply wq_fg faH0 | apply wq_fg faH1 | apply wq_fg faH2 | apply wq_fg faH3); (focus rfl); (focus rfl); go_frame) | ((with_reducible apply wq_not); (focus rfl); (focus rfl); go_frame) | ((with_reducible first | apply wq_ix Tryz.underlying23 szI | apply wq_ix Tryz.underlying27 szSp | apply wq_ix Tryz.underlying22 szM | apply wq_ix Tryz.underlying24 szR | apply wq_ix Tryz.underlying43 szL | apply wq_ix Tryz.underlying103 szT); (focus rfl); (focus rfl); (focus rfl); (focus omega); (try simp only [Nat.mul_one]); go_frame) | ((with_reducible first | apply wq_ld agI | apply wq_ld agB | apply wq_ld agLI | apply wq_ld agLS | apply wq_ld agLM | apply wq_ld agLR | apply wq_ld agLL | apply wq_ld agLT); (focus rfl); (focus rfl); (focus (intro _ hbq; first | exact (hbq.cell (lt_of_cellq y0)).trans y0 | exact (hbq.cell (lt_of_cellq y1)).trans y1 | exact (hbq.cell (lt_of_cellq y2)).trans y2 | exact (hbq.cell (lt_of_cellq y3)).trans y3 | exact (hbq.cell (lt_of_cellq r0)).trans r0 | exact (hbq.cell (lt_of_cellq r1)).trans r1)); go_frame) | ((with_reducible first | apply wq_add | apply wq_sub | apply wq_mul | apply wq_rem); (focus rfl); (focus rfl); (focus rfl); (focus omega); (focus omega); go_frame) | ((with_reducible first | apply wq_eql | apply wq_neq | apply wq_lss | apply wq_leq | apply wq_gtr | apply wq_geq | apply wq_max2 | apply wq_min2); (focus rfl); (focus rfl); (focus rfl); go_frame) | ((with_reducible first | apply wq_max3 | apply wq_min3); (focus rfl); (focus rfl); (focus rfl); (focus rfl); go_frame) | go_big_quiet_step ((intro hbq; exact calls_below hbq (HC.out _))))); refine wpQuiet_nil ?_; intro wq hbq
        have HN5 := Lib.hid (HN4.out.trans (hbq.mono HN4.out.size)); clear hbq y0 y1 y2 y3 r0 r1; go_wp2; go_ret; exact ⟨by rw [HNO.out trivial]; rfl, HB2.out.trans (HN5.out.mono HB2.out.size)⟩
      | true =>
        refine wp_region_quiet_below (by kernel_rfl) (by kernel_rfl) ?_; (repeat (first | ((with_reducible first | apply wq_fg faP0 | apply wq_fg faP1 | apply wq_fg faP2 | apply wq_fg faM0 | apply wq_fg faS0 | apply wq_fg faS1 | apply wq_fg faR0 | apply wq_fg faR1 | apply wq_fg faR2 | apply wq_fg faR3 | apply wq_fg faT0 | apply wq_fg faT1 | apply wq_fg faQ0 | apply wq_fg faQ1 | apply wq_fg faH0 | apply wq_fg faH1 | apply wq_fg faH2 | apply wq_fg faH3); (focus rfl); (focus rfl); go_frame) | ((with_reducible apply wq_not); (focus rfl); (focus rfl); go_frame) | ((with_reducible first | apply wq_ix Tryz.underlying23 szI | apply wq_ix Tryz.underlying27 szSp | apply wq_ix Tryz.underlying22 szM | apply wq_ix Tryz.underlying24 szR | apply wq_ix Tryz.underlying43 szL | apply wq_ix Tryz.underlying103 szT); (focus rfl); (focus rfl); (focus rfl); (focus omega); (try simp only [Nat.mul_one]); go_frame) | ((with_reducible first | apply wq_ld agI | apply wq_ld agB | apply wq_ld agLI | apply wq_ld agLS | apply wq_ld agLM | apply wq_ld agLR | apply wq_ld agLL | apply wq_ld agLT); (focus rfl); (focus rfl); (focus (intro _ hbq; first | exact (hbq.cell (lt_of_cellq y0)).trans y0 | exact (hbq.cell (lt_of_cellq y1)).trans y1 | exact (hbq.cell (lt_of_cellq y2)).trans y2 | exact (hbq.cell (lt_of_cellq y3)).trans y3 | exact (hbq.cell (lt_of_cellq r0)).trans r0 | exact (hbq.cell (lt_of_cellq r1)).trans r1)); go_frame) | ((with_reducible first | apply wq_add | apply wq_sub | apply wq_mul | apply wq_rem); (focus rfl); (focus rfl); (focus rfl); (focus omega); (focus omega); go_frame) | ((with_reducible first | apply wq_eql | apply wq_neq | apply wq_lss | apply wq_leq | apply wq_gtr | apply wq_geq | apply wq_max2 | apply wq_min2); (focus rfl); (focus rfl); (focus rfl); go_frame) | ((with_reducible first | apply wq_max3 | apply wq_min3); (focus rfl); (focus rfl); (focus rfl); (focus rfl); go_frame) | go_big_quiet_step ((intro hbq; exact calls_below hbq (HC.out _))))); refine wpQuiet_nil ?_; intro wq hbq
        have HN5 := Lib.hid (HN4.out.trans (hbq.mono HN4.out.size)); clear hbq y0 y1 y2 y3 r0 r1; go_wp2; go_roundw
        case rel => exact ⟨k + 1, by omega, by go_num, Lib.hid (HST.out rfl), HN5⟩
        case measure => simp [intOf]; omega
    · obtain rfl : k = p.rs.length := by omega
      have hki : ¬ (p.rs.length : Int) < (p.rs.length : Int) := by omega
      have H := Lib.hid (show fitsB p pl = true by
        unfold fitsB; rw [HW.out, all_ok (f := agreeB pl p.mv) (d := rd0) (l := p.rs) HH.out]; rfl)
      go_wp2; go_ret; exact ⟨by rw [H.out]; rfl, HB2.out.trans (HN.out.mono HB2.out.size)⟩
end Go.Proofs.YtlednchfifphgabGreatDoor
end

section
namespace Go.Proofs.YtlednchfifphgabGreatDoor
open Go Go.RowKit Go.Proofs
set_option linter.unusedVariables false
set_option linter.unusedSimpArgs false
attribute [local go_sem] imax2 imin2

def RdlPost (ls : List (List Int)) (w : World) (e : Ending) (w' : World) : Prop := ∃ q c, e = .returned (.slice q ls.length c) ∧ RdLs w' q ls ∧ Below w.heap.size w w'
def ElR (w : World) (css : List (List Int)) (hs : List Value) : Prop := hs.length = css.length ∧ ∀ i, i < css.length → ∃ q c, hs[i]? = some (.slice q (gl css i).length c) ∧ RdI w q (gl css i)
theorem ElR.snoc {w : World} {css : List (List Int)} {hs : List Value} {x : List Int} {q : Option Addr} {c : Nat} (h : ElR w css hs) (hx : RdI w q x) : ElR w (css ++ [x]) (hs ++ [.slice q x.length c]) := by
  refine ⟨by simp [h.1], fun i hi => ?_⟩; rw [List.length_append, List.length_singleton] at hi; rw [gl_snoc]
  by_cases h1 : i < css.length
  · obtain ⟨q', c', e1, e2⟩ := h.2 i h1
    rw [if_pos h1]; exact ⟨q', c', by rw [List.getElem?_append_left (by rw [h.1]; omega)]; exact e1, e2⟩
  · obtain rfl : i = css.length := by omega
    rw [if_neg h1, if_pos rfl]; exact ⟨q, c, by rw [← h.1]; simp, hx⟩
theorem ElR.read {w w' : World} {B : Nat} {v : Value} {css : List (List Int)} {hs : List Value} (h : ElR w css hs) (ho : w'.ownsRow B 23 1 v css.length hs) (hb : Below w.heap.size w w') : ∃ q c, v = .slice q css.length c ∧ RdLs w' q css := by
  rcases ho.2 with ⟨rfl, h0⟩ | ⟨g, cap, cur, rfl, hrest⟩
  · have : css = [] := List.length_eq_zero_iff.1 h0
    subst this; exact ⟨none, 0, rfl, .inl rfl⟩
  · refine ⟨some ⟨g, 0, none⟩, cap, rfl, .inr ⟨g, 0, rfl, fun i hi => ?_⟩⟩
    obtain ⟨q, c, e1, e2⟩ := h.2 i hi; have h3 := ho.cells (g := g) rfl i _ e1; rw [add_new] at h3; exact ⟨q, c, by rw [Nat.zero_add]; exact h3, e2.below hb⟩
theorem bcells3 {w w' : World} {b : Nat} {v0 v1 v2 : Value} (h0 : w.cell? ⟨b, 0, none⟩ = some v0) (h1 : w.cell? ⟨b, 1, none⟩ = some v1) (h2 : w.cell? ⟨b, 2, none⟩ = some v2) (hb : Below w.heap.size w w') :
    ∀ j v, [v0, v1, v2][j]? = some v → w'.cell? ((⟨b, 0, none⟩ : Addr).add j) = some v := by
  intro j v hj; rw [add_new]
  match j, hj with
  | 0, hj => simp at hj; subst hj; exact (hb.cell (lt_of_cellq h0)).trans h0
  | 1, hj => simp at hj; subst hj; exact (hb.cell (lt_of_cellq h1)).trans h1
  | 2, hj => simp at hj; subst hj; exact (hb.cell (lt_of_cellq h2)).trans h2
theorem inV_cell1 (xs : List Int) : ∀ u ∈ inV xs, u.oneCell' = true := by intro u hu; simp [inV] at hu; obtain ⟨x, _, rfl⟩ := hu; rfl
theorem news_rd {w : World} {q : Option Addr} {xs : List Int} (h : RdI w q xs) : xs.length = 0 ∨ ∃ ad, q = some ad ∧ ∀ i u, (inV xs)[i]? = some u → w.cell? (ad.add i) = some u := by
  rcases h with rfl | ⟨b, off, rfl, hc⟩
  · exact .inl rfl
  · refine .inr ⟨_, rfl, fun i u hu => ?_⟩
    have hi : i < xs.length := by have := (List.getElem?_eq_some_iff.1 hu).1; rw [inV_length] at this; exact this
    rw [inV_get _ i hi] at hu
    cases hu
    have : (⟨b, off, none⟩ : Addr).add i = ⟨b, off + i, none⟩ := by unfold Addr.add; split <;> simp_all
    rw [this]; exact hc i hi
theorem take_len_le (ms : List (Int × Int)) (k : Nat) (h4 : ms.length ≤ 4) (h : ∀ i, i < ms.length → (gm ms i).2 - (gm ms i).1 ≤ 4) : (prodF (ms.take k)).length ≤ 625 := by
  have h1 := prodF_count (ms.take k) (fun i hi => by
    rw [List.length_take] at hi; have e : gm (ms.take k) i = gm ms i := by unfold gm; rw [List.getD_eq_getElem?_getD, List.getD_eq_getElem?_getD, List.getElem?_take, if_pos (by omega)]
    rw [e]; exact h i (by omega))
  have h2 : (5 : Nat) ^ (ms.take k).length ≤ 5 ^ 4 := Nat.pow_le_pow_right (by omega) (by rw [List.length_take]; omega); omega
theorem next_len (m : Int × Int) (hm : m.2 - m.1 ≤ 4) (A : List (List Int)) : ∀ k, k ≤ A.length → (nextTo m A k).length ≤ 5 * k := by
  intro k
  induction k with
  | zero => intro _; simp [nextTo]
  | succ k ih =>
    intro hk; rw [nextTo_succ _ _ _ (by omega), List.length_append, List.length_map, rng_len]; have := ih (by omega); omega
theorem rowTo_len (a : List Int) (lo : Int) (j : Nat) : (rowTo a lo j).length = j := by simp [rowTo]
set_option maxHeartbeats 3200000 in
set_option maxRecDepth 100000 in
theorem r_Truths (pm pv pr : Option Addr) (cm cv cr : Nat) (p : Pc) (w : World) (hp : RdP w pm pv pr p) (hpo : PieceOk p) :
    Calls Tryz.prog 77 #[.agg #[.slice pm p.ms.length cm, .slice pv p.mv.length cv, .slice pr p.rs.length cr]] w (RdlPost (truthsF p) w) := by
  obtain ⟨i0, hi0, hz0, hz1, hz2⟩ := info_parts infI; obtain ⟨j0, hj0, hy0, hy1, hy2⟩ := info_parts infL; obtain ⟨w1, e1, HS1, k0, k1, k2, b1⟩ := box3 w (.slice pm p.ms.length cm) (.slice pv p.mv.length cv) (.slice pr p.rs.length cr) 26; obtain ⟨w2, e2, HS2, c0, _, b2⟩ := box1 w1 (.slice none 0 0) 23; have HB := Lib.hid b1; have HP := Lib.hid (hp.below b1); have HPO := Lib.hid hpo; have HK := Lib.hid (And.intro k0 (And.intro k1 k2)); have HB2 := Lib.hid b2
  have HR0 := Lib.hid (show RdLs w2 (some ⟨w1.heap.size, 0, none⟩) [[]] from .inr ⟨w1.heap.size, 0, rfl, fun i hi => by
    obtain rfl : i = 0 := by simp at hi; exact hi
    exact ⟨none, 0, c0, .inl rfl⟩⟩)
  have hn4 := hpo.n4; clear hp hpo b1 b2 c0 k0 k1 k2
  go_enter Tryz.func77, Tryz.ntmps77
  go_wp2; clear e1 e2
  go_loopw [3, 4] (fun v i wr => ∃ (k : Nat) (q : Option Addr) (c : Nat), k ≤ p.ms.length ∧ i = .int .i64 k ∧ v = .slice q (prodF (p.ms.take k)).length c ∧ Hid (RdLs wr q (prodF (p.ms.take k))) ∧ Hid (Below w1.heap.size w1 wr)) (fun _ i _ => p.ms.length - (intOf i).toNat)
  case atStart => exact ⟨0, some ⟨w1.heap.size, 0, none⟩, 1, Nat.zero_le _, rfl, by rw [List.take_zero]; rfl, by rw [List.take_zero]; exact HR0, HB2⟩
  case round =>
    obtain ⟨k, q, c, hk, rfl, rfl, HR, HN⟩ := hrel; have q0 := (HN.out.cell (lt_of_cellq HK.out.1)).trans HK.out.1
    by_cases hlt : k < p.ms.length
    · have hki : (k : Int) < (p.ms.length : Int) := by omega
      obtain ⟨b, off, rfl, hc⟩ := (HP.out.ms.below HN.out).at hlt; obtain ⟨m0, m1⟩ := hc k hlt; obtain ⟨hm1, hm2, hm3, hm4⟩ := HPO.out.mesh k hlt; have HAL := Lib.hid (take_len_le p.ms k hn4 (fun i hi => (HPO.out.mesh i hi).2.2.2)); have HAK := Lib.hid (prodF_lens p.ms k (by omega)); have HNX := Lib.hid (nextTo_prod p.ms k hlt); have HNL := Lib.hid (next_len (gm p.ms k) hm4 (prodF (p.ms.take k))); obtain ⟨A, hA⟩ : ∃ A, prodF (p.ms.take k) = A := ⟨_, rfl⟩; obtain ⟨M, hM⟩ : ∃ M, gm p.ms k = M := ⟨_, rfl⟩; rw [hA] at HAL HAK HNX HNL HR ⊢; rw [hM] at HNX HNL m0 m1 hm1 hm2 hm3 hm4; have hal := HAL.out; clear hA hM hc; obtain ⟨wn, rfl⟩ : ∃ wn : World, wn = wr := ⟨_, rfl⟩; go_wp2
      go_loopw [5, 6] (fun v i wr => ∃ j : Nat, j ≤ A.length ∧ i = .int .i64 j ∧ Hid (OwLs wr wn.heap.size v (nextTo M A j)) ∧ Hid (Below wn.heap.size wn wr)) (fun _ i _ => A.length - (intOf i).toNat)
      case atStart => exact ⟨0, Nat.zero_le _, rfl, Lib.hid (by rw [nextTo_zero]; exact OwLs.nil _ _), Lib.hid (Below.refl _ _)⟩
      case round =>
        obtain ⟨j, hj, rfl, HO, HM⟩ := hrel
        by_cases hlt2 : j < A.length
        · have hji : (j : Int) < (A.length : Int) := by omega
          obtain ⟨bA, oA, rfl, hcA⟩ := HR.out.at hlt2; obtain ⟨qj, cj, s0, sr⟩ := hcA j hlt2; rw [HAK.out j hlt2] at s0; have q1 := (HM.out.cell (lt_of_cellq q0)).trans q0; have m2 := (HM.out.cell (lt_of_cellq m0)).trans m0; have m3 := (HM.out.cell (lt_of_cellq m1)).trans m1; have HSR := Lib.hid sr; have hnl := HNL.out j hj; obtain ⟨N, hN⟩ : ∃ N, nextTo M A j = N := ⟨_, rfl⟩; have HNS := Lib.hid (show nextTo M A (j + 1) = N ++ (rng M.1 M.2).map fun n => gl A j ++ [n] by rw [nextTo_succ _ _ _ hlt2, hN]); rw [hN] at HO hnl; have HKK := Lib.hid (HAK.out j hlt2); obtain ⟨a, ha⟩ : ∃ a, gl A j = a := ⟨_, rfl⟩; obtain ⟨lo, hlo⟩ : ∃ lo, M.1 = lo := ⟨_, rfl⟩; obtain ⟨hi, hhi⟩ : ∃ hi, M.2 = hi := ⟨_, rfl⟩; rw [ha] at HNS HKK HSR; rw [hlo] at HNS m0 m2 hm1 hm2 hm4; rw [hhi] at HNS m1 m3 hm2 hm3 hm4; clear hN ha hlo hhi hcA sr; obtain ⟨wm, rfl⟩ : ∃ wm : World, wm = wr := ⟨_, rfl⟩; go_wp2
          go_loopw [5, 7] (fun v i wr => ∃ x : Nat, (x : Int) ≤ hi - lo + 1 ∧ i = .int .i64 (lo + (x : Int)) ∧ Hid (OwLs wr wn.heap.size v (N ++ rowTo a lo x)) ∧ Hid (Below wn.heap.size wn wr)) (fun _ i _ => (hi + 1 - intOf i).toNat)
          case atStart => exact ⟨0, by omega, by simp, by rw [rowTo_zero, List.append_nil]; exact HO, HM⟩
          case round =>
            obtain ⟨x, hx, rfl, HOX, HX⟩ := hrel; have s1 := (HX.out.cell (lt_of_cellq s0)).trans s0; have q2 := (HX.out.cell (lt_of_cellq q0)).trans q0; have m4 := (HX.out.cell (lt_of_cellq m0)).trans m0; have m5 := (HX.out.cell (lt_of_cellq m1)).trans m1
            by_cases hlt3 : lo + (x : Int) ≤ hi
            · obtain ⟨hs, ho, he⟩ := HOX.out
              have HO1 := Lib.hid ho; have HE1 := Lib.hid he
              have HNW := Lib.hid (show k = 0 ∨ ∃ ad, qj = some ad ∧ ∀ i u, (inV a)[i]? = some u → wr.cell? (ad.add i) = some u by
                have h := news_rd (HSR.out.below HX.out); rw [HKK.out] at h; exact h)
              have hL : (N ++ rowTo a lo x).length ≤ 4000 := by rw [List.length_append, rowTo_len]; omega
              have hwx : IntKind.i64.wrap (lo + (x : Int) + 1) = lo + ((x + 1 : Nat) : Int) := by rw [w64 _ (by omega) (by omega)]; omega
              clear ho he; go_wp2_with (at_builtin; refine wpList_append_src _ rfl _ _ 23 rfl wr.heap.size 3 i0 _ 1 8 Tryz.underlying23 hi0 hz0 hz1 hz2 rfl (by decide) (.slice none 0 0) 0 [] rfl (World.ownsRow_nil _ _ _ _) qj k cj (inV a) rfl ?a1 ?a2 ?a3 ?a4 ?a5 ?a6 ?_)
              case a1 => rw [inV_length, HKK.out, Nat.mul_one]
              case a2 => exact HNW.out
              case a3 => exact inV_cell1 _
              case a4 => unfold maxLen; omega
              case a5 => omega
              case a6 => exact Nat.le_refl _
              intro v1 wa hown1 hgrow1 hat1; have HBA := Lib.hid (show Below wr.heap.size wr wa from (Below.refl _ _).grown hgrow1 (Nat.le_refl _) (fun j hj => by simp [Value.ownBlock] at hj)); have HW1 := Lib.hid hown1; clear hown1 hgrow1 hat1; go_wp2_with (at_builtin; refine wpList_append_own _ rfl _ _ 23 rfl wr.heap.size 3 i0 _ 1 8 Tryz.underlying23 hi0 hz0 hz1 hz2 rfl (by decide) _ _ _ rfl (HW1.out.alloc _) ⟨wa.heap.size, 0, none⟩ 1 1 [.int .i64 (lo + (x : Int))] rfl rfl ?b1 ?b2 ?b3 ?b4 ?b5 ?_)
              case b1 => exact news_of _ _ _
              case b2 => intro u hu; simp at hu; subst hu; rfl
              case b3 => unfold maxLen; omega
              case b4 => omega
              case b5 => have := HBA.out.size; simp; omega
              intro v2 wb hown2 hgrow2 _; obtain ⟨g2, c2, rfl⟩ := own_form hown2; have HBB := Lib.hid (show Below wr.heap.size wr wb from (HBA.out.alloc HBA.out.size _).grown hgrow2 (by have := HBA.out.size; simp; omega) (fun j hj => (HW1.out.lt j hj).1)); have HW2 := Lib.hid hown2; have HO2 := Lib.hid (own_kept HO1.out HBB.out); have HE2 := Lib.hid (HE1.out.below HBB.out); clear hown2 hgrow2; go_wp2_with (at_builtin; refine wpList_append_own _ rfl _ _ 43 rfl wn.heap.size 23 j0 _ 1 24 Tryz.underlying43 hj0 hy0 hy1 hy2 rfl (by decide) _ _ _ rfl (HO2.out.alloc _) ⟨wb.heap.size, 0, none⟩ 1 1 [.slice (some ⟨g2, 0, none⟩) (k + 1) c2] rfl rfl ?d1 ?d2 ?d3 ?d4 ?d5 ?_)
              case d1 => exact news_of _ _ _
              case d2 => intro u hu; simp at hu; subst hu; rfl
              case d3 => unfold maxLen; omega
              case d4 => omega
              case d5 => have := HX.out.size; have := HBB.out.size; simp; omega
              intro v3 w5 hown3 hgrow3 _; have hbw := HX.out.trans (HBB.out.mono HX.out.size); have HB5 := Lib.hid ((hbw.alloc hbw.size (.cells #[.slice (some ⟨g2, 0, none⟩) (k + 1) c2] 23)).grown hgrow3 (by have := hbw.size; simp; omega) (fun j hj => (HO2.out.lt j hj).1)); have ba := below_alloc1 wb (.cells #[.slice (some ⟨g2, 0, none⟩) (k + 1) c2] 23)
              have HOX' := Lib.hid (show OwLs w5 wn.heap.size v3 (N ++ rowTo a lo (x + 1)) by
                rw [rowTo_succ, ← List.append_assoc]; refine OwLs.app (own_kept HO2.out ba) (HE2.out.below ba) ?_ hgrow3 (by rw [List.length_append]; exact hown3); have h := own_mono (own_kept HW2.out ba) (B' := wn.heap.size) HX.out.size; have e : (a ++ [lo + (x : Int)]).length = k + 1 := by rw [List.length_append, HKK.out]; rfl
                rw [e, inV_append]; exact h)
              clear hown3 hgrow3 hbw ba; go_wp2; go_roundw
              case rel => exact ⟨x + 1, by omega, by go_num, HOX', HB5⟩
              case measure => simp [intOf]; omega
            · have HOX' := Lib.hid (show OwLs wr wn.heap.size _ ((N ++ (rng lo hi).map fun n => a ++ [n])) by
                rw [← rowTo_all a lo hi x (by omega)]; exact HOX.out)
              have hlt3' : decide (lo + (x : Int) ≤ hi) = false := decide_eq_false hlt3; have hwj : IntKind.i64.wrap ((j : Int) + 1) = (j : Int) + 1 := w64 _ (by omega) (by omega); clear hlt3; go_wp2; go_roundw
              case rel => exact ⟨j + 1, by omega, by go_num, by rw [HNS.out]; exact HOX', HX⟩
              case measure => simp [intOf]; omega
        · obtain rfl : j = A.length := by omega
          have hji : ¬ (A.length : Int) < (A.length : Int) := by omega
          obtain ⟨q', c', rfl, hr'⟩ := HO.out.read; have HR' := Lib.hid hr'; rw [HNX.out] at HR' ⊢; clear hr'; go_wp2; go_roundw
          case rel => exact ⟨k + 1, q', c', by omega, by go_num, rfl, HR', Lib.hid (HN.out.trans (HM.out.mono HN.out.size))⟩
          case measure => simp [intOf]; omega
    · obtain rfl : k = p.ms.length := by omega
      have hki : ¬ (p.ms.length : Int) < (p.ms.length : Int) := by omega
      rw [List.take_length] at HR ⊢
      have HAL := Lib.hid (show (prodF p.ms).length ≤ 625 by
        have h := take_len_le p.ms p.ms.length hn4 (fun i hi => (HPO.out.mesh i hi).2.2.2); rw [List.take_length] at h; exact h)
      have HPW := Lib.hid (show ∀ j, j < (prodF p.ms).length → PlaysOk p (gl (prodF p.ms) j) from fun j hj => by
        have hmem : gl (prodF p.ms) j ∈ prodF p.ms := by rw [gl_get _ _ hj]; exact List.getElem_mem hj
        obtain ⟨h1, h2⟩ := mem_prodF.1 hmem
        exact ⟨h1, fun i hi => by
          have := HPO.out.mesh i (by omega); have := h2 i hi; omega⟩)
      have HTF := Lib.hid (show truthsF p = (prodF p.ms).filter (fitsB p) from rfl); obtain ⟨A, hA⟩ : ∃ A, prodF p.ms = A := ⟨_, rfl⟩; rw [hA] at HAL HPW HTF HR ⊢; have hal := HAL.out; clear hA; have k1 := (HN.out.cell (lt_of_cellq HK.out.2.1)).trans HK.out.2.1; have k2 := (HN.out.cell (lt_of_cellq HK.out.2.2)).trans HK.out.2.2; obtain ⟨wn, rfl⟩ : ∃ wn : World, wn = wr := ⟨_, rfl⟩; go_wp2; clear hki
      go_loopw [8, 9] (fun v i wr => ∃ (j : Nat) (hs : List Value), j ≤ A.length ∧ i = .int .i64 j ∧ Hid (wr.ownsRow wn.heap.size 23 1 v ((A.take j).filter (fitsB p)).length hs) ∧ Hid (ElR wn ((A.take j).filter (fitsB p)) hs) ∧ Hid (Below wn.heap.size wn wr)) (fun _ i _ => A.length - (intOf i).toNat)
      case atStart => exact ⟨0, [], Nat.zero_le _, rfl, Lib.hid (by rw [List.take_zero]; exact World.ownsRow_nil _ _ _ _), Lib.hid ⟨by rw [List.take_zero]; rfl, fun i hi => by simp at hi⟩, Lib.hid (Below.refl _ _)⟩
      case round =>
        obtain ⟨j, hs, hj, rfl, HO, HE, HX⟩ := hrel
        by_cases hlt2 : j < A.length
        · have hji : (j : Int) < (A.length : Int) := by omega
          obtain ⟨bA, oA, rfl, hcA⟩ := HR.out.at hlt2; obtain ⟨qj, cj, s0, sr⟩ := hcA j hlt2; have HSR := Lib.hid sr; have s1 := (HX.out.cell (lt_of_cellq s0)).trans s0; have z0 := (HX.out.cell (lt_of_cellq q0)).trans q0; have z1 := (HX.out.cell (lt_of_cellq k1)).trans k1; have z2 := (HX.out.cell (lt_of_cellq k2)).trans k2; have HC := Lib.hid (fun W (hb : Below wr.heap.size wr W) => r_Fits pm pv pr cm cv cr p qj cj (gl A j) W (((HP.out.below HN.out).below HX.out).below hb) ((HSR.out.below HX.out).below hb) HPO.out (HPW.out j hlt2)); have HFT := Lib.hid (filter_take (fitsB p) A j hlt2)
          have hfl : ((A.take j).filter (fitsB p)).length ≤ 1000 := by
            have h1 := List.length_filter_le (fitsB p) (A.take j); rw [List.length_take] at h1; omega
          have hwj : IntKind.i64.wrap ((j : Int) + 1) = (j : Int) + 1 := w64 _ (by omega) (by omega); clear hcA sr
          rcases hf : fitsB p (gl A j) with _ | _
          · rw [hf] at HC
            have HFT' := Lib.hid (show (A.take (j + 1)).filter (fitsB p) = (A.take j).filter (fitsB p) by rw [HFT.out, hf]; simp); clear hf; go_wp2; refine wp_region_quiet_below (by kernel_rfl) (by kernel_rfl) ?_; (repeat (first | ((with_reducible first | apply wq_fg faP0 | apply wq_fg faP1 | apply wq_fg faP2 | apply wq_fg faM0 | apply wq_fg faS0 | apply wq_fg faS1 | apply wq_fg faR0 | apply wq_fg faR1 | apply wq_fg faR2 | apply wq_fg faR3 | apply wq_fg faT0 | apply wq_fg faT1 | apply wq_fg faQ0 | apply wq_fg faQ1 | apply wq_fg faH0 | apply wq_fg faH1 | apply wq_fg faH2 | apply wq_fg faH3); (focus rfl); (focus rfl); go_frame) | ((with_reducible refine wq_lda agP szP ?_ ?_ ?_ (fun _ hbq => bcells3 z0 z1 z2 hbq) ?_); (focus rfl); (focus rfl); (focus rfl); go_frame) | ((with_reducible first | apply wq_ix Tryz.underlying23 szI | apply wq_ix Tryz.underlying27 szSp | apply wq_ix Tryz.underlying22 szM | apply wq_ix Tryz.underlying24 szR | apply wq_ix Tryz.underlying43 szL | apply wq_ix Tryz.underlying103 szT); (focus rfl); (focus rfl); (focus rfl); (focus omega); (try simp only [Nat.mul_one]); go_frame) | ((with_reducible first | apply wq_ld agI | apply wq_ld agB | apply wq_ld agLI | apply wq_ld agLS | apply wq_ld agLM | apply wq_ld agLR | apply wq_ld agLL | apply wq_ld agLT); (focus rfl); (focus rfl); (focus (intro _ hbq; first | exact (hbq.cell (lt_of_cellq s1)).trans s1)); go_frame) | ((with_reducible first | apply wq_add | apply wq_sub | apply wq_mul | apply wq_rem); (focus rfl); (focus rfl); (focus rfl); (focus omega); (focus omega); go_frame) | ((with_reducible first | apply wq_eql | apply wq_neq | apply wq_lss | apply wq_leq | apply wq_gtr | apply wq_geq | apply wq_max2 | apply wq_min2); (focus rfl); (focus rfl); (focus rfl); go_frame) | ((with_reducible first | apply wq_max3 | apply wq_min3); (focus rfl); (focus rfl); (focus rfl); (focus rfl); go_frame) | go_big_quiet_step ((intro hbq; exact calls_below hbq (HC.out _ hbq))))); refine wpQuiet_nil ?_; intro wq hbq
            have HO' := Lib.hid (own_kept HO.out hbq); have HX' := Lib.hid (HX.out.trans (hbq.mono HX.out.size)); clear hbq s1 z0 z1 z2; go_wp2; go_roundw
            case rel => exact ⟨j + 1, hs, by omega, by go_num, by rw [HFT'.out]; exact HO', by rw [HFT'.out]; exact HE, HX'⟩
            case measure => simp [intOf]; omega
          · rw [hf] at HC
            have HFT' := Lib.hid (show (A.take (j + 1)).filter (fitsB p) = (A.take j).filter (fitsB p) ++ [gl A j] by rw [HFT.out, hf]; simp); clear hf; go_wp2; refine wp_region_quiet_below (by kernel_rfl) (by kernel_rfl) ?_; (repeat (first | ((with_reducible first | apply wq_fg faP0 | apply wq_fg faP1 | apply wq_fg faP2 | apply wq_fg faM0 | apply wq_fg faS0 | apply wq_fg faS1 | apply wq_fg faR0 | apply wq_fg faR1 | apply wq_fg faR2 | apply wq_fg faR3 | apply wq_fg faT0 | apply wq_fg faT1 | apply wq_fg faQ0 | apply wq_fg faQ1 | apply wq_fg faH0 | apply wq_fg faH1 | apply wq_fg faH2 | apply wq_fg faH3); (focus rfl); (focus rfl); go_frame) | ((with_reducible refine wq_lda agP szP ?_ ?_ ?_ (fun _ hbq => bcells3 z0 z1 z2 hbq) ?_); (focus rfl); (focus rfl); (focus rfl); go_frame) | ((with_reducible first | apply wq_ix Tryz.underlying23 szI | apply wq_ix Tryz.underlying27 szSp | apply wq_ix Tryz.underlying22 szM | apply wq_ix Tryz.underlying24 szR | apply wq_ix Tryz.underlying43 szL | apply wq_ix Tryz.underlying103 szT); (focus rfl); (focus rfl); (focus rfl); (focus omega); (try simp only [Nat.mul_one]); go_frame) | ((with_reducible first | apply wq_ld agI | apply wq_ld agB | apply wq_ld agLI | apply wq_ld agLS | apply wq_ld agLM | apply wq_ld agLR | apply wq_ld agLL | apply wq_ld agLT); (focus rfl); (focus rfl); (focus (intro _ hbq; first | exact (hbq.cell (lt_of_cellq s1)).trans s1)); go_frame) | ((with_reducible first | apply wq_add | apply wq_sub | apply wq_mul | apply wq_rem); (focus rfl); (focus rfl); (focus rfl); (focus omega); (focus omega); go_frame) | ((with_reducible first | apply wq_eql | apply wq_neq | apply wq_lss | apply wq_leq | apply wq_gtr | apply wq_geq | apply wq_max2 | apply wq_min2); (focus rfl); (focus rfl); (focus rfl); go_frame) | ((with_reducible first | apply wq_max3 | apply wq_min3); (focus rfl); (focus rfl); (focus rfl); (focus rfl); go_frame) | go_big_quiet_step ((intro hbq; exact calls_below hbq (HC.out _ hbq))))); refine wpQuiet_nil ?_; intro wq hbq
            have HO' := Lib.hid (own_kept HO.out hbq); have HX' := Lib.hid (HX.out.trans (hbq.mono HX.out.size)); have s2 := (hbq.cell (lt_of_cellq s1)).trans s1; clear hbq s1 z0 z1 z2; go_wp2_with (at_builtin; refine wpList_append_own _ rfl _ _ 43 rfl wn.heap.size 23 j0 _ 1 24 Tryz.underlying43 hj0 hy0 hy1 hy2 rfl (by decide) _ _ _ rfl (HO'.out.alloc _) ⟨wq.heap.size, 0, none⟩ 1 1 [.slice qj (gl A j).length cj] rfl rfl ?d1 ?d2 ?d3 ?d4 ?d5 ?_)
            case d1 => exact news_of _ _ _
            case d2 => intro u hu; simp at hu; subst hu; rfl
            case d3 => unfold maxLen; omega
            case d4 => omega
            case d5 => have := HX'.out.size; simp; omega
            intro v3 w5 hown3 hgrow3 _; have HB5 := Lib.hid ((HX'.out.alloc HX'.out.size (.cells #[.slice qj (gl A j).length cj] 23)).grown hgrow3 (by have := HX'.out.size; simp; omega) (fun j hj => (HO'.out.lt j hj).1)); have HO5 := Lib.hid hown3; have HE5 := Lib.hid (HE.out.snoc (c := cj) HSR.out); clear hown3 hgrow3; go_wp2; go_roundw
            case rel => exact ⟨j + 1, _, by omega, by go_num, by rw [HFT'.out, List.length_append]; exact HO5, by rw [HFT'.out]; exact HE5, HB5⟩
            case measure => simp [intOf]; omega
        · obtain rfl : j = A.length := by omega
          have hji : ¬ (A.length : Int) < (A.length : Int) := by omega
          rw [List.take_length] at HO HE; obtain ⟨qz, cz, rfl, hrz⟩ := HE.out.read HO.out HX.out; have HZ := Lib.hid hrz; clear hrz; go_wp2; go_ret; rw [HTF.out]; exact ⟨qz, cz, rfl, HZ.out, HB.out.trans ((HN.out.trans (HX.out.mono HN.out.size)).mono HB.out.size)⟩
end Go.Proofs.YtlednchfifphgabGreatDoor
end

section
namespace Go.Proofs.YtlednchfifphgabGreatDoor
open Go Go.RowKit Go.Proofs
set_option linter.unusedVariables false
set_option linter.unusedSimpArgs false
attribute [local go_sem] imax2 imin2

set_option maxRecDepth 100000 in
theorem r_Cheaper (pq : Option Addr) (cp : Nat) (prices : List Int) (p : Option Addr) (c : Nat) (a : List Int) (q : Option Addr) (d : Nat) (b : List Int) (w : World) (hp : RdI w pq prices) (hx : RdI w p a) (hy : RdI w q b) (hl : a.length ≤ 1000) (hl2 : b.length ≤ 1000)
    (hpp : ∀ i, i < prices.length → 0 ≤ gi prices i ∧ gi prices i ≤ 1000) (ha : ∀ i, i < a.length → 0 ≤ gi a i ∧ gi a i < (prices.length : Int)) (hb : ∀ i, i < b.length → 0 ≤ gi b i ∧ gi b i < (prices.length : Int)) :
    Calls Tryz.prog 47 #[.slice pq prices.length cp, .slice p a.length c, .slice q b.length d] w fun e w' => e = .returned (.bool (keyB prices a b)) ∧ Below w.heap.size w w' := by
  have HPA := Lib.hid (fun W (h : Below w.heap.size w W) => r_Price pq cp prices p c a W (hp.below h) (hx.below h) hl hpp ha); have HPB := Lib.hid (fun W (h : Below w.heap.size w W) => r_Price pq cp prices q d b W (hp.below h) (hy.below h) hl2 hpp hb); have HBE := Lib.hid (fun W (h : Below w.heap.size w W) => r_Before p c a q d b W (hx.below h) (hy.below h) hl hl2); have HQ := Lib.hid (show keyB prices a b = if priceF prices a ≠ priceF prices b then decide (priceF prices a < priceF prices b) else if a.length ≠ b.length then decide (a.length < b.length) else lexB a b from rfl); clear hp hx hy hpp ha hb; obtain ⟨x, hx⟩ : ∃ x, priceF prices a = x := ⟨_, rfl⟩; obtain ⟨y, hy⟩ : ∃ y, priceF prices b = y := ⟨_, rfl⟩; rw [hx] at HPA HQ; rw [hy] at HPB HQ; clear hx hy; have HB := Lib.hid (Below.refl w.heap.size w)
  by_cases h1 : x = y
  · subst h1
    have h1' : (x != x) = false := by simp
    by_cases h2 : a.length = b.length
    · have h2' : ((a.length : Int) != (b.length : Int)) = false := by simp [h2]
      have H := Lib.hid (show keyB prices a b = lexB a b by rw [HQ.out, if_neg (by simp), if_neg (by simp [h2])]); clear h2
      go_enter Tryz.func47, Tryz.ntmps47
      (go_wp2_with fail); refine (HPA.out _ HB.out).mono ?_
      rintro e wn ⟨rfl, bq⟩; replace HB := Lib.hid (HB.out.trans (bq.mono HB.out.size)); clear bq
      (go_wp2_with fail); refine (HPB.out _ HB.out).mono ?_
      rintro e wn ⟨rfl, bq⟩; replace HB := Lib.hid (HB.out.trans (bq.mono HB.out.size)); clear bq
      (go_wp2_with fail); refine (HBE.out _ HB.out).mono ?_
      rintro e wn ⟨rfl, bq⟩; replace HB := Lib.hid (HB.out.trans (bq.mono HB.out.size)); clear bq; go_wp2; go_ret; exact ⟨by rw [H.out]; rfl, HB.out⟩
    · have h2' : ((a.length : Int) != (b.length : Int)) = true := by simp; omega
      have H := Lib.hid (show keyB prices a b = decide (a.length < b.length) by rw [HQ.out, if_neg (by simp), if_pos h2]); clear h2
      go_enter Tryz.func47, Tryz.ntmps47
      (go_wp2_with fail); refine (HPA.out _ HB.out).mono ?_
      rintro e wn ⟨rfl, bq⟩; replace HB := Lib.hid (HB.out.trans (bq.mono HB.out.size)); clear bq
      (go_wp2_with fail); refine (HPB.out _ HB.out).mono ?_
      rintro e wn ⟨rfl, bq⟩; replace HB := Lib.hid (HB.out.trans (bq.mono HB.out.size)); clear bq; go_wp2; go_ret; exact ⟨by rw [H.out]; rfl, HB.out⟩
  · have h1' : (x != y) = true := by simp [h1]
    have H := Lib.hid (show keyB prices a b = decide (x < y) by rw [HQ.out, if_pos h1]); clear h1
    go_enter Tryz.func47, Tryz.ntmps47
    (go_wp2_with fail); refine (HPA.out _ HB.out).mono ?_
    rintro e wn ⟨rfl, bq⟩; replace HB := Lib.hid (HB.out.trans (bq.mono HB.out.size)); clear bq
    (go_wp2_with fail); refine (HPB.out _ HB.out).mono ?_
    rintro e wn ⟨rfl, bq⟩; replace HB := Lib.hid (HB.out.trans (bq.mono HB.out.size)); clear bq
    (go_wp2_with fail); refine (HPA.out _ HB.out).mono ?_
    rintro e wn ⟨rfl, bq⟩; replace HB := Lib.hid (HB.out.trans (bq.mono HB.out.size)); clear bq
    (go_wp2_with fail); refine (HPB.out _ HB.out).mono ?_
    rintro e wn ⟨rfl, bq⟩; replace HB := Lib.hid (HB.out.trans (bq.mono HB.out.size)); clear bq; go_wp2; go_ret; exact ⟨by rw [H.out]; rfl, HB.out⟩

set_option maxHeartbeats 3200000 in
set_option maxRecDepth 100000 in
theorem r_lists (n : Nat) (w : World) (hn : n ≤ 6) : Calls Tryz.prog 99 #[.int .i64 (n : Int)] w (RdlPost (allL n) w) := by
  obtain ⟨i0, hi0, hz0, hz1, hz2⟩ := info_parts infI; obtain ⟨j0, hj0, hy0, hy1, hy2⟩ := info_parts infL; have hrow := World.ownsRow_lit (base := w.heap.size) (e := 23) (size := 1) w #[.slice none 0 0] 1 (Nat.le_refl _) (by unfold maxLen; omega) (by simp); obtain ⟨w1, e1, HS1, _, _, b1⟩ := box1 w (.slice none 0 0) 23; rw [e1] at hrow
  have HO0 := Lib.hid (show OwLs w1 w.heap.size (.slice (some ⟨w.heap.size, 0, none⟩) 1 1) (allL 0) from ⟨[.slice none 0 0], hrow, rfl, fun i hi => by
    have hi' : i < 1 := hi; obtain rfl : i = 0 := by omega
    exact ⟨_, rfl, World.ownsRow_nil _ _ _ _⟩⟩)
  have HB0 := Lib.hid b1; clear hrow b1
  go_enter Tryz.func99, Tryz.ntmps99
  go_wp2; clear e1
  go_loopw [3, 4] (fun v i wr => ∃ k : Nat, k ≤ n ∧ i = .int .i64 k ∧ Hid (OwLs wr w.heap.size v (allL k)) ∧ Hid (Below w.heap.size w wr)) (fun _ i _ => n - (intOf i).toNat)
  case atStart => exact ⟨0, Nat.zero_le _, rfl, HO0, HB0⟩
  case round =>
    obtain ⟨k, hk, rfl, HO, HN⟩ := hrel
    by_cases hlt : k < n
    · have hki : (k : Int) < (n : Int) := by omega
      obtain ⟨qv, cv, rfl, _⟩ := HO.out.read
      have hal : (allL k).length ≤ 64 := by
        rw [allL_len]; have := Nat.pow_le_pow_right (n := 2) (by omega) (show k ≤ 6 by omega); omega
      have HAL := Lib.hid (listsTo_all k); have HL0 := Lib.hid (fun j (h : j < (allL k).length) => listsTo_succ k j h); have HL1 := Lib.hid (fun j (h : j ≤ (allL k).length) => listsTo_len k j h); have HL2 := Lib.hid (fun j (h : j < (allL k).length) => listsTo_low k j j h); have HRL := Lib.hid (fun j (h : j < (allL k).length) => rises_len (allL_rises k j h)); have HOS := Lib.hid (show OwLs wr w.heap.size (.slice qv (allL k).length cv) (listsTo k 0) by rw [listsTo_zero]; exact HO.out); obtain ⟨M, hM⟩ : ∃ M, (allL k).length = M := ⟨_, rfl⟩; rw [hM] at hal HAL HL0 HL1 HL2 HRL HOS ⊢; clear HO hM; obtain ⟨wn, rfl⟩ : ∃ wn : World, wn = wr := ⟨_, rfl⟩; go_wp2
      go_loopw [3, 6] (fun v i wr => ∃ j : Nat, j ≤ M ∧ i = .int .i64 j ∧ Hid (OwLs wr w.heap.size v (listsTo k j)) ∧ Hid (Below w.heap.size w wr)) (fun _ i _ => M - (intOf i).toNat)
      case atStart => exact ⟨0, Nat.zero_le _, rfl, HOS, HN⟩
      case round =>
        obtain ⟨j, hj, rfl, HOX, HX⟩ := hrel
        by_cases hlt2 : j < M
        · have hji : (j : Int) < (M : Int) := by omega
          obtain ⟨qx, cx, rfl, hrd⟩ := HOX.out.read; obtain ⟨hs, ho, he⟩ := HOX.out; have hlx := HL1.out j hj; obtain ⟨b, off, rfl, hc⟩ := hrd.at (i := j) (by omega); obtain ⟨qj, cj, s0, sr⟩ := hc j (by omega); rw [HL2.out j hlt2] at s0 sr; have hgl := HRL.out j hlt2; have HNS := Lib.hid (HL0.out j hlt2); obtain ⟨a, ha⟩ : ∃ a, gl (allL k) j = a := ⟨_, rfl⟩; rw [ha] at s0 sr hgl HNS; obtain ⟨L, hL⟩ : ∃ L, a.length = L := ⟨_, rfl⟩; have HLA := Lib.hid hL; rw [hL] at s0 hgl; obtain ⟨N, hN⟩ : ∃ N, listsTo k j = N := ⟨_, rfl⟩; rw [hN] at ho he hlx HNS; rw [hN]; have HLN := Lib.hid hlx; rw [hlx] at ho; rw [hlx]; have HO1 := Lib.hid ho; have HE1 := Lib.hid he
          have HNW := Lib.hid (show L = 0 ∨ ∃ ad, qj = some ad ∧ ∀ i u, (inV a)[i]? = some u → wr.cell? (ad.add i) = some u by
            have h := news_rd sr; rw [hL] at h; exact h)
          have hx0 : (j : Int) < (M : Int) + (j : Int) := by omega
          have hx1 : (j : Int) < ((M + j : Nat) : Int) := by omega
          clear hc hrd ho he sr ha hL hN hlx HOX; go_wp2_with (at_builtin; refine wpList_append_src _ rfl _ _ 23 rfl wr.heap.size 3 i0 _ 1 8 Tryz.underlying23 hi0 hz0 hz1 hz2 rfl (by decide) (.slice none 0 0) 0 [] rfl (World.ownsRow_nil _ _ _ _) qj L cj (inV a) rfl ?a1 ?a2 ?a3 ?a4 ?a5 ?a6 ?_)
          case a1 => rw [inV_length, HLA.out, Nat.mul_one]
          case a2 => exact HNW.out
          case a3 => exact inV_cell1 _
          case a4 => unfold maxLen; omega
          case a5 => omega
          case a6 => exact Nat.le_refl _
          intro v1 wa hown1 hgrow1 hat1; have HBA := Lib.hid (show Below wr.heap.size wr wa from (Below.refl _ _).grown hgrow1 (Nat.le_refl _) (fun j hj => by simp [Value.ownBlock] at hj)); have HW1 := Lib.hid hown1; clear hown1 hgrow1 hat1; go_wp2_with (at_builtin; refine wpList_append_own _ rfl _ _ 23 rfl wr.heap.size 3 i0 _ 1 8 Tryz.underlying23 hi0 hz0 hz1 hz2 rfl (by decide) _ _ _ rfl (HW1.out.alloc _) ⟨wa.heap.size, 0, none⟩ 1 1 [.int .i64 (k : Int)] rfl rfl ?b1 ?b2 ?b3 ?b4 ?b5 ?_)
          case b1 => exact news_of _ _ _
          case b2 => intro u hu; simp at hu; subst hu; rfl
          case b3 => unfold maxLen; omega
          case b4 => omega
          case b5 => have := HBA.out.size; simp; omega
          intro v2 wb hown2 hgrow2 _; obtain ⟨g2, c2, rfl⟩ := own_form hown2; have HBB := Lib.hid (show Below wr.heap.size wr wb from (HBA.out.alloc HBA.out.size _).grown hgrow2 (by have := HBA.out.size; simp; omega) (fun j hj => (HW1.out.lt j hj).1)); have HW2 := Lib.hid hown2; have HO2 := Lib.hid (own_kept HO1.out HBB.out); have HE2 := Lib.hid (HE1.out.below HBB.out); clear hown2 hgrow2; go_wp2_with (at_builtin; refine wpList_append_own _ rfl _ _ 43 rfl w.heap.size 23 j0 _ 1 24 Tryz.underlying43 hj0 hy0 hy1 hy2 rfl (by decide) _ _ _ rfl (HO2.out.alloc _) ⟨wb.heap.size, 0, none⟩ 1 1 [.slice (some ⟨g2, 0, none⟩) (L + 1) c2] rfl rfl ?d1 ?d2 ?d3 ?d4 ?d5 ?_)
          case d1 => exact news_of _ _ _
          case d2 => intro u hu; simp at hu; subst hu; rfl
          case d3 => unfold maxLen; omega
          case d4 => omega
          case d5 => have := HX.out.size; have := HBB.out.size; simp; omega
          intro v3 w5 hown3 hgrow3 _; have hbw := HX.out.trans (HBB.out.mono HX.out.size); have HB5 := Lib.hid ((hbw.alloc hbw.size (.cells #[.slice (some ⟨g2, 0, none⟩) (L + 1) c2] 23)).grown hgrow3 (by have := hbw.size; simp; omega) (fun j hj => (HO2.out.lt j hj).1)); have ba := below_alloc1 wb (.cells #[.slice (some ⟨g2, 0, none⟩) (L + 1) c2] 23)
          have HOX' := Lib.hid (show OwLs w5 w.heap.size v3 (listsTo k (j + 1)) by
            rw [HNS.out]; refine OwLs.app (hs := hs) (by rw [HLN.out]; exact own_kept HO2.out ba) (HE2.out.below ba) ?_ hgrow3 (by rw [HLN.out]; exact hown3); have h := own_mono (own_kept HW2.out ba) (B' := w.heap.size) HX.out.size; have e : (a ++ [(k : Int)]).length = L + 1 := by rw [List.length_append, HLA.out]; rfl
            rw [e, inV_append]; exact h)
          clear hown3 hgrow3 hbw ba; go_wp2; go_roundw
          case rel => exact ⟨j + 1, by omega, by go_num, HOX', HB5⟩
          case measure => simp [intOf]; omega
        · obtain rfl : j = M := by omega
          have hji : ¬ (j : Int) < (j : Int) := by omega
          rw [HAL.out] at HOX; go_wp2; go_roundw
          case rel => exact ⟨k + 1, by omega, by go_num, HOX, HX⟩
          case measure => simp [intOf]; omega
    · obtain rfl : k = n := by omega
      have hki : ¬ (k : Int) < (k : Int) := by omega
      obtain ⟨qz, cz, rfl, hrz⟩ := HO.out.read; have HZ := Lib.hid hrz; clear hrz; go_wp2; go_ret; exact ⟨qz, cz, rfl, HZ.out, HN.out⟩
end Go.Proofs.YtlednchfifphgabGreatDoor
end

section
namespace Go.Proofs.YtlednchfifphgabGreatDoor
open Go Go.RowKit Go.Proofs
set_option linter.unusedVariables false
set_option linter.unusedSimpArgs false
attribute [local go_sem] imax2 imin2

def RowsOk (ts : List (List Int)) : Prop := ∀ i, i < ts.length → (gl ts i).length ≤ 6 ∧ ∀ j, j < (gl ts i).length → 0 ≤ gi (gl ts i) j ∧ gi (gl ts i) j ≤ 100
theorem rest_range {pl : List Int} (l : List Int) (h : ∀ i, i < pl.length → 0 ≤ gi pl i ∧ gi pl i ≤ 100) : ∀ k, k ≤ pl.length → 0 ≤ restTo pl l k ∧ restTo pl l k ≤ 100 * (k : Int) := by
  intro k
  induction k with
  | zero => intro _; simp [restTo]
  | succ k ih =>
    intro hk; have h1 := ih (by omega); have h2 := h k (by omega); rw [restTo]
    split <;> omega
def enoughL (ts : List (List Int)) (lim : Int) (l : List Int) : Bool := ts.all fun pl => decide (restF pl l ≤ lim)
set_option maxHeartbeats 1600000 in
set_option maxRecDepth 100000 in
theorem r_Enough (q : Option Addr) (c : Nat) (ts : List (List Int)) (qg : Option Addr) (cg : Nat) (gone : List Int) (lim : Int) (w : World) (hq : RdLs w q ts) (hg : RdI w qg gone) (hts : RowsOk ts) (hl : ts.length ≤ 1000) (hgl : gone.length ≤ 1000) :
    Calls Tryz.prog 46 #[.slice q ts.length c, .slice qg gone.length cg, .int .i64 lim] w fun e w' => e = .returned (.bool (enoughL ts lim gone)) ∧ Below w.heap.size w w' := by
  have HQ := Lib.hid hq; have HG := Lib.hid hg; have HT := Lib.hid hts; clear hq hg hts
  go_enter Tryz.func46, Tryz.ntmps46
  go_wp2
  go_loopw [7] (fun i wr => ∃ k : Nat, k ≤ ts.length ∧ i = .int .i64 k ∧ Hid (∀ j, j < k → restF (gl ts j) gone ≤ lim) ∧ Hid (Below w.heap.size w wr)) (fun i _ => ts.length - (intOf i).toNat)
  case atStart => exact ⟨0, Nat.zero_le _, rfl, Lib.hid (fun j hj => by omega), Lib.hid (Below.refl _ _)⟩
  case round =>
    obtain ⟨k, hk, rfl, HK, HN⟩ := hrel
    by_cases hlt : k < ts.length
    · have hki : (k : Int) < (ts.length : Int) := by omega
      obtain ⟨b, off, rfl, hc⟩ := HQ.out.at hlt; obtain ⟨qk, ck, s0, sr⟩ := hc k hlt; obtain ⟨hrl, hrv⟩ := HT.out k hlt; have s0 := (HN.out.cell (lt_of_cellq s0)).trans s0
      have HBAD := Lib.hid (show ¬ restF (gl ts k) gone ≤ lim → enoughL ts lim gone = false from fun g => by
        unfold enoughL; exact all_badP [] hlt (show decide (restF (ts.getD k []) gone ≤ lim) = false from decide_eq_false g))
      have HNX := Lib.hid (show restF (gl ts k) gone ≤ lim → ∀ j, j < k + 1 → restF (gl ts j) gone ≤ lim from upto_succ HK.out); obtain ⟨pl, hpl⟩ : ∃ pl, gl ts k = pl := ⟨_, rfl⟩; rw [hpl] at s0 sr hrl hrv HBAD HNX; have HRR := Lib.hid (rest_range gone hrv); have HRV := Lib.hid hrv; have HSR := Lib.hid (sr.below HN.out); clear hc hpl hrv sr; obtain ⟨wn, rfl⟩ : ∃ wn : World, wn = wr := ⟨_, rfl⟩; go_wp2
      go_loopw [8, 9] (fun v i wr => ∃ j : Nat, j ≤ pl.length ∧ i = .int .i64 j ∧ v = .int .i64 (restTo pl gone j) ∧ Hid (Below wn.heap.size wn wr)) (fun _ i _ => pl.length - (intOf i).toNat)
      case atStart => exact ⟨0, Nat.zero_le _, rfl, rfl, Lib.hid (Below.refl _ _)⟩
      case round =>
        obtain ⟨j, hj, rfl, rfl, HM⟩ := hrel; have s1 := (HM.out.cell (lt_of_cellq s0)).trans s0
        by_cases hlt2 : j < pl.length
        · have hji : (j : Int) < (pl.length : Int) := by omega
          obtain ⟨bp, op, rfl, hcp⟩ := (HSR.out.below HM.out).at hlt2; have d0 := hcp j hlt2; have hv := HRV.out j hlt2; have hr := HRR.out j (by omega); have HL := Lib.hid (fun W (h : Below wr.heap.size wr W) => r_listed qg cg gone (j : Int) W ((HG.out.below (HN.out.trans (HM.out.mono HN.out.size))).below h) (by omega)); have HST : Hid (restTo pl gone (j + 1) = if ((j : Int) ∈ gone) then restTo pl gone j else restTo pl gone j + gi pl j) := Lib.hid rfl; obtain ⟨x, hx⟩ : ∃ x, gi pl j = x := ⟨_, rfl⟩; obtain ⟨s, hs⟩ : ∃ s, restTo pl gone j = s := ⟨_, rfl⟩; rw [hx] at d0 hv HST; rw [hs] at hr HST ⊢; clear hcp hx hs
          by_cases hm : (j : Int) ∈ gone
          · have H := Lib.hid (show restTo pl gone (j + 1) = s by rw [HST.out, if_pos hm])
            have HL2 := Lib.hid (fun W (h : Below wr.heap.size wr W) => show Calls Tryz.prog 101 #[.slice qg gone.length cg, .int .i64 (j : Int)] W fun e w' => e = .returned (.bool true) ∧ Below W.heap.size W w' by
              have h2 := HL.out W h; rw [decide_eq_true hm] at h2; exact h2)
            clear hm HL HST
            (go_wp2_with fail); refine (HL2.out _ (Below.refl _ _)).mono ?_
            rintro e wx ⟨rfl, bq⟩; have HM' := Lib.hid (HM.out.trans (bq.mono HM.out.size)); clear bq; go_wp2; go_roundw
            case rel => exact ⟨j + 1, by omega, by go_num, by rw [H.out], HM'⟩
            case measure => simp [intOf]; omega
          · have H := Lib.hid (show restTo pl gone (j + 1) = s + x by rw [HST.out, if_neg hm])
            have HL2 := Lib.hid (fun W (h : Below wr.heap.size wr W) => show Calls Tryz.prog 101 #[.slice qg gone.length cg, .int .i64 (j : Int)] W fun e w' => e = .returned (.bool false) ∧ Below W.heap.size W w' by
              have h2 := HL.out W h; rw [decide_eq_false hm] at h2; exact h2)
            have hw : IntKind.i64.wrap (s + x) = s + x := w64 _ (by omega) (by omega); clear hm HL HST
            (go_wp2_with fail); refine (HL2.out _ (Below.refl _ _)).mono ?_
            rintro e wx ⟨rfl, bq⟩; have s2 := (bq.cell (lt_of_cellq s1)).trans s1; have d2 := (bq.cell (lt_of_cellq d0)).trans d0; have HM' := Lib.hid (HM.out.trans (bq.mono HM.out.size)); clear bq s1 d0; go_wp2; go_roundw
            case rel => exact ⟨j + 1, by omega, by go_num, by rw [H.out], HM'⟩
            case measure => simp [intOf]; omega
        · obtain rfl : j = pl.length := by omega
          have hji : ¬ (pl.length : Int) < (pl.length : Int) := by omega
          have hE : restTo pl gone pl.length = restF pl gone := rfl; rw [hE]; have HNM := Lib.hid (HN.out.trans (HM.out.mono HN.out.size)); obtain ⟨R, hR⟩ : ∃ R, restF pl gone = R := ⟨_, rfl⟩; rw [hR] at HBAD HNX ⊢; clear hE hR
          by_cases hgt : R > lim
          · have H := Lib.hid (HBAD.out (by omega))
            go_wp2; go_ret; exact ⟨by rw [H.out]; rfl, HNM.out⟩
          · have H := Lib.hid (HNX.out (by omega))
            go_wp2; go_roundw
            case rel => exact ⟨k + 1, by omega, by go_num, H, HNM⟩
            case measure => simp [intOf]; omega
    · obtain rfl : k = ts.length := by omega
      have hki : ¬ (ts.length : Int) < (ts.length : Int) := by omega
      have H := Lib.hid (show enoughL ts lim gone = true from (all_at [] ts).2 fun i hi => decide_eq_true (HK.out i hi)); go_wp2; go_ret; exact ⟨by rw [H.out]; rfl, HN.out⟩

def RdiPost (X : List Int) (w : World) (e : Ending) (w' : World) : Prop := ∃ q c, e = .returned (.slice q X.length c) ∧ RdI w' q X ∧ Below w.heap.size w w'
set_option maxHeartbeats 1600000 in
set_option maxRecDepth 100000 in
theorem r_Renew (q : Option Addr) (c : Nat) (ts : List (List Int)) (pq : Option Addr) (cp : Nat) (prices : List Int) (lim : Int) (w : World) (hq : RdLs w q ts) (hp : RdI w pq prices) (hts : RowsOk ts) (hl : ts.length ≤ 1000) (hpl : prices.length ≤ 6)
    (hpp : ∀ i, i < prices.length → 0 ≤ gi prices i ∧ gi prices i ≤ 1000) :
    Calls Tryz.prog 40 #[.slice q ts.length c, .slice pq prices.length cp, .int .i64 lim] w (RdiPost (goF prices (enoughL ts lim) (setL (2 ^ prices.length - 1) prices.length) (allL prices.length)) w) := by
  have HLS := Lib.hid (r_lists prices.length w (by omega)); have HQ := Lib.hid hq; have HP := Lib.hid hp; have HT := Lib.hid hts; have HPP := Lib.hid hpp
  have hal : (allL prices.length).length ≤ 64 := by
    rw [allL_len]; have := Nat.pow_le_pow_right (n := 2) (by omega) (show prices.length ≤ 6 by omega); omega
  have hal0 : 0 < (allL prices.length).length := by rw [allL_len]; exact Nat.pow_pos (by omega)
  have HLA := Lib.hid (allL_last prices.length); have HRS := Lib.hid (allL_rises prices.length); have HGS := Lib.hid (fun k h => goTo_succ prices (enoughL ts lim) (setL (2 ^ prices.length - 1) prices.length) (allL prices.length) k h); have HG0 := Lib.hid (show goTo prices (enoughL ts lim) (setL (2 ^ prices.length - 1) prices.length) (allL prices.length) 0 = setL (2 ^ prices.length - 1) prices.length from rfl); have HGA := Lib.hid (show goTo prices (enoughL ts lim) (setL (2 ^ prices.length - 1) prices.length) (allL prices.length) (allL prices.length).length = goF prices (enoughL ts lim) (setL (2 ^ prices.length - 1) prices.length) (allL prices.length) by unfold goTo; rw [List.take_length]); clear hq hp hts hpp
  go_enter Tryz.func40, Tryz.ntmps40
  (go_wp2_with fail); refine HLS.out.mono ?_
  rintro e wn ⟨ql, cl, rfl, hrd, bq⟩; have HB := Lib.hid bq; have HR := Lib.hid hrd; clear bq HLS; obtain ⟨A, hA⟩ : ∃ A, allL prices.length = A := ⟨_, rfl⟩; obtain ⟨b0, hb0⟩ : ∃ b0, setL (2 ^ prices.length - 1) prices.length = b0 := ⟨_, rfl⟩; rw [hA] at hal hal0 HLA HRS HGS HG0 HGA HR hrd ⊢; rw [hb0] at HLA HGS HG0 HGA; have HEA := Lib.hid hA; have HEB := Lib.hid hb0; clear hA hb0; obtain ⟨bl, ol, rfl, hc⟩ := hrd.at (i := A.length - 1) (by omega); obtain ⟨qz, cz, s0, sr⟩ := hc (A.length - 1) (by omega); rw [HLA.out] at s0 sr
  have HLR := Lib.hid (show ∀ i, i < b0.length → 0 ≤ gi b0 i ∧ gi b0 i < (prices.length : Int) from fun i hi => by
    have h := HRS.out (A.length - 1) (by omega); rw [HLA.out] at h; exact (h i hi).1)
  have HS0 := Lib.hid sr; have hz0 : (A.length : Int) - 1 < (A.length : Int) := by omega
  have hz1 : (0 : Int) ≤ (A.length : Int) - 1 := by omega
  have hz2 : ((A.length : Int) - 1).toNat = A.length - 1 := by omega
  have hz3 : IntKind.i64.wrap ((A.length : Int) - 1) = (A.length : Int) - 1 := w64 _ (by omega) (by omega); clear hc hrd sr; go_wp2
  go_loopw [8, 9] (fun v i wr => ∃ (k : Nat) (qb : Option Addr) (cb : Nat), k ≤ A.length ∧ i = .int .i64 k ∧ v = .slice qb (goTo prices (enoughL ts lim) b0 A k).length cb ∧ Hid (RdI wr qb (goTo prices (enoughL ts lim) b0 A k)) ∧ Hid (∀ i, i < (goTo prices (enoughL ts lim) b0 A k).length → 0 ≤ gi (goTo prices (enoughL ts lim) b0 A k) i ∧ gi (goTo prices (enoughL ts lim) b0 A k) i < (prices.length : Int)) ∧ Hid ((goTo prices (enoughL ts lim) b0 A k).length ≤ 1000) ∧ Hid (Below wn.heap.size wn wr)) (fun _ i _ => A.length - (intOf i).toNat)
  case atStart =>
    have hlen : b0.length ≤ 1000 := by
      have h := rises_len (HRS.out (A.length - 1) (by omega)); rw [HLA.out] at h; omega
    exact ⟨0, qz, cz, Nat.zero_le _, rfl, by rw [HG0.out], by rw [HG0.out]; exact HS0, by rw [HG0.out]; exact HLR, Lib.hid (by rw [HG0.out]; exact hlen), Lib.hid (Below.refl _ _)⟩
  case round =>
    obtain ⟨k, qb, cb, hk, rfl, rfl, HRB, HRI, HBL, HN⟩ := hrel
    by_cases hlt : k < A.length
    · have hki : (k : Int) < (A.length : Int) := by omega
      obtain ⟨b2, o2, hb2, hc⟩ := HR.out.at hlt
      cases hb2
      obtain ⟨qk, ck, t0, tr⟩ := hc k hlt; have t0 := (HN.out.cell (lt_of_cellq t0)).trans t0; have HTR := Lib.hid (tr.below HN.out); have HAR := Lib.hid (fun i hi => (HRS.out k hlt i hi).1); have har := rises_len (HRS.out k hlt); have HST := Lib.hid (HGS.out k hlt); obtain ⟨a, ha⟩ : ∃ a, gl A k = a := ⟨_, rfl⟩; rw [ha] at t0 HTR HAR har HST; obtain ⟨g, hg⟩ : ∃ g, goTo prices (enoughL ts lim) b0 A k = g := ⟨_, rfl⟩; rw [hg] at HRB HRI HBL HST ⊢; have HWN := Lib.hid (HB.out.trans (HN.out.mono HB.out.size)); have HEN := Lib.hid (fun W (h : Below wr.heap.size wr W) => r_Enough q c ts qk ck a lim W ((HQ.out.below HWN.out).below h) (HTR.out.below h) HT.out hl (by omega)); have HCH := Lib.hid (fun W (h : Below wr.heap.size wr W) => r_Cheaper pq cp prices qk ck a qb cb g W ((HP.out.below HWN.out).below h) (HTR.out.below h) (HRB.out.below h) (by omega) HBL.out HPP.out HAR.out HRI.out); clear hc tr ha hg
      rcases h1 : enoughL ts lim a with _ | _
      · rw [h1] at HEN
        have H := Lib.hid (show goTo prices (enoughL ts lim) b0 A (k + 1) = g by rw [HST.out, h1, if_neg (by simp)]); clear h1
        (go_wp2_with fail); refine (HEN.out _ (Below.refl _ _)).mono ?_
        rintro e wx ⟨rfl, bq⟩; have HN' := Lib.hid (HN.out.trans (bq.mono HN.out.size)); have HRB' := Lib.hid (HRB.out.below bq); clear bq; go_wp2; go_roundw
        case rel => exact ⟨k + 1, qb, cb, by omega, by go_num, by rw [H.out], by rw [H.out]; exact HRB', by rw [H.out]; exact HRI, by rw [H.out]; exact HBL, HN'⟩
        case measure => simp [intOf]; omega
      rw [h1] at HEN
      rcases h2 : keyB prices a g with _ | _
      · rw [h2] at HCH
        have H := Lib.hid (show goTo prices (enoughL ts lim) b0 A (k + 1) = g by rw [HST.out, h1, h2, if_neg (by simp)]); clear h1 h2
        (go_wp2_with fail); refine (HEN.out _ (Below.refl _ _)).mono ?_
        rintro e wx ⟨rfl, bq⟩; have HBX := Lib.hid bq; have t1 := (bq.cell (lt_of_cellq t0)).trans t0; clear bq
        (go_wp2_with fail); refine (HCH.out _ HBX.out).mono ?_
        rintro e wy ⟨rfl, bq⟩; have HBY := Lib.hid (HBX.out.trans (bq.mono HBX.out.size)); have HN' := Lib.hid (HN.out.trans (HBY.out.mono HN.out.size)); have HRB' := Lib.hid (HRB.out.below HBY.out); clear bq; go_wp2; go_roundw
        case rel => exact ⟨k + 1, qb, cb, by omega, by go_num, by rw [H.out], by rw [H.out]; exact HRB', by rw [H.out]; exact HRI, by rw [H.out]; exact HBL, HN'⟩
        case measure => simp [intOf]; omega
      · rw [h2] at HCH
        have H := Lib.hid (show goTo prices (enoughL ts lim) b0 A (k + 1) = a by rw [HST.out, h1, h2, if_pos (by simp)]); clear h1 h2
        (go_wp2_with fail); refine (HEN.out _ (Below.refl _ _)).mono ?_
        rintro e wx ⟨rfl, bq⟩; have HBX := Lib.hid bq; have t1 := (bq.cell (lt_of_cellq t0)).trans t0; clear bq
        (go_wp2_with fail); refine (HCH.out _ HBX.out).mono ?_
        rintro e wy ⟨rfl, bq⟩; have HBY := Lib.hid (HBX.out.trans (bq.mono HBX.out.size)); have t2 := (bq.cell (lt_of_cellq t1)).trans t1; have HN' := Lib.hid (HN.out.trans (HBY.out.mono HN.out.size)); have HTR' := Lib.hid (HTR.out.below HBY.out); clear bq t0 t1; go_wp2; go_roundw
        case rel => exact ⟨k + 1, qk, ck, by omega, by go_num, by rw [H.out], by rw [H.out]; exact HTR', by rw [H.out]; exact HAR, Lib.hid (by rw [H.out]; omega), HN'⟩
        case measure => simp [intOf]; omega
    · obtain rfl : k = A.length := by omega
      have hki : ¬ (A.length : Int) < (A.length : Int) := by omega
      rw [HGA.out] at HRB ⊢; go_wp2; go_ret; rw [HEA.out, HEB.out]; exact ⟨qb, cb, rfl, HRB.out, HB.out.trans (HN.out.mono HB.out.size)⟩
end Go.Proofs.YtlednchfifphgabGreatDoor
end

section
namespace Go.Proofs.YtlednchfifphgabGreatDoor
open Go Go.RowKit Go.Proofs
set_option linter.unusedVariables false
set_option linter.unusedSimpArgs false
attribute [local go_sem] imax2 imin2

end Go.Proofs.YtlednchfifphgabGreatDoor
end

section
namespace Go.Proofs.YtlednchfifphgabGreatDoor
open Go Go.RowKit Go.Proofs
set_option linter.unusedVariables false
set_option linter.unusedSimpArgs false
attribute [local go_sem] imax2 imin2

theorem truthOk {p : Pc} (hpo : PieceOk p) : ∀ i, i < (truthsF p).length → PlaysOk p (gl (truthsF p) i) := fun i hi => truth_plays hpo (by rw [gl_get _ _ hi]; exact List.getElem_mem hi)
theorem truthsFew {p : Pc} (hpo : PieceOk p) : (truthsF p).length ≤ 625 := by
  have h1 := List.length_filter_le (fitsB p) (prodF p.ms); have h2 := take_len_le p.ms p.ms.length hpo.n4 (fun i hi => (hpo.mesh i hi).2.2.2); rw [List.take_length] at h2; exact Nat.le_trans h1 h2
end Go.Proofs.YtlednchfifphgabGreatDoor
end

section
namespace Go.Proofs.YtlednchfifphgabGreatDoor
open Go Go.RowKit Go.Proofs
set_option linter.unusedVariables false
set_option linter.unusedSimpArgs false
attribute [local go_sem] imax2 imin2

end Go.Proofs.YtlednchfifphgabGreatDoor
end

section
namespace Go.Proofs.YtlednchfifphgabGreatDoor
open Go Go.RowKit Go.Proofs
set_option linter.unusedVariables false
set_option linter.unusedSimpArgs false

def LAskNo (er : Int) (w : World) (e : Ending) (w' : World) : Prop := e = .returned (.tuple #[.slice none 0 0, .int .i64 er]) ∧ Below w.heap.size w w'
def LAskOk (p : Pc) (w : World) (e : Ending) (w' : World) : Prop := ∃ q c, e = .returned (.tuple #[.slice q (truthsF p).length c, .int .i64 0]) ∧ RdLs w' q (truthsF p) ∧ Below w.heap.size w w'
set_option maxRecDepth 100000 in
theorem l_asked_no (pm pv pr : Option Addr) (cm cv cr : Nat) (p : Pc) (is : Bool) (w : World) (hp : RdP w pm pv pr p) (hl : LenOk p) (h : (pieceB p && is) = false) :
    Calls Tryz.prog 22 #[.agg #[.slice pm p.ms.length cm, .slice pv p.mv.length cv, .slice pr p.rs.length cr], .bool is] w (LAskNo 2 w) := by
  obtain ⟨w1, e1, HS1, k0, k1, k2, b1⟩ := box3 w (.slice pm p.ms.length cm) (.slice pv p.mv.length cv) (.slice pr p.rs.length cr) 26; have HP := Lib.hid (hp.below b1); have HB := Lib.hid b1; clear hp b1
  rcases h2 : pieceB p with _ | _
  · clear h
    go_enter Tryz.func22, Tryz.ntmps22
    go_wp2_with fail; refine (r_Piece pm pv pr cm cv cr p _ HP.out hl).mono ?_; rw [h2]; rintro e wn ⟨rfl, bq⟩; have HBB := Lib.hid (HB.out.trans (bq.mono HB.out.size)); clear bq e1; go_wp2; refine bodyPost_ret (v := .tuple #[.slice none 0 0, .int .i64 2]) (by simp [results, Tryz.results22, go_sem]) rfl ?_; exact ⟨rfl, HBB.out⟩
  · obtain rfl : is = false := by rw [h2] at h; simpa using h
    clear h
    go_enter Tryz.func22, Tryz.ntmps22
    go_wp2_with fail; refine (r_Piece pm pv pr cm cv cr p _ HP.out hl).mono ?_; rw [h2]; rintro e wn ⟨rfl, bq⟩; have HBB := Lib.hid (HB.out.trans (bq.mono HB.out.size)); clear bq e1; go_wp2; refine bodyPost_ret (v := .tuple #[.slice none 0 0, .int .i64 2]) (by simp [results, Tryz.results22, go_sem]) rfl ?_; exact ⟨rfl, HBB.out⟩
set_option maxRecDepth 100000 in
theorem l_asked_rule (pm pv pr : Option Addr) (cm cv cr : Nat) (p : Pc) (w : World) (hp : RdP w pm pv pr p) (hl : LenOk p) (h : pieceB p = true) (ht : truthsF p = []) :
    Calls Tryz.prog 22 #[.agg #[.slice pm p.ms.length cm, .slice pv p.mv.length cv, .slice pr p.rs.length cr], .bool true] w (LAskNo 7 w) := by
  obtain ⟨w1, e1, HS1, k0, k1, k2, b1⟩ := box3 w (.slice pm p.ms.length cm) (.slice pv p.mv.length cv) (.slice pr p.rs.length cr) 26; have HP := Lib.hid (hp.below b1); have HB := Lib.hid b1; have HT := Lib.hid ht; clear hp b1 ht
  go_enter Tryz.func22, Tryz.ntmps22
  go_wp2_with fail; refine (r_Piece pm pv pr cm cv cr p _ HP.out hl).mono ?_; rw [h]; clear e1; rintro e wn ⟨rfl, bq⟩; replace HB := Lib.hid (HB.out.trans (bq.mono HB.out.size)); replace HP := Lib.hid (HP.out.below bq); have k0 := (bq.cell (lt_of_cellq k0)).trans k0; have k1 := (bq.cell (lt_of_cellq k1)).trans k1; have k2 := (bq.cell (lt_of_cellq k2)).trans k2; clear bq; go_wp2_with fail; refine (r_Truths pm pv pr cm cv cr p _ HP.out (pieceB_iff.1 h)).mono ?_; rw [HT.out]; rintro e w2 ⟨q, c, rfl, hr, bq⟩; have HBB := Lib.hid (HB.out.trans (bq.mono HB.out.size)); clear bq hr; go_wp2; refine bodyPost_ret (v := .tuple #[.slice none 0 0, .int .i64 7]) (by simp [results, Tryz.results22, go_sem]) rfl ?_; exact ⟨rfl, HBB.out⟩
set_option maxRecDepth 100000 in
theorem l_asked_ok (pm pv pr : Option Addr) (cm cv cr : Nat) (p : Pc) (w : World) (hp : RdP w pm pv pr p) (hl : LenOk p) (h : pieceB p = true) (ht : truthsF p ≠ []) :
    Calls Tryz.prog 22 #[.agg #[.slice pm p.ms.length cm, .slice pv p.mv.length cv, .slice pr p.rs.length cr], .bool true] w (LAskOk p w) := by
  obtain ⟨w1, e1, HS1, k0, k1, k2, b1⟩ := box3 w (.slice pm p.ms.length cm) (.slice pv p.mv.length cv) (.slice pr p.rs.length cr) 26; have HP := Lib.hid (hp.below b1); have HB := Lib.hid b1
  have h0 : (((truthsF p).length : Int) == 0) = false := by
    rw [beq_eq_false_iff_ne]; have := List.length_pos_iff.2 ht; omega
  clear hp b1 ht
  go_enter Tryz.func22, Tryz.ntmps22
  go_wp2_with fail; refine (r_Piece pm pv pr cm cv cr p _ HP.out hl).mono ?_; rw [h]; clear e1; rintro e wn ⟨rfl, bq⟩; replace HB := Lib.hid (HB.out.trans (bq.mono HB.out.size)); replace HP := Lib.hid (HP.out.below bq); have k0 := (bq.cell (lt_of_cellq k0)).trans k0; have k1 := (bq.cell (lt_of_cellq k1)).trans k1; have k2 := (bq.cell (lt_of_cellq k2)).trans k2; clear bq; go_wp2_with fail; refine (r_Truths pm pv pr cm cv cr p _ HP.out (pieceB_iff.1 h)).mono ?_; rintro e w2 ⟨q, c, rfl, hr, bq⟩; have HBB := Lib.hid (HB.out.trans (bq.mono HB.out.size)); have HR := Lib.hid hr; clear bq hr; go_wp2; refine bodyPost_ret (v := .tuple #[.slice q (truthsF p).length c, .int .i64 0]) (by simp [results, Tryz.results22, go_sem]) rfl ?_; exact ⟨q, c, rfl, HR.out, HBB.out⟩
end Go.Proofs.YtlednchfifphgabGreatDoor
end

section
namespace Go.Proofs.YtlednchfifphgabGreatDoor
open Go Go.RowKit Go.Proofs
set_option linter.unusedVariables false
set_option linter.unusedSimpArgs false
attribute [local go_sem] imax2 imin2

end Go.Proofs.YtlednchfifphgabGreatDoor
end

section
namespace Go.Proofs.YtlednchfifphgabGreatDoor
open Go Go.RowKit Go.Proofs
set_option linter.unusedVariables false
set_option linter.unusedSimpArgs false
attribute [local go_sem] imax2 imin2

end Go.Proofs.YtlednchfifphgabGreatDoor
end

section
namespace Go.Proofs.YtlednchfifphgabGreatDoor
open Go Go.RowKit Go.Proofs
set_option linter.unusedVariables false
set_option linter.unusedSimpArgs false
attribute [local go_sem] imax2 imin2

theorem err_ok {p : Pc} {fine : Bool} (h : errF p fine = 0) : pieceB p = true ∧ fine = true ∧ truthsF p ≠ [] := by
  unfold errF at h
  by_cases h1 : (pieceB p && fine) = false
  · rw [if_pos h1] at h; cases h
  · rw [if_neg h1] at h
    by_cases h2 : truthsF p = []
    · rw [if_pos h2] at h; cases h
    · rw [Bool.not_eq_false, Bool.and_eq_true] at h1
      exact ⟨h1.1, h1.2, h2⟩
theorem lask_err (pm pv pr : Option Addr) (cm cv cr : Nat) (p : Pc) (fine : Bool) (W : World) (hp : RdP W pm pv pr p) (hl : LenOk p) (h : errF p fine ≠ 0) :
    Calls Tryz.prog 22 #[.agg #[.slice pm p.ms.length cm, .slice pv p.mv.length cv, .slice pr p.rs.length cr], .bool fine] W (LAskNo (errF p fine) W) := by
  by_cases h1 : (pieceB p && fine) = false
  · rw [err_bad h1]; exact l_asked_no pm pv pr cm cv cr p fine W hp hl h1
  · rw [Bool.not_eq_false] at h1
    by_cases h2 : truthsF p = []
    · rw [err_rule h1 h2]
      rw [Bool.and_eq_true] at h1; rw [h1.2]; exact l_asked_rule pm pv pr cm cv cr p W hp hl h1.1 h2
    · rw [Bool.and_eq_true] at h1
      exact absurd (err_good h1.1 h1.2 h2) h
end Go.Proofs.YtlednchfifphgabGreatDoor
end

section
namespace Go.Proofs.YtlednchfifphgabGreatDoor
open Go Go.RowKit Go.Proofs
set_option linter.unusedVariables false
set_option linter.unusedSimpArgs false
attribute [local go_sem] imax2 imin2

end Go.Proofs.YtlednchfifphgabGreatDoor
end

section
namespace Go.Proofs.YtlednchfifphgabGreatDoor
open Go Go.RowKit Go.Proofs
set_option linter.unusedVariables false
set_option linter.unusedSimpArgs false

end Go.Proofs.YtlednchfifphgabGreatDoor
end

section
namespace Go.Proofs.YtlednchfifphgabGreatDoor
open Go Go.RowKit Go.Proofs
set_option linter.unusedVariables false
set_option linter.unusedSimpArgs false
attribute [local go_sem] imax2 imin2

theorem r_Limit (n : Int) (w : World) : Calls Tryz.prog 25 #[.int .i64 n] w fun e w' => e = .returned (.bool (inB n 0 5000)) ∧ Below w.heap.size w w' := by
  go_enter Tryz.func25, Tryz.ntmps25
  (go_wp2_with fail); refine (r_in _ _ _ _).mono ?_
  rintro e wn ⟨rfl, rfl⟩; go_wp2; go_ret; exact ⟨rfl, Below.refl _ _⟩
end Go.Proofs.YtlednchfifphgabGreatDoor
end

section
namespace Go.Proofs.YtlednchfifphgabGreatDoor
open Go Go.RowKit Go.Proofs
set_option linter.unusedVariables false
set_option linter.unusedSimpArgs false
attribute [local go_sem] imax2 imin2

theorem renewFine_eq (p : Pc) (prices : List Int) (lim : Int) : renewFine p prices lim = (pricesB p prices && inB lim 0 5000) := rfl
theorem renew_no {p : Pc} {prices : List Int} {lim er : Int} {w w' : World} {e : Ending} (he : errF p (pricesB p prices && inB lim 0 5000) = er) (h : RenewPost p prices lim w e w') (h0 : er ≠ 0 := by decide) : e = .returned (.tuple #[.slice none 0 0, .int .i64 0, .int .i64 er]) ∧ Below w.heap.size w w' := by
  unfold RenewPost at h; rw [renewFine_eq, he] at h
  rcases h with ⟨⟨_, h⟩ | ⟨h, _⟩, hb⟩
  · exact ⟨h, hb⟩
  · exact absurd h h0
def RenOk (p : Pc) (prices : List Int) (lim : Int) (w : World) (e : Ending) (w' : World) : Prop := ∃ q c, e = .returned (.tuple #[.slice q (renewF p prices lim).length c, .int .i64 (priceF prices (renewF p prices lim)), .int .i64 0]) ∧ RdI w' q (renewF p prices lim) ∧ Below w.heap.size w w'
theorem renew_yes {p : Pc} {prices : List Int} {lim : Int} {w w' : World} {e : Ending} (he : errF p (pricesB p prices && inB lim 0 5000) = 0) (h : RenewPost p prices lim w e w') : RenOk p prices lim w e w' := by
  unfold RenewPost at h; rw [renewFine_eq, he] at h
  rcases h with ⟨⟨h, _⟩ | ⟨_, q, c, h, hr⟩, hb⟩
  · exact absurd rfl h
  · exact ⟨q, c, h, hr, hb⟩
theorem truths_rows {p : Pc} (hpo : PieceOk p) : RowsOk (truthsF p) := fun i hi => by
  have h := truthOk hpo i hi; exact ⟨by rw [h.len]; have := hpo.n4; omega, h.in'⟩
theorem renew_ref {p : Pc} (hpo : PieceOk p) {prices : List Int} {lim : Int} (hl : 0 ≤ lim) (hn : prices.length = p.ms.length) : goF prices (enoughL (truthsF p) lim) (setL (2 ^ prices.length - 1) prices.length) (allL prices.length) = renewF p prices lim := by
  rw [hn]; exact renew_go hpo hl
set_option maxHeartbeats 6400000 in
set_option maxRecDepth 100000 in
theorem law_Renews (pm pv pr : Option Addr) (cm cv cr : Nat) (p : Pc) (pq : Option Addr) (cq : Nat) (prices : List Int) (lim : Int) (m : Int) (w : World) (hp : RdP w pm pv pr p) (hq : RdI w pq prices) (hm : MaxL m w) (hi : ItoaG w) :
    Calls Tryz.prog 9 #[.agg #[.slice pm p.ms.length cm, .slice pv p.mv.length cv, .slice pr p.rs.length cr], .slice pq prices.length cq, .int .i64 lim] w (LawPost w) := by
  obtain ⟨w1, e1, HS1, k0, k1, k2, b1⟩ := box3 w (.slice pm p.ms.length cm) (.slice pv p.mv.length cv) (.slice pr p.rs.length cr) 26; have HP := Lib.hid (hp.below b1); have HQ := Lib.hid (hq.below b1); have HM := Lib.hid hm; have HI := Lib.hid hi; have HB := Lib.hid b1; clear hp hq hm hi b1
  go_enter Tryz.func9, Tryz.ntmps9
  (go_wp2_with fail); refine (c_short pm pv pr cm cv cr p _).mono ?_
  clear e1
  rcases hs : shortB p with _ | _
  · rintro e wn ⟨rfl, bq⟩; replace HB := Lib.hid (HB.out.trans (bq.mono HB.out.size)); clear bq
    (go_wp2_with fail); refine (c_known m _ (HM.out.below HB.out) (HI.out.below HB.out)).mono ?_; rintro e wn ⟨rfl, bq⟩; have HFK := Lib.hid (HB.out.trans (bq.mono HB.out.size)); clear bq; go_wp2; go_ret; exact ⟨rfl, HFK.out⟩
  rintro e wn ⟨rfl, bq⟩; replace HB := Lib.hid (HB.out.trans (bq.mono HB.out.size)); replace HP := Lib.hid (HP.out.below bq); replace HQ := Lib.hid (HQ.out.below bq); have k0 := (bq.cell (lt_of_cellq k0)).trans k0; have k1 := (bq.cell (lt_of_cellq k1)).trans k1; have k2 := (bq.cell (lt_of_cellq k2)).trans k2; clear bq; have HLN := Lib.hid (short_len hs); clear hs
  by_cases h6 : prices.length ≤ 6
  case neg =>
    have h6' : (prices.length : Int) > 6 := by omega
    (go_wp2_with fail); refine (c_known m _ (HM.out.below HB.out) (HI.out.below HB.out)).mono ?_; rintro e wn ⟨rfl, bq⟩; have HFK := Lib.hid (HB.out.trans (bq.mono HB.out.size)); clear bq; go_wp2; go_ret; exact ⟨rfl, HFK.out⟩
  have h6' : decide ((prices.length : Int) > 6) = false := decide_eq_false (by omega); have HKA := Lib.hid (fun W (h : RdP W pm pv pr p) (hq : RdI W pq prices) => c_Renew pm pv pr cm cv cr p pq cq prices lim W h HLN.out hq (by omega))
  rcases h1 : pricesB p prices with _ | _
  · skip
    have HK1 := Lib.hid (fun W (h : RdP W pm pv pr p) (hq : RdI W pq prices) => show Calls Tryz.prog 38 #[.agg #[.slice pm p.ms.length cm, .slice pv p.mv.length cv, .slice pr p.rs.length cr], .slice pq prices.length cq, .int .i64 lim] W fun e w' => e = .returned (.tuple #[.slice none 0 0, .int .i64 0, .int .i64 2]) ∧ Below W.heap.size W w' by
      have hh := HKA.out W h hq; have he : errF p (pricesB p prices && inB lim 0 5000) = 2 := err_bad (by rw [h1, Bool.false_and, Bool.and_false]); exact hh.mono fun e w' g => renew_no he g)
    have HK3 := Lib.hid (fun W (h : RdP W pm pv pr p) => l_asked_no pm pv pr cm cv cr p false W h HLN.out (Bool.and_false _)); unfold LAskNo at HK3; have t1 : ((2 : Int) != 0) = true := by decide
    have HPR := Lib.hid (fun W (h : RdI W pq prices) => show Calls Tryz.prog 39 #[.agg #[.slice pm p.ms.length cm, .slice pv p.mv.length cv, .slice pr p.rs.length cr], .slice pq prices.length cq] W fun e w' => e = .returned (.bool false) ∧ Below W.heap.size W w' by
      have h := r_Prices pm pv pr cm cv cr p pq cq prices W h (by omega); rw [h1] at h; exact h)
    clear HKA
    (go_wp2_with fail); refine (HK1.out _ HP.out HQ.out).mono ?_
    rintro e wn ⟨rfl, bq⟩; replace HB := Lib.hid (HB.out.trans (bq.mono HB.out.size)); replace HP := Lib.hid (HP.out.below bq); replace HQ := Lib.hid (HQ.out.below bq); have k0 := (bq.cell (lt_of_cellq k0)).trans k0; have k1 := (bq.cell (lt_of_cellq k1)).trans k1; have k2 := (bq.cell (lt_of_cellq k2)).trans k2; clear bq; go_wp2; have HSB := Lib.hid (cl3 k0 k1 k2); refine held3 k0 k1 k2 (fun W0 HB0 => ?_); refine tk 0 rfl (by exact HSB.out _ HB0) ?_; (try simp only [Act.put, ptL]); refine tk 1 rfl (by exact HSB.out _ HB0) ?_; (try simp only [Act.put, ptL]); refine tk 2 rfl (by exact HSB.out _ HB0) ?_; (try simp only [Act.put, ptL]); refine rz1 3 rfl ?_; intro K hK; go_simp; refine (HPR.out W0 (HQ.out.below HB0)).mono ?_; rintro e W1 ⟨rfl, ba⟩; have HB1 := HB0.trans (ba.mono HB0.size); clear ba; refine kz hK (by exact HSB.out _ HB1) ?_; clear hK K; (try simp only [Act.put, ptL]); refine tk 4 rfl (by exact HSB.out _ HB1) ?_; (try simp only [Act.put, ptL])
    refine tu 5 rfl (by exact HSB.out _ HB1) ?_; (try simp only [Act.put, ptL]); refine tu 6 rfl (by exact HSB.out _ HB1) ?_; (try simp only [Act.put, ptL]); refine tk 7 rfl (by exact HSB.out _ HB1) ?_; (try simp only [Act.put, ptL]); refine rz1 8 rfl ?_; intro K hK; go_simp; refine (HK3.out W1 (HP.out.below HB1)).mono ?_; rintro e W2 ⟨rfl, ba⟩; have HB2 := HB1.trans (ba.mono HB1.size); clear ba; refine kz hK (by exact HSB.out _ HB2) ?_; clear hK K; (try simp only [Act.put, ptL]); refine tk 9 rfl (by exact HSB.out _ HB2) ?_; (try simp only [Act.put, ptL]); refine tk 10 rfl (by exact HSB.out _ HB2) ?_; (try simp only [Act.put, ptL]); refine tk 11 rfl (by exact HSB.out _ HB2) ?_; (try simp only [Act.put, ptL]); refine tk 12 rfl (by exact HSB.out _ HB2) ?_; (try simp only [Act.put, ptL]); refine tk 13 rfl (by exact HSB.out _ HB2) ?_; (try simp only [Act.put, ptL]); refine wpAnyH_done (by kernel_rfl) ?_ _
    obtain ⟨k0, k1, k2⟩ := HSB.out _ HB2; replace HB := Lib.hid (HB.out.trans (HB2.mono HB.out.size)); replace HP := Lib.hid (HP.out.below HB2); replace HQ := Lib.hid (HQ.out.below HB2); clear HSB HB0 HB1 HB2
    (go_wp2_with fail); refine (c_known m _ (HM.out.below HB.out) (HI.out.below HB.out)).mono ?_; rintro e wn ⟨rfl, bq⟩; have HFK := Lib.hid (HB.out.trans (bq.mono HB.out.size)); clear bq; go_wp2; go_ret; exact ⟨rfl, HFK.out⟩
  rcases h2 : inB lim 0 5000 with _ | _
  · skip
    have HK1 := Lib.hid (fun W (h : RdP W pm pv pr p) (hq : RdI W pq prices) => show Calls Tryz.prog 38 #[.agg #[.slice pm p.ms.length cm, .slice pv p.mv.length cv, .slice pr p.rs.length cr], .slice pq prices.length cq, .int .i64 lim] W fun e w' => e = .returned (.tuple #[.slice none 0 0, .int .i64 0, .int .i64 2]) ∧ Below W.heap.size W w' by
      have hh := HKA.out W h hq; have he : errF p (pricesB p prices && inB lim 0 5000) = 2 := err_bad (by rw [h2, Bool.and_false, Bool.and_false]); exact hh.mono fun e w' g => renew_no he g)
    have HK3 := Lib.hid (fun W (h : RdP W pm pv pr p) => l_asked_no pm pv pr cm cv cr p false W h HLN.out (Bool.and_false _)); unfold LAskNo at HK3; have t1 : ((2 : Int) != 0) = true := by decide
    have HPR := Lib.hid (fun W (h : RdI W pq prices) => show Calls Tryz.prog 39 #[.agg #[.slice pm p.ms.length cm, .slice pv p.mv.length cv, .slice pr p.rs.length cr], .slice pq prices.length cq] W fun e w' => e = .returned (.bool true) ∧ Below W.heap.size W w' by
      have h := r_Prices pm pv pr cm cv cr p pq cq prices W h (by omega); rw [h1] at h; exact h)
    have HLI := Lib.hid (fun W => show Calls Tryz.prog 25 #[.int .i64 lim] W fun e w' => e = .returned (.bool false) ∧ Below W.heap.size W w' by
      have h := r_Limit lim W; rw [h2] at h; exact h)
    clear HKA
    (go_wp2_with fail); refine (HK1.out _ HP.out HQ.out).mono ?_
    rintro e wn ⟨rfl, bq⟩; replace HB := Lib.hid (HB.out.trans (bq.mono HB.out.size)); replace HP := Lib.hid (HP.out.below bq); replace HQ := Lib.hid (HQ.out.below bq); have k0 := (bq.cell (lt_of_cellq k0)).trans k0; have k1 := (bq.cell (lt_of_cellq k1)).trans k1; have k2 := (bq.cell (lt_of_cellq k2)).trans k2; clear bq; go_wp2; have HSB := Lib.hid (cl3 k0 k1 k2); refine held3 k0 k1 k2 (fun W0 HB0 => ?_); refine tk 0 rfl (by exact HSB.out _ HB0) ?_; (try simp only [Act.put, ptL]); refine tk 1 rfl (by exact HSB.out _ HB0) ?_; (try simp only [Act.put, ptL]); refine tk 2 rfl (by exact HSB.out _ HB0) ?_; (try simp only [Act.put, ptL]); refine rz1 3 rfl ?_; intro K hK; go_simp; refine (HPR.out W0 (HQ.out.below HB0)).mono ?_; rintro e W1 ⟨rfl, ba⟩; have HB1 := HB0.trans (ba.mono HB0.size); clear ba; refine kz hK (by exact HSB.out _ HB1) ?_; clear hK K; (try simp only [Act.put, ptL]); refine tk 4 rfl (by exact HSB.out _ HB1) ?_; (try simp only [Act.put, ptL]); refine tk 5 rfl (by exact HSB.out _ HB1) ?_; (try simp only [Act.put, ptL])
    refine rz1 6 rfl ?_; intro K hK; go_simp; refine (HLI.out W1).mono ?_; rintro e W2 ⟨rfl, ba⟩; have HB2 := HB1.trans (ba.mono HB1.size); clear ba; refine kz hK (by exact HSB.out _ HB2) ?_; clear hK K; (try simp only [Act.put, ptL]); refine tk 7 rfl (by exact HSB.out _ HB2) ?_; (try simp only [Act.put, ptL]); refine rz1 8 rfl ?_; intro K hK; go_simp; refine (HK3.out W2 (HP.out.below HB2)).mono ?_; rintro e W3 ⟨rfl, ba⟩; have HB3 := HB2.trans (ba.mono HB2.size); clear ba; refine kz hK (by exact HSB.out _ HB3) ?_; clear hK K; (try simp only [Act.put, ptL]); refine tk 9 rfl (by exact HSB.out _ HB3) ?_; (try simp only [Act.put, ptL]); refine tk 10 rfl (by exact HSB.out _ HB3) ?_; (try simp only [Act.put, ptL]); refine tk 11 rfl (by exact HSB.out _ HB3) ?_; (try simp only [Act.put, ptL]); refine tk 12 rfl (by exact HSB.out _ HB3) ?_; (try simp only [Act.put, ptL]); refine tk 13 rfl (by exact HSB.out _ HB3) ?_; (try simp only [Act.put, ptL])
    refine wpAnyH_done (by kernel_rfl) ?_ _; obtain ⟨k0, k1, k2⟩ := HSB.out _ HB3; replace HB := Lib.hid (HB.out.trans (HB3.mono HB.out.size)); replace HP := Lib.hid (HP.out.below HB3); replace HQ := Lib.hid (HQ.out.below HB3); clear HSB HB0 HB1 HB2 HB3
    (go_wp2_with fail); refine (c_known m _ (HM.out.below HB.out) (HI.out.below HB.out)).mono ?_; rintro e wn ⟨rfl, bq⟩; have HFK := Lib.hid (HB.out.trans (bq.mono HB.out.size)); clear bq; go_wp2; go_ret; exact ⟨rfl, HFK.out⟩
  have HPR := Lib.hid (fun W (h : RdI W pq prices) => show Calls Tryz.prog 39 #[.agg #[.slice pm p.ms.length cm, .slice pv p.mv.length cv, .slice pr p.rs.length cr], .slice pq prices.length cq] W fun e w' => e = .returned (.bool true) ∧ Below W.heap.size W w' by
    have h := r_Prices pm pv pr cm cv cr p pq cq prices W h (by omega); rw [h1] at h; exact h)
  have HLI := Lib.hid (fun W => show Calls Tryz.prog 25 #[.int .i64 lim] W fun e w' => e = .returned (.bool true) ∧ Below W.heap.size W w' by
    have h := r_Limit lim W; rw [h2] at h; exact h)
  have HFN := Lib.hid (show (pricesB p prices && inB lim 0 5000) = true by rw [h1, h2]; rfl); have HPB := Lib.hid (pricesB_iff.1 h1); have HLM := Lib.hid (show 0 ≤ lim from (inB_iff.1 h2).1); clear h1 h2
  by_cases hok : errF p true = 0
  case neg =>
    have HK1 := Lib.hid (fun W (h : RdP W pm pv pr p) (hq : RdI W pq prices) => show Calls Tryz.prog 38 #[.agg #[.slice pm p.ms.length cm, .slice pv p.mv.length cv, .slice pr p.rs.length cr], .slice pq prices.length cq, .int .i64 lim] W fun e w' => e = .returned (.tuple #[.slice none 0 0, .int .i64 0, .int .i64 (errF p true)]) ∧ Below W.heap.size W w' from
      (HKA.out W h hq).mono fun e w' g => renew_no (by rw [HFN.out]) g hok)
    have HK3 := Lib.hid (fun W (h : RdP W pm pv pr p) => lask_err pm pv pr cm cv cr p true W h HLN.out hok); unfold LAskNo at HK3; obtain ⟨er, her⟩ : ∃ er, errF p true = er := ⟨_, rfl⟩; rw [her] at HK1 HK3 hok; have t1 : (er != 0) = true := by simp [hok]
    have t3 : (er == er) = true := by simp
    clear HKA her hok
    (go_wp2_with fail); refine (HK1.out _ HP.out HQ.out).mono ?_
    rintro e wn ⟨rfl, bq⟩; replace HB := Lib.hid (HB.out.trans (bq.mono HB.out.size)); replace HP := Lib.hid (HP.out.below bq); replace HQ := Lib.hid (HQ.out.below bq); have k0 := (bq.cell (lt_of_cellq k0)).trans k0; have k1 := (bq.cell (lt_of_cellq k1)).trans k1; have k2 := (bq.cell (lt_of_cellq k2)).trans k2; clear bq; go_wp2; have HSB := Lib.hid (cl3 k0 k1 k2); refine held3 k0 k1 k2 (fun W0 HB0 => ?_); refine tk 0 rfl (by exact HSB.out _ HB0) ?_; (try simp only [Act.put, ptL]); refine tk 1 rfl (by exact HSB.out _ HB0) ?_; (try simp only [Act.put, ptL]); refine tk 2 rfl (by exact HSB.out _ HB0) ?_; (try simp only [Act.put, ptL]); refine rz1 3 rfl ?_; intro K hK; go_simp; refine (HPR.out W0 (HQ.out.below HB0)).mono ?_; rintro e W1 ⟨rfl, ba⟩; have HB1 := HB0.trans (ba.mono HB0.size); clear ba; refine kz hK (by exact HSB.out _ HB1) ?_; clear hK K; (try simp only [Act.put, ptL]); refine tk 4 rfl (by exact HSB.out _ HB1) ?_; (try simp only [Act.put, ptL]); refine tk 5 rfl (by exact HSB.out _ HB1) ?_; (try simp only [Act.put, ptL])
    refine rz1 6 rfl ?_; intro K hK; go_simp; refine (HLI.out W1).mono ?_; rintro e W2 ⟨rfl, ba⟩; have HB2 := HB1.trans (ba.mono HB1.size); clear ba; refine kz hK (by exact HSB.out _ HB2) ?_; clear hK K; (try simp only [Act.put, ptL]); refine tk 7 rfl (by exact HSB.out _ HB2) ?_; (try simp only [Act.put, ptL]); refine rz1 8 rfl ?_; intro K hK; go_simp; refine (HK3.out W2 (HP.out.below HB2)).mono ?_; rintro e W3 ⟨rfl, ba⟩; have HB3 := HB2.trans (ba.mono HB2.size); clear ba; refine kz hK (by exact HSB.out _ HB3) ?_; clear hK K; (try simp only [Act.put, ptL]); refine tk 9 rfl (by exact HSB.out _ HB3) ?_; (try simp only [Act.put, ptL]); refine tk 10 rfl (by exact HSB.out _ HB3) ?_; (try simp only [Act.put, ptL]); refine tk 11 rfl (by exact HSB.out _ HB3) ?_; (try simp only [Act.put, ptL]); refine tk 12 rfl (by exact HSB.out _ HB3) ?_; (try simp only [Act.put, ptL]); refine tk 13 rfl (by exact HSB.out _ HB3) ?_; (try simp only [Act.put, ptL])
    refine wpAnyH_done (by kernel_rfl) ?_ _; obtain ⟨k0, k1, k2⟩ := HSB.out _ HB3; replace HB := Lib.hid (HB.out.trans (HB3.mono HB.out.size)); replace HP := Lib.hid (HP.out.below HB3); replace HQ := Lib.hid (HQ.out.below HB3); clear HSB HB0 HB1 HB2 HB3
    (go_wp2_with fail); refine (c_known m _ (HM.out.below HB.out) (HI.out.below HB.out)).mono ?_; rintro e wn ⟨rfl, bq⟩; have HFK := Lib.hid (HB.out.trans (bq.mono HB.out.size)); clear bq; go_wp2; go_ret; exact ⟨rfl, HFK.out⟩
  obtain ⟨g1, _, g3⟩ := err_ok hok; have HPO := Lib.hid (pieceB_iff.1 g1); have HK3 := Lib.hid (fun W (h : RdP W pm pv pr p) => l_asked_ok pm pv pr cm cv cr p W h HLN.out g1 g3); have HK1 := Lib.hid (fun W (h : RdP W pm pv pr p) (hq : RdI W pq prices) => (HKA.out W h hq).mono fun e w' g => renew_yes (by rw [HFN.out]; exact hok) g)
  have HRR := Lib.hid (show ∀ (q : Option Addr) (c : Nat) W, RdLs W q (truthsF p) → RdI W pq prices → Calls Tryz.prog 40 #[.slice q (truthsF p).length c, .slice pq prices.length cq, .int .i64 lim] W (RdiPost (renewF p prices lim) W) from fun q c W h hq => by
    have hh := r_Renew q c (truthsF p) pq cq prices lim W h hq (truths_rows HPO.out) (by have := truthsFew HPO.out; omega) h6 HPB.out.2; rw [renew_ref HPO.out HLM.out HPB.out.1] at hh; exact hh)
  have HRI := Lib.hid (show RisesTo (renewF p prices lim) p.ms.length from (cheaper_law (prices := prices) HPO.out HLM.out).1); have HLL := Lib.hid (show (renewF p prices lim).length ≤ 4 by have := rises_len HRI.out; have := HPO.out.n4; omega)
  have HPC := Lib.hid (show ∀ (q : Option Addr) (c : Nat) W, RdI W pq prices → RdI W q (renewF p prices lim) → Calls Tryz.prog 42 #[.slice pq prices.length cq, .slice q (renewF p prices lim).length c] W fun e w' => e = .returned (.int .i64 (priceF prices (renewF p prices lim))) ∧ Below W.heap.size W w' from fun q c W h hq =>
    r_Price pq cq prices q c (renewF p prices lim) W h hq (by have := HLL.out; omega) HPB.out.2 (fun i hi => by have := (HRI.out i hi).1; have := HPB.out.1; omega))
  have HSM := Lib.hid (show ∀ (q : Option Addr) (c : Nat) (q' : Option Addr) (c' : Nat) W, RdI W q (renewF p prices lim) → RdI W q' (renewF p prices lim) → Calls Tryz.prog 41 #[.slice q (renewF p prices lim).length c, .slice q' (renewF p prices lim).length c'] W fun e w' => e = .returned (.bool true) ∧ Below W.heap.size W w' from fun q c q' c' W h h' =>
    (c_same q c (renewF p prices lim) q' c' (renewF p prices lim) W h h' (by have := HLL.out; omega)).mono fun e w' g => by
      obtain ⟨g1, n, rfl⟩ := g; rw [decide_eq_true rfl] at g1; exact ⟨g1, below_drewN (Below.refl _ _) _⟩)
  obtain ⟨X, hX⟩ : ∃ X, renewF p prices lim = X := ⟨_, rfl⟩; unfold RenOk at HK1; rw [hX] at HK1 HRR HPC HSM HLL; obtain ⟨C, hC⟩ : ∃ C, priceF prices X = C := ⟨_, rfl⟩; rw [hC] at HK1 HPC; have t2 : (C == C) = true := by simp
  clear HKA hX hC HRI hok g1 g3
  (go_wp2_with fail); refine (HK1.out _ HP.out HQ.out).mono ?_
  rintro e wn ⟨qx, cx, rfl, hx, bq⟩
  skip; replace HB := Lib.hid (HB.out.trans (bq.mono HB.out.size)); replace HP := Lib.hid (HP.out.below bq); replace HQ := Lib.hid (HQ.out.below bq); have k0 := (bq.cell (lt_of_cellq k0)).trans k0; have k1 := (bq.cell (lt_of_cellq k1)).trans k1; have k2 := (bq.cell (lt_of_cellq k2)).trans k2; clear bq
  have HX := Lib.hid hx; clear hx; go_wp2; have HSB := Lib.hid (cl3 k0 k1 k2); refine held3 k0 k1 k2 (fun W0 HB0 => ?_); refine tk 0 rfl (by exact HSB.out _ HB0) ?_; (try simp only [Act.put, ptL]); refine tk 1 rfl (by exact HSB.out _ HB0) ?_; (try simp only [Act.put, ptL]); refine tk 2 rfl (by exact HSB.out _ HB0) ?_; (try simp only [Act.put, ptL]); refine rz1 3 rfl ?_; intro K hK; go_simp; refine (HPR.out W0 (HQ.out.below HB0)).mono ?_; rintro e W1 ⟨rfl, ba⟩; have HB1 := HB0.trans (ba.mono HB0.size); clear ba; refine kz hK (by exact HSB.out _ HB1) ?_; clear hK K; (try simp only [Act.put, ptL]); refine tk 4 rfl (by exact HSB.out _ HB1) ?_; (try simp only [Act.put, ptL]); refine tk 5 rfl (by exact HSB.out _ HB1) ?_; (try simp only [Act.put, ptL]); refine rz1 6 rfl ?_; intro K hK; go_simp; refine (HLI.out W1).mono ?_; rintro e W2 ⟨rfl, ba⟩; have HB2 := HB1.trans (ba.mono HB1.size); clear ba
  refine kz hK (by exact HSB.out _ HB2) ?_; clear hK K; (try simp only [Act.put, ptL]); refine tk 7 rfl (by exact HSB.out _ HB2) ?_; (try simp only [Act.put, ptL]); refine rz1 8 rfl ?_; intro K hK; go_simp; refine (HK3.out W2 (HP.out.below HB2)).mono ?_; rintro e W3 ⟨q, c, rfl, hr, ba⟩; have HB3 := HB2.trans (ba.mono HB2.size); clear ba; refine kz hK (by exact HSB.out _ HB3) ?_; clear hK K; (try simp only [Act.put, ptL]); refine tk 9 rfl (by exact HSB.out _ HB3) ?_; (try simp only [Act.put, ptL]); refine tk 10 rfl (by exact HSB.out _ HB3) ?_; (try simp only [Act.put, ptL]); refine tk 11 rfl (by exact HSB.out _ HB3) ?_; (try simp only [Act.put, ptL]); refine tk 12 rfl (by exact HSB.out _ HB3) ?_; (try simp only [Act.put, ptL]); refine tk 13 rfl (by exact HSB.out _ HB3) ?_; (try simp only [Act.put, ptL]); refine wpAnyH_done (by kernel_rfl) ?_ _; obtain ⟨k0, k1, k2⟩ := HSB.out _ HB3; replace HB := Lib.hid (HB.out.trans (HB3.mono HB.out.size))
  replace HP := Lib.hid (HP.out.below HB3); replace HQ := Lib.hid (HQ.out.below HB3); replace HX := Lib.hid (HX.out.below HB3); clear HSB HB0 HB1 HB2 HB3; have HR := Lib.hid hr; clear hr
  (go_wp2_with fail); refine (HRR.out _ _ _ HR.out HQ.out).mono ?_
  rintro e wn ⟨qy, cy, rfl, hy, bq⟩
  skip; replace HB := Lib.hid (HB.out.trans (bq.mono HB.out.size)); replace HP := Lib.hid (HP.out.below bq); replace HQ := Lib.hid (HQ.out.below bq); replace HX := Lib.hid (HX.out.below bq); have k0 := (bq.cell (lt_of_cellq k0)).trans k0; have k1 := (bq.cell (lt_of_cellq k1)).trans k1; have k2 := (bq.cell (lt_of_cellq k2)).trans k2; clear bq
  have HY := Lib.hid hy; clear hy
  (go_wp2_with fail); refine (HSM.out _ _ _ _ _ HX.out HY.out).mono ?_
  rintro e wn ⟨rfl, bq⟩; replace HB := Lib.hid (HB.out.trans (bq.mono HB.out.size)); replace HP := Lib.hid (HP.out.below bq); replace HQ := Lib.hid (HQ.out.below bq); replace HX := Lib.hid (HX.out.below bq); replace HY := Lib.hid (HY.out.below bq); have k0 := (bq.cell (lt_of_cellq k0)).trans k0; have k1 := (bq.cell (lt_of_cellq k1)).trans k1; have k2 := (bq.cell (lt_of_cellq k2)).trans k2; clear bq
  (go_wp2_with fail); refine (HPC.out _ _ _ HQ.out HY.out).mono ?_
  rintro e wn ⟨rfl, bq⟩; replace HB := Lib.hid (HB.out.trans (bq.mono HB.out.size)); clear bq
  (go_wp2_with fail); refine (c_known m _ (HM.out.below HB.out) (HI.out.below HB.out)).mono ?_; rintro e wn ⟨rfl, bq⟩; have HFK := Lib.hid (HB.out.trans (bq.mono HB.out.size)); clear bq; go_wp2; go_ret; exact ⟨rfl, HFK.out⟩
end Go.Proofs.YtlednchfifphgabGreatDoor
end

section
namespace Go.Proofs.YtlednchfifphgabGreatDoor
open Go Go.ChangeShapes Go.WideShapes Go.ChangeAt Go.RowKit Go.Proofs
set_option linter.unusedVariables false

set_option maxRecDepth 100000 in
theorem slackRenews_lifted (os : Os) (started : os.Started) (H : Type) (enc : TypeId × Value → H) :
    ReturnsInHanded {} Tryz.checked os 9 .any (fun w args => (Rows.slackRenewsSpec.pre enc Tryz.prog Tryz.f9 [] false w args ∧ laidMetH Tryz.prog lay5 w) ∧ sizedMet enc Tryz.prog Tryz.f9 (OpenSpec.ofChange Rows.slackRenewsSpec) false w args)
      (Rows.slackRenewsSpec.post enc Tryz.prog Tryz.f9 false true false false) := by
  refine returns_listed (C := Tryz.checked) (X := fun w _ => laidMetH Tryz.prog lay5 w) (fun _ _ _ hh h => h.of_heap hh) ownT started (by kernel_rfl) Tryz.func9
    (ChangeSpec.witness_shaped (enc := enc) (C := Tryz.checked) (os := os) (X := fun w _ => laidMetH Tryz.prog lay5 w) false (World.laidAll Tryz.prog os lay5) #[.agg #[.slice none 0 0, .slice none 0 0, .slice none 0 0], .slice none 0 0, .int .i64 0] 12 (World.laidAll_os _ _ _)
      (World.shaped_of_ZipB (by kernel_rfl) (by kernel_rfl)) (by kernel_rfl) (by kernel_rfl) (by kernel_rfl)
      (by rw [MakeChecks.laidMetH_plain _ _ _ (by kernel_rfl)]; exact laidMet_laidAll _ (by kernel_rfl) (by kernel_rfl))) ?_
  intro W base args ds gs before hval0 hW hX hSh; have hval : ∀ (j : Nat) t v, Tryz.f9.params[j]? = some t → args[j]? = some v → Value.okWide Tryz.prog W .any base t v := hval0; have hW' := hW; obtain ⟨p, q, hA0, hV, rfl, _, _⟩ := hW; have hA : DataW.TrodAll enc Tryz.prog W 0 (fun _ => true) true Tryz.f9.params.toList args.toList ds p := hA0; rw [Tryz.params9] at hA hval; obtain ⟨v0, vs0, d0, ds0, p0, q0, hargs, rfl, rfl, h0, r0⟩ := trodAll_cons hA; obtain ⟨v1, vs1, d1, ds1, p1, q1, rfl, rfl, rfl, h1, r1⟩ := trodAll_cons r0; obtain ⟨v2, vs2, d2, ds2, p2, q2, rfl, rfl, rfl, h2, r2⟩ := trodAll_cons r1; obtain ⟨rfl, rfl, rfl⟩ := trodAll_nil r2; obtain rfl : args = #[v0, v1, v2] := by cases args; simp_all
  obtain ⟨rfl, rfl⟩ := trodVars_none hV; obtain ⟨pm0, pv0, pr0, cm0, cv0, cr0, p0, rfl, rd0⟩ := op_piece (hval 0 26 v0 rfl rfl) h0; obtain ⟨b1, c1, xs1, rfl, rd1, hl1⟩ := op_ints (hval 1 23 v1 rfl rfl) h1; obtain ⟨a2, rfl, la2, ua2⟩ := op_int (hval 2 3 v2 rfl rfl) h2; clear hA0 hval0; obtain ⟨m, hm⟩ := maxLen_of hSh; have hit := itoaG_of (pow10_of hX); refine (law_Renews pm0 pv0 pr0 cm0 cv0 cr0 p0 b1 c1 xs1 a2 m W rd0 rd1 hm hit).mono fun e W' ⟨he, bel⟩ => ?_
  subst he; exact ⟨_, rfl, _, _, _, [], _, [], hW', trodAll_mk1 (shut_bool Tryz.underlying4 _), (trodAll_cons_mk (Below.trod laidOutT (by kernel_rfl) (of_decide_eq_true (by kernel_rfl)) h0 bel (trod_lt h0)) (trodAll_cons_mk (Below.trod laidOutT (by kernel_rfl) (of_decide_eq_true (by kernel_rfl)) h1 bel (trod_lt h1)) (trodAll_cons_mk (Below.trod laidOutT (by kernel_rfl) (of_decide_eq_true (by kernel_rfl)) h2 bel (trod_lt h2)) trodAll_mk0))), rfl, bel.frame _, fun h => by cases h⟩
theorem slackRenews_wf : Rows.slackRenewsRow.wf (OpenSpec.ofChange Rows.slackRenewsSpec) = true := by kernel_rfl
theorem slackRenews_inPlace : (Rows.slackRenewsRow.inPlace == Tryz.prog.inPlace 9) = true := by kernel_rfl
theorem slackRenews_unfollowed : (Rows.slackRenewsRow.unfollowed == Tryz.prog.unfollowed 9) = true := by kernel_rfl
theorem slackRenews_recurses : (Rows.slackRenewsRow.recurses == Tryz.prog.recurses 9) = true := by kernel_rfl
theorem slackRenews_named : (Rows.slackRenewsRow.named == Tryz.prog.varsNamed 9) = true := by kernel_rfl
theorem slackRenews_goes : false = Rows.slackRenewsRow.goesBy Tryz.prog := by kernel_rfl
theorem slackRenews_func : Tryz.prog.funcNamed Rows.slackRenewsRow.func = some 9 := by kernel_rfl
theorem slackRenews_text : Rows.slackRenewsRow.wfByText (OpenSpec.ofChange Rows.slackRenewsSpec) = true := by kernel_rfl
theorem slackRenews_closed : joinedFacts Tryz.prog 9 Tryz.f9 Rows.slackRenewsSpec Rows.slackRenewsRow = true :=
  (and_t (and_t (and_t (and_t (and_t (and_t (and_t (and_t (and_t (and_t (and_t (and_t (and_t (and_t (and_t (and_t (and_t (and_t (and_t (and_t (and_t (and_t (and_t (and_t (and_t (and_t (and_t (and_t (and_t (and_t (and_t slackRenews_wf tLaidOut) tMaps) (by kernel_rfl)) (by kernel_rfl)) (by kernel_rfl)) (by kernel_rfl)) (by kernel_rfl)) (by kernel_rfl)) slackRenews_inPlace) slackRenews_unfollowed) slackRenews_recurses) slackRenews_named) (by kernel_rfl)) (by kernel_rfl)) (by kernel_rfl)) (by kernel_rfl)) (by kernel_rfl)) (by kernel_rfl)) (by kernel_rfl)) (by kernel_rfl)) (by kernel_rfl)) (by kernel_rfl)) (by kernel_rfl)) tHeard) tMayEnter) (eq_t (α := Bool) tFinal.symm)) (eq_t tMake)) (by kernel_rfl)) (by kernel_rfl)) (by kernel_rfl)) (by kernel_rfl))
theorem slackRenews_wrap : Func.isWrapper Tryz.prog Tryz.f9 Rows.slackRenewsRow.wrapper Rows.slackRenewsRow.mainSum := by unfold Func.isWrapper; rw [if_neg (of_decide_eq_false (by kernel_rfl))]; exact ⟨rfl, rfl⟩
theorem slackRenews_row : Rows.SlackRenewsSaid :=
  OpenClaim.holds_of_wide 9 Tryz.f9 rfl rfl rfl rfl rfl rfl rfl ⟨rfl, rfl, rfl, rfl, rfl⟩ rfl rfl rfl rfl rfl slackRenews_func Tryz.func9 slackRenews_closed (of_decide_eq_true (by kernel_rfl)) slackRenews_wrap (fun os started H enc _ => slackRenews_lifted os started H enc)
theorem slackRenews_plain : ∀ (j : Nat) t, Tryz.f9.params[j]? = some t → Tryz.prog.wantsStandIn t = false := fun j t ht => by
  rw [Tryz.params9] at ht; have hm : t ∈ [26, 23, 3] := by simpa using Array.mem_of_getElem? ht
  have hall : ([26, 23, 3].all fun u => !Tryz.prog.wantsStandIn u) = true := by kernel_rfl
  exact (show Tryz.prog.wantsStandIn t = false by simpa using List.all_eq_true.1 hall t hm)
theorem slackRenews_holds : Rows.SlackRenewsCardSaid :=
  Claim7.holds_tied_plain_at .later [] [.data, .data, .data, .data, .pinned] true (true, "be822bbd39a17464ee6526ca2e9d32d2a3a9815fece3866167cb0f3f46fef96e") true slackRenews_row (fun _ h => by cases h) slackRenews_text (fun _ h => by cases h) slackRenews_row_tie rfl ⟨rfl, rfl⟩ tMainIs rfl
    (fun f fn hf hfn => by
      obtain rfl : f = 9 := Option.some.inj (slackRenews_func.symm.trans hf) |>.symm
      obtain rfl : fn = Tryz.f9 := (Option.some.inj (Tryz.func9.symm.trans hfn)).symm; exact ⟨tLooks, slackRenews_plain⟩)
    slackRenews_goes
#print axioms slackRenews_holds
end Go.Proofs.YtlednchfifphgabGreatDoor
end
