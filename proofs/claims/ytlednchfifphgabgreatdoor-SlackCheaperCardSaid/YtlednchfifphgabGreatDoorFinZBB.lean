/-
  Plain laws of chains of arbors (no program in sight): where all arbors are before the first move, and after a move.
  Base words of these seats' walks: what slices that are only read hold; regions that draw their order; boxes; owned rows.
  Plain laws of bounds, of lost motion, and of a crank that is turned on and back (no program in sight).
  Plain laws of meshes that are renewed (no program in sight).
  Plain law of a chain whose meshes were renewed: turned on far enough, it loses no more than the limit (no program in sight).
  What the references do, step by step: hulls, all plays mesh by mesh, lists of meshes; no program in sight.
  Prices, lists of meshes and what they cost, in the document's words: contracts.
  A move made in two parts: what the moves are then, and where the arbors are (no program in sight).
  A negation in a quiet walk.
  A drawn region whose cells are known: its beginning, in short words.
  The document's move of all arbors, and where all arbors are: contracts.
  The document's places before the first move and after each one: contract.
  Whether plays are a truth, in the document's words: contract.
  All truths, in the document's words: contract.
  Better lists, all lists, and whether a list is enough, in the document's words: contracts.
  Whether a list is enough, and the best list, in the document's words: contracts.
  Where all arbors are after all moves, in each of some truths: contract.
  How many truths are left, and which arbor should be read, in the document's words: contracts.
  The least and the greatest number at each place of some lists: contracts.
  What the laws ask: a piece's truths, or its error; contracts.
  The stage's theorem: what is known of a piece (the walk).
  A piece with some moves more, or with one reading more, in the document's words: contracts.
  By how much the crank can be turned before an arbor moves (the walk).
  The theorem of lost motion (the walk).
  The laws' word on plain spans: contract.
  What is a place, and a limit, in the document's words; whether an arbor surely is near to a place after a move more, in the law's words: contracts.
  Which meshes are to be renewed, and their price (the walk; printed by ref.py, renews.py).
  Plain laws of meshes that are renewed, one by one (no program in sight).
  A piece in which a mesh has a play that is known: contract.
  Whether a list is one of rising numbers of meshes, and a piece that is renewed, in the law's words: contracts (printed by ref.py).
  A goal that is met on many ways, proved once.
  The theorem of meshes whose renewal costs the least (the walk; printed by ref.py, lawgen.py's dag).
  The law SlackCheaper: its card. Conditions: none of the input; the tables of the library that the row lists are as the program lays them (the tie is given).
-/
import Derived.Test.YtlednchfifphgabGreatDoorGA
import Derived.Test.YtlednchfifphgabGreatDoorProg
import Derived.WalkKit
import Derived.WalkSpells
import Derived.WalkLawsBesides
import Derived.Handy
import Derived.Deep.QuietTactic
import Derived.BigQuiet
import Derived.Outline
import Derived.Below
import Derived.Lib.Hide
import Derived.Maps.RangeWalk
import Derived.StillTailTactics
import Derived.WalkMore
import Derived.Deep.RegionHeld3
import Derived.Deep.Cut
import Derived.RangeFuncBox
import Derived.Test.YtlednchfifphgabGreatDoorGC
import Derived.Test.YtlednchfifphgabGreatDoorGG
import Derived.Test.YtlednchfifphgabGreatDoorGH
import Derived.Test.YtlednchfifphgabGreatDoorGL
import Derived.Test.YtlednchfifphgabGreatDoorGD
import Derived.Deep.Upon
import Derived.Deep.AppendLies
import Derived.Deep.RegionLaw
import Derived.OwnWalk
import Derived.Maps.AppendAt
import Derived.Test.YtlednchfifphgabGreatDoorGJ
import Derived.Test.YtlednchfifphgabGreatDoorGM
import Derived.Test.YtlednchfifphgabGreatDoorGN
import Derived.Test.YtlednchfifphgabGreatDoorGQ
import Derived.Test.YtlednchfifphgabGreatDoorGV
import Derived.Test.YtlednchfifphgabGreatDoorGY
import Derived.Test.YtlednchfifphgabGreatDoorGS
import Derived.Test.YtlednchfifphgabGreatDoorGZ
import Derived.Test.YtlednchfifphgabGreatDoorCards
section
namespace Go.Proofs.YtlednchfifphgabGreatDoor

theorem mvF_stepBack {pl pc : List Int} {m : Int} (hc : Chain pl pc) (hm : ¬ 0 ≤ m) (k : Nat) (h : k < pl.length) : gi (mvF pl pc m) (k + 1) = min (gi pc (k + 1)) (gi (mvF pl pc m) k) := by
  rw [mvF_back hm k (by omega), mvF_back hm (k + 1) (by omega)]; have := hc.le k h; omega
theorem mvF_stepRef {pl pc : List Int} {m : Int} (hp : Pos pl) (hc : Chain pl pc) (k : Nat) (h : k < pl.length) : gi (mvF pl pc m) (k + 1) = min (gi (mvF pl pc m) k) (max (gi (mvF pl pc m) k - gi pl k) (gi pc (k + 1))) := by
  have h3 := (mvF_chain hp hc m).le k h; have h4 := hp k h
  by_cases hm : 0 ≤ m
  · rw [mvF_stepOn hc hm k h] at h3 ⊢; omega
  · have h5 := hc.ge k h
    have h6 := mvF_back hm k (pc := pc) (pl := pl) (by omega); rw [mvF_stepBack hc hm k h] at h3 ⊢; omega
def mostF (mv : List Int) : Nat → Int
  | 0 => 0
  | k + 1 => max (mostF mv k) (sumT mv (k + 1))
theorem runF_most {pl : List Int} (mv : List Int) : ∀ i k, k ≤ pl.length → gi (runF pl mv i) k ≤ mostF mv i - sumT pl k := by
  intro i
  induction i with
  | zero => intro k hk; show gi (begF pl) k ≤ _; rw [begF_at pl k hk]; simp [mostF]
  | succ i ih =>
    intro k hk; have h1 := ih k hk; have h0 := runF_zero pl mv i; show gi (mvF pl (runF pl mv i) (gi mv i)) k ≤ _; have hs : sumT mv (i + 1) = sumT mv i + gi mv i := rfl
    by_cases hm : 0 ≤ gi mv i
    · rw [mvF_on hm k hk, h0]; simp only [mostF]; omega
    · rw [mvF_back hm k hk, h0]; simp only [mostF]; omega
theorem runF_full {pl : List Int} (hp : Pos pl) (mv : List Int) {i : Nat} (h : mostF mv i ≤ sumT mv i) (k : Nat) (hk : k ≤ pl.length) : gi (runF pl mv i) k = sumT mv i - sumT pl k := by
  have h1 := runF_most (pl := pl) mv i k hk; have h2 := (runF_chain hp mv i).low k hk; rw [runF_zero] at h2; omega
end Go.Proofs.YtlednchfifphgabGreatDoor
end

section
namespace Go.Proofs.YtlednchfifphgabGreatDoor
open Go Go.RowKit Go.Proofs
set_option linter.unusedVariables false

section
variable {P : Program} {C : World → Prop} {K : Act → Prop} {a : Act} {ops : Array Oper} {Q : Act → Prop} {o : Oper} {rest : List Oper}

variable {d : Nat} {x y : Operand} {t t' ty : TypeId} {pos : String} {af : Array Edge} {g : Option (Nat × Bool)} {m n : Int}

variable {z : Operand} {l : Int} {ats : Array TypeId}
end


section
variable {P : Program} {ops : Array Oper} {C : World → Prop} {Q : Act → Prop} {rest : List Oper} {a : Act} {d : Nat} {x y : Operand} {ty t t' : TypeId} {pos : String} {af : Array Edge} {g : Option (Nat × Bool)}
end
theorem inV_length (a : List Int) : (inV a).length = a.length := by simp [inV]
section
variable {P : Program} {ops : Array Oper} {md : Region.Mode} {C : World → Prop}

end
end Go.Proofs.YtlednchfifphgabGreatDoor
end

section
namespace Go.Proofs.YtlednchfifphgabGreatDoor
set_option linter.unusedVariables false

theorem ne_of_mem {α : Type} {l : List α} {x : α} (h : x ∈ l) : l ≠ [] := by rintro rfl; cases h
theorem proved_true {p : Pc} {pl : List Int} (h : pl ∈ truthsF p) (i : Nat) (hi : i < p.ms.length) : (gm (provedF p) i).1 ≤ gi pl i ∧ gi pl i ≤ (gm (provedF p) i).2 := by
  rw [provedF_at p i hi]; exact ovF_mem (fun pl => just (gi pl i)) h
theorem proved_plain {p : Pc} (hp : PieceOk p) (h : truthsF p ≠ []) (i : Nat) (hi : i < p.ms.length) : 0 ≤ (gm (provedF p) i).1 ∧ (gm (provedF p) i).1 ≤ (gm (provedF p) i).2 ∧ (gm (provedF p) i).2 ≤ 100 := by
  rw [provedF_at p i hi]; refine ovF_in _ _ _ h fun pl hpl => ?_
  have hk := truth_plays hp hpl; have := hk.in' i (by rw [hk.len]; exact hi); exact ⟨this.1, Int.le_refl _, this.2⟩

def onF (p : Pc) (l : List Int) : Pc := { p with mv := p.mv ++ l }
theorem gi_app (a b : List Int) (i : Nat) (h : i < a.length) : gi (a ++ b) i = gi a i := by
  unfold gi; rw [List.getD_eq_getElem?_getD, List.getD_eq_getElem?_getD, List.getElem?_append_left h]
theorem gi_app2 (a b : List Int) (i : Nat) : gi (a ++ b) (a.length + i) = gi b i := by
  unfold gi; rw [List.getD_eq_getElem?_getD, List.getD_eq_getElem?_getD, List.getElem?_append_right (by omega)]; congr 2; omega
theorem onF_piece {p : Pc} (hp : PieceOk p) {l : List Int} (h8 : p.mv.length + l.length ≤ 8) (h : ∀ i, i < l.length → -300 ≤ gi l i ∧ gi l i ≤ 300) : PieceOk (onF p l) := by
  refine ⟨hp.n1, hp.n4, by simp [onF]; omega, hp.r6, hp.mesh, fun i hi => ?_, fun i hi => ?_⟩
  · show -300 ≤ gi (p.mv ++ l) i ∧ gi (p.mv ++ l) i ≤ 300
    have hi' : i < (p.mv ++ l).length := hi; rw [List.length_append] at hi'
    by_cases h1 : i < p.mv.length
    · rw [gi_app _ _ _ h1]; exact hp.move i h1
    · obtain ⟨k, rfl⟩ : ∃ k, i = p.mv.length + k := ⟨i - p.mv.length, by omega⟩
      rw [gi_app2]; exact h k (by omega)
  · have := hp.read i hi
    refine ⟨⟨this.1.1, ?_⟩, this.2⟩; have : (onF p l).mv.length = p.mv.length + l.length := by simp [onF]
    rw [this]; have := (hp.read i hi).1.2; show (gr p.rs i).aft ≤ _; omega
end Go.Proofs.YtlednchfifphgabGreatDoor
end

section
namespace Go.Proofs.YtlednchfifphgabGreatDoor
set_option linter.unusedVariables false

theorem lexB_total : ∀ a b, a ≠ b → lexB a b = true ∨ lexB b a = true := by
  intro a
  induction a with
  | nil => intro b h; cases b with
    | nil => exact absurd rfl h
    | cons y b => exact .inl rfl
  | cons x a ih =>
    intro b h
    cases b with
    | nil => exact .inr rfl
    | cons y b =>
      by_cases e : x = y
      · subst e
        simp only [lexB, if_true]; exact ih b fun he => h (by rw [he])
      · simp only [lexB, if_neg e, if_neg (Ne.symm e), decide_eq_true_eq]
        omega
theorem lexB_trans : ∀ a b c, lexB a b = true → lexB b c = true → lexB a c = true := by
  intro a
  induction a with
  | nil =>
    intro b c h1 h2
    cases c with
    | nil => cases b <;> simp [lexB] at h2
    | cons z c => rfl
  | cons x a ih =>
    intro b c h1 h2
    cases b with
    | nil => simp [lexB] at h1
    | cons y b =>
      cases c with
      | nil => simp [lexB] at h2
      | cons z c =>
        simp only [lexB] at h1 h2 ⊢
        by_cases e1 : x = y
        · subst e1
          rw [if_pos rfl] at h1
          by_cases e2 : x = z
          · subst e2; rw [if_pos rfl] at h2 ⊢; exact ih b c h1 h2
          · rw [if_neg e2] at h2 ⊢; exact h2
        · rw [if_neg e1] at h1
          have h1' := of_decide_eq_true h1
          by_cases e2 : y = z
          · subst e2; rw [if_neg e1]; exact h1
          · rw [if_neg e2] at h2
            have h2' := of_decide_eq_true h2; rw [if_neg (by omega)]; exact decide_eq_true (by omega)
theorem keyB_irrefl (prices a : List Int) : keyB prices a a = false := by simp [keyB, lexB_irrefl]
theorem keyB_total (prices : List Int) {a b : List Int} (h : a ≠ b) : keyB prices a b = true ∨ keyB prices b a = true := by
  unfold keyB
  by_cases h1 : priceF prices a = priceF prices b
  · rw [if_neg (show ¬ priceF prices a ≠ priceF prices b by simpa using h1), if_neg (show ¬ priceF prices b ≠ priceF prices a by simpa using h1.symm)]
    by_cases h2 : a.length = b.length
    · rw [if_neg (show ¬ a.length ≠ b.length by simpa using h2), if_neg (show ¬ b.length ≠ a.length by simpa using h2.symm)]
      exact lexB_total a b h
    · rw [if_pos (show a.length ≠ b.length from h2), if_pos (show b.length ≠ a.length from Ne.symm h2)]; simp only [decide_eq_true_eq]; omega
  · rw [if_pos h1, if_pos (Ne.symm h1)]; simp only [decide_eq_true_eq]; omega
theorem keyB_trans (prices : List Int) {a b c : List Int} (h1 : keyB prices a b = true) (h2 : keyB prices b c = true) : keyB prices a c = true := by
  unfold keyB at *
  by_cases e1 : priceF prices a = priceF prices b
  · rw [if_neg (by simpa using e1)] at h1
    by_cases e2 : priceF prices b = priceF prices c
    · rw [if_neg (by simpa using e2)] at h2
      rw [if_neg (by simp [e1, e2])]
      by_cases l1 : a.length = b.length
      · rw [if_neg (by simpa using l1)] at h1
        by_cases l2 : b.length = c.length
        · rw [if_neg (by simpa using l2)] at h2
          rw [if_neg (by simp [l1, l2])]; exact lexB_trans a b c h1 h2
        · rw [if_pos l2] at h2
          rw [if_pos (by omega), l1]; exact h2
      · rw [if_pos l1] at h1
        have h1' := of_decide_eq_true h1
        by_cases l2 : b.length = c.length
        · rw [if_pos (by omega), ← l2]; exact h1
        · rw [if_pos l2] at h2
          have h2' := of_decide_eq_true h2; rw [if_pos (by omega)]; exact decide_eq_true (by omega)
    · rw [if_pos e2] at h2
      rw [if_pos (by rw [e1]; exact e2), e1]; exact h2
  · rw [if_pos e1] at h1
    have h1' := of_decide_eq_true h1
    by_cases e2 : priceF prices b = priceF prices c
    · rw [if_pos (by rw [← e2]; exact e1), ← e2]; exact h1
    · rw [if_pos e2] at h2
      have h2' := of_decide_eq_true h2; rw [if_pos (by omega)]; exact decide_eq_true (by omega)

theorem pick_fold (prices : List Int) : ∀ (L : List (List Int)) (b : List Int), (L.foldl (pickF prices) b = b ∨ L.foldl (pickF prices) b ∈ L) ∧ keyB prices b (L.foldl (pickF prices) b) = false ∧ ∀ x ∈ L, keyB prices x (L.foldl (pickF prices) b) = false := by
  intro L
  induction L with
  | nil => intro b; exact ⟨.inl rfl, keyB_irrefl _ _, fun x h => by cases h⟩
  | cons y r ih =>
    intro b; obtain ⟨h1, h2, h3⟩ := ih (pickF prices b y); simp only [List.foldl_cons]
    generalize hF : r.foldl (pickF prices) (pickF prices b y) = F at *
    have key : ∀ z, (z = b ∨ z = y) → keyB prices z F = false := fun z hz => by
      cases hk : keyB prices z F with
      | false => rfl
      | true =>
        exfalso
        unfold pickF at h2
        by_cases hy : keyB prices y b = true
        · rw [if_pos hy] at h2
          rcases hz with rfl | rfl
          · rw [keyB_trans prices hy hk] at h2; cases h2
          · rw [hk] at h2; cases h2
        · rw [if_neg hy] at h2
          rcases hz with rfl | rfl
          · rw [hk] at h2; cases h2
          · by_cases e : z = b
            · subst e; rw [hk] at h2; cases h2
            · rcases keyB_total prices e with h | h
              · exact hy h
              · rw [keyB_trans prices h hk] at h2; cases h2
    refine ⟨?_, key b (.inl rfl), fun x hx => ?_⟩
    · rcases h1 with h1 | h1
      · unfold pickF at h1
        by_cases hy : keyB prices y b = true
        · rw [if_pos hy] at h1; exact .inr (by rw [h1]; exact List.mem_cons_self)
        · rw [if_neg hy] at h1; exact .inl h1
      · exact .inr (List.mem_cons_of_mem _ h1)
    · rcases List.mem_cons.1 hx with rfl | hx
      · exact key x (.inr rfl)
      · exact h3 x hx
def Least (prices : List Int) (L : List (List Int)) (r : List Int) : Prop := r ∈ L ∧ ∀ x ∈ L, keyB prices x r = false
theorem first_least {prices : List Int} {L : List (List Int)} (h : L ≠ []) : Least prices L (firstF prices L) := by
  cases L with
  | nil => exact absurd rfl h
  | cons x r =>
    obtain ⟨h1, h2, h3⟩ := pick_fold prices r x; refine ⟨?_, fun y hy => ?_⟩
    · rcases h1 with h1 | h1
      · show r.foldl (pickF prices) x ∈ _
        rw [h1]; exact List.mem_cons_self
      · exact List.mem_cons_of_mem _ h1
    · rcases List.mem_cons.1 hy with rfl | hy
      · exact h2
      · exact h3 y hy
def RisesTo (l : List Int) (n : Nat) : Prop := ∀ i, i < l.length → (0 ≤ gi l i ∧ gi l i < n) ∧ (0 < i → gi l (i - 1) < gi l i)
theorem rises_mem : ∀ (n : Nat) (l : List Int), RisesTo l n → l ∈ allL n := by
  intro n
  induction n with
  | zero =>
    intro l h
    cases l with
    | nil => exact List.mem_singleton.2 rfl
    | cons x r => have := (h 0 (by simp)).1; omega
  | succ n ih =>
    intro l h
    rcases List.eq_nil_or_concat l with rfl | ⟨r, x, rfl⟩
    · have : ([] : List Int) ∈ allL n := ih [] fun i hi => absurd hi (Nat.not_lt_zero _)
      exact List.mem_append_left _ this
    · rw [List.concat_eq_append] at h ⊢
      have hx : gi (r ++ [x]) r.length = x := by rw [show r.length = r.length + 0 from rfl, gi_app2]; rfl
      have hr : ∀ i, i < r.length → gi (r ++ [x]) i = gi r i := fun i hi => gi_app r [x] i hi
      have hlast := h r.length (by simp); rw [hx] at hlast
      -- all before the last one are less than it
      have hlt : ∀ j, j < r.length → gi r j < x := by
        intro j hj
        have step : ∀ d, d < r.length → gi r (r.length - 1 - d) < x := by
          intro d
          induction d with
          | zero =>
            intro hd; have := hlast.2 (by omega); rw [hr _ (by omega)] at this
            simpa using this
          | succ d ihd =>
            intro hd; have h1 := ihd (by omega); have h2 := (h (r.length - 1 - d) (by simp; omega)).2 (by omega); rw [hr _ (by omega), hr _ (by omega)] at h2; rw [show r.length - 1 - (d + 1) = r.length - 1 - d - 1 by omega]; omega
        have := step (r.length - 1 - j) (by omega)
        rwa [show r.length - 1 - (r.length - 1 - j) = j by omega] at this
      have hrr : ∀ m : Nat, (∀ i, i < r.length → gi r i < m) → RisesTo r m := fun m hm i hi => by
        have := h i (by simp; omega); rw [hr i hi] at this; refine ⟨⟨this.1.1, hm i hi⟩, fun h0 => ?_⟩; have h2 := this.2 h0
        rwa [hr (i - 1) (by omega)] at h2
      by_cases hn : x = n
      · refine List.mem_append_right _ (List.mem_map.2 ⟨r, ih r (hrr n fun i hi => by have := hlt i hi; omega), by rw [hn]⟩)
      · refine List.mem_append_left _ (ih _ fun i hi => ?_)
        have h1 := h i hi; refine ⟨⟨h1.1.1, ?_⟩, h1.2⟩; rw [List.length_append, List.length_singleton] at hi
        by_cases hi2 : i < r.length
        · have := hlt i hi2
          rw [hr i hi2]; omega
        · obtain rfl : i = r.length := by omega
          rw [hx]; omega
theorem mem_rises : ∀ (n : Nat) (l : List Int), l ∈ allL n → RisesTo l n := by
  intro n
  induction n with
  | zero =>
    intro l h; rw [allL, List.mem_singleton] at h; subst h; intro i hi; exact absurd hi (Nat.not_lt_zero _)
  | succ n ih =>
    intro l h
    rcases List.mem_append.1 h with h | h
    · intro i hi
      have := ih l h i hi; exact ⟨⟨this.1.1, by omega⟩, this.2⟩
    · obtain ⟨r, hr, rfl⟩ := List.mem_map.1 h
      have h1 := ih r hr; intro i hi; rw [List.length_append, List.length_singleton] at hi
      by_cases hi2 : i < r.length
      · have := h1 i hi2
        rw [gi_app r _ i hi2, gi_app r _ (i - 1) (by omega)]; exact ⟨⟨this.1.1, by omega⟩, this.2⟩
      · obtain rfl : i = r.length := by omega
        have e : gi (r ++ [(n : Int)]) r.length = n := by rw [show r.length = r.length + 0 from rfl, gi_app2]; rfl
        rw [e]; refine ⟨by omega, fun h0 => ?_⟩; rw [gi_app r _ _ (by omega)]; exact (h1 (r.length - 1) (by omega)).1.2

theorem rest_mono {a b l : List Int} : ∀ k, (∀ i, i < k → gi a i ≤ gi b i) → restTo a l k ≤ restTo b l k := by
  intro k
  induction k with
  | zero => intro _; exact Int.le_refl _
  | succ k ih =>
    intro h; have h1 := ih fun i hi => h i (by omega)
    have h2 := h k (by omega); simp only [restTo]
    split <;> omega
theorem rest_full {pl : List Int} (n : Nat) : ∀ k, k ≤ n → restTo pl (setL (2 ^ n - 1) n) k = 0 := by
  have hb : ∀ i, i < n → bitB (2 ^ n - 1) i = true := by
    intro i hi; unfold bitB; obtain ⟨k, rfl⟩ : ∃ k, n = i + 1 + k := ⟨n - i - 1, by omega⟩
    have e : 2 ^ (i + 1 + k) - 1 = 2 ^ i * (2 * 2 ^ k - 1) + (2 ^ i - 1) := by
      have h1 : 2 ^ (i + 1 + k) = 2 ^ i * (2 * 2 ^ k) := by rw [Nat.pow_add, Nat.pow_succ, Nat.mul_assoc]
      have h2 := Nat.two_pow_pos i; have h3 := Nat.two_pow_pos k; rw [h1, Nat.mul_sub_one]; have h4 : 2 ^ i ≤ 2 ^ i * (2 * 2 ^ k) := Nat.le_mul_of_pos_right _ (by omega); omega
    rw [e, Nat.mul_add_div (Nat.two_pow_pos i), Nat.div_eq_of_lt (a := 2 ^ i - 1) (by have := Nat.two_pow_pos i; omega)]; have h3 := Nat.two_pow_pos k; refine decide_eq_true ?_; omega
  have hm : ∀ m, m ≤ n → ∀ j : Nat, j < m → (j : Int) ∈ setL (2 ^ n - 1) m := by
    intro m
    induction m with
    | zero => intro _ j hj; omega
    | succ m ih =>
      intro hmn j hj; simp only [setL]; rw [if_pos (hb m (by omega))]
      by_cases e : j = m
      · subst e; exact List.mem_append_right _ (List.mem_singleton.2 rfl)
      · exact List.mem_append_left _ (ih (by omega) j (by omega))
  intro k
  induction k with
  | zero => intro _; rfl
  | succ k ih => intro hk; simp only [restTo]; rw [if_pos (hm n (Nat.le_refl _) k (by omega)), ih (by omega)]

theorem full_enough {p : Pc} (hp : PieceOk p) {lim : Int} (hl : 0 ≤ lim) : setL (2 ^ p.ms.length - 1) p.ms.length ∈ (allL p.ms.length).filter (enoughB p lim) := by
  refine List.mem_filter.2 ⟨?_, enough_iff.2 fun pl hpl => ?_⟩
  · rw [← setL_all]
    exact List.mem_map.2 ⟨_, List.mem_range.2 (by have := Nat.two_pow_pos p.ms.length; omega), rfl⟩
  · have hk := truth_plays hp hpl
    unfold restF; rw [hk.len, rest_full p.ms.length p.ms.length (Nat.le_refl _)]; exact hl
theorem renew_least {p : Pc} (hp : PieceOk p) {prices : List Int} {lim : Int} (hl : 0 ≤ lim) : Least prices ((allL p.ms.length).filter (enoughB p lim)) (renewF p prices lim) := first_least (ne_of_mem (full_enough hp hl))
theorem cheaper_law {p : Pc} (hp : PieceOk p) {prices : List Int} {lim : Int} (hl : 0 ≤ lim) : RisesTo (renewF p prices lim) p.ms.length ∧ (∀ pl ∈ truthsF p, restF pl (renewF p prices lim) ≤ lim) ∧
    ∀ other, RisesTo other p.ms.length → (∃ most : List Int, most.length = p.ms.length ∧ (∀ pl ∈ truthsF p, ∀ i, i < p.ms.length → gi pl i ≤ gi most i) ∧ restF most other ≤ lim) → keyB prices other (renewF p prices lim) = false := by
  have h := renew_least hp (prices := prices) hl; obtain ⟨h1, h2⟩ := List.mem_filter.1 h.1; refine ⟨mem_rises _ _ h1, enough_iff.1 h2, fun other ho hm => ?_⟩; obtain ⟨most, hm1, hm2, hm3⟩ := hm; refine h.2 other (List.mem_filter.2 ⟨rises_mem _ _ ho, enough_iff.2 fun pl hpl => ?_⟩); have hk := truth_plays hp hpl; have := rest_mono (a := pl) (b := most) (l := other) p.ms.length fun i hi => hm2 pl hpl i hi
  unfold restF at hm3 ⊢; rw [hm1] at hm3; rw [hk.len]; omega
end Go.Proofs.YtlednchfifphgabGreatDoor
end

section
namespace Go.Proofs.YtlednchfifphgabGreatDoor
set_option linter.unusedVariables false

def goneL (sp : List (Int × Int)) (l : List Int) : List (Int × Int) := (List.range sp.length).map fun (i : Nat) => if ((i : Int) ∈ l) then (0, 0) else gm sp i
theorem goneL_at (sp : List (Int × Int)) (l : List Int) (i : Nat) (h : i < sp.length) : gm (goneL sp l) i = if ((i : Int) ∈ l) then (0, 0) else gm sp i := gm_map _ _ _ h
theorem goneL_len (sp : List (Int × Int)) (l : List Int) : (goneL sp l).length = sp.length := by simp [goneL]
def renewedF (p : Pc) (l : List Int) : Pc := ⟨goneL (provedF p) l, [], []⟩
theorem renewed_piece {p : Pc} (hp : PieceOk p) (ht : truthsF p ≠ []) (l : List Int) : PieceOk (onF (renewedF p l) [300]) := by
  have hl : (renewedF p l).ms.length = p.ms.length := by show (goneL (provedF p) l).length = _; rw [goneL_len, provedF_len]
  refine onF_piece ⟨by rw [hl]; exact hp.n1, by rw [hl]; exact hp.n4, Nat.zero_le _, Nat.zero_le _, fun i hi => ?_, fun i hi => absurd hi (Nat.not_lt_zero _), fun i hi => absurd hi (Nat.not_lt_zero _)⟩ (by show 0 + 1 ≤ 8; omega) (fun i hi => ?_)
  · rw [hl] at hi
    have e : gm (renewedF p l).ms i = if ((i : Int) ∈ l) then (0, 0) else gm (provedF p) i := goneL_at _ _ _ (by rw [provedF_len]; exact hi)
    rw [e]
    by_cases h : (i : Int) ∈ l
    · rw [if_pos h]; simp only; omega
    · rw [if_neg h]
      have h1 := proved_plain hp ht i hi; have h2 := hp.mesh i hi
      have h3 : ∀ pl ∈ truthsF p, (gm p.ms i).1 ≤ gi pl i ∧ gi pl i ≤ (gm p.ms i).2 := fun pl hpl => by
        obtain ⟨a1, a2⟩ := mem_truthsF.1 hpl; unfold fitsB at a2; rw [Bool.and_eq_true] at a2; exact withinB_iff.1 a2.1 i (by omega)
      obtain ⟨x, hx, ex⟩ := ovF_low (p := p) (fun pl => just (gi pl i)) ht; obtain ⟨y, hy, ey⟩ := ovF_high (p := p) (fun pl => just (gi pl i)) ht; rw [← provedF_at p i hi] at ex ey; change (gm (provedF p) i).1 = gi x i at ex; change (gm (provedF p) i).2 = gi y i at ey; have := h3 x hx; have := h3 y hy; omega
  · have : i = 0 := by simpa using hi
    subst this; show -300 ≤ (300 : Int) ∧ (300 : Int) ≤ 300; omega
theorem prod_some : ∀ (ms : List (Int × Int)), (∀ i, i < ms.length → (gm ms i).1 ≤ (gm ms i).2) → prodF ms ≠ [] := by
  intro ms h; refine ne_of_mem (x := (List.range ms.length).map fun i => (gm ms i).1) (mem_prodF.2 ⟨by simp, fun i hi => ?_⟩); have hi' : i < ms.length := by simpa using hi
  rw [gi_range _ _ _ hi']; exact ⟨Int.le_refl _, h i hi'⟩
theorem truths_plain {p : Pc} (h : p.rs = []) : ∀ pl, pl ∈ truthsF p ↔ pl.length = p.ms.length ∧ ∀ i, i < pl.length → (gm p.ms i).1 ≤ gi pl i ∧ gi pl i ≤ (gm p.ms i).2 := by
  intro pl; rw [mem_truthsF]; unfold fitsB; rw [h]; simp only [List.all_nil, Bool.and_true]; rw [withinB_iff]
theorem sum_rest {pl most l : List Int} : ∀ k, (∀ i : Nat, i < k → gi pl i ≤ if ((i : Int) ∈ l) then 0 else gi most i) → sumT pl k ≤ restTo most l k := by
  intro k
  induction k with
  | zero => intro _; exact Int.le_refl _
  | succ k ih =>
    intro h; have h1 := ih fun i hi => h i (by omega)
    have h2 := h k (by omega); simp only [sumT, restTo]
    by_cases hm : (k : Int) ∈ l
    · rw [if_pos hm] at h2 ⊢; omega
    · rw [if_neg hm] at h2 ⊢; omega
theorem renewed_law {p : Pc} (hp : PieceOk p) (ht : truthsF p ≠ []) (h0 : p.rs = []) {l : List Int} {lim : Int} (hl : ∀ pl ∈ truthsF p, restF pl l ≤ lim) :
    truthsF (onF (renewedF p l) [300]) ≠ [] ∧ lostOn (onF (renewedF p l) [300]) p.ms.length = (0, 0) ∧ (lostBack (onF (renewedF p l) [300]) p.ms.length).2 ≤ lim := by
  have hq := renewed_piece hp ht l; obtain ⟨q, hqe⟩ : ∃ q, onF (renewedF p l) [300] = q := ⟨_, rfl⟩; have hms : q.ms = goneL (provedF p) l := by rw [← hqe]; rfl
  have hmv : q.mv = [300] := by rw [← hqe]; rfl
  have hrs : q.rs = [] := by rw [← hqe]; rfl
  rw [hqe] at hq ⊢; have hlen : q.ms.length = p.ms.length := by rw [hms, goneL_len, provedF_len]
  have htq : truthsF q ≠ [] := by
    intro hc; have hs := prod_some q.ms fun i hi => (hq.mesh i hi).2.1
    obtain ⟨x, hx⟩ := List.exists_mem_of_ne_nil _ hs; have h1 := (truths_plain hrs x).2 (mem_prodF.1 hx); rw [hc] at h1; cases h1
  have key : ∀ pl ∈ truthsF q, pl.length = p.ms.length ∧ behF (endF q pl) p.ms.length = sumT pl p.ms.length := fun pl hpl => by
    have hk := truth_plays hq hpl; have hl1 := hk.len; rw [hlen] at hl1; have hfull : mostF [300] 1 ≤ sumT [300] 1 := by show max (0 : Int) (0 + 300) ≤ 0 + 300; omega
    have h1 := runF_full hk.pos [300] hfull p.ms.length (by omega); have h2 := runF_zero pl [300] 1; refine ⟨hl1, ?_⟩; unfold behF endF; rw [hmv]; show gi (runF pl [300] 1) 0 - gi (runF pl [300] 1) p.ms.length = _; rw [h1, h2]; omega
  refine ⟨htq, ?_, ?_⟩
  · obtain ⟨x, hx, ex⟩ := ovF_low (p := q) (fun pl => just (ahdF pl (endF q pl) p.ms.length)) htq
    obtain ⟨y, hy, ey⟩ := ovF_high (p := q) (fun pl => just (ahdF pl (endF q pl) p.ms.length)) htq; have e1 : (lostOn q p.ms.length).1 = ahdF x (endF q x) p.ms.length := ex; have e2 : (lostOn q p.ms.length).2 = ahdF y (endF q y) p.ms.length := ey; unfold ahdF at e1 e2; rw [(key x hx).2] at e1; rw [(key y hy).2] at e2; exact Prod.ext (by rw [e1]; simp) (by rw [e2]; simp)
  · obtain ⟨y, hy, ey⟩ := ovF_high (p := q) (fun pl => just (behF (endF q pl) p.ms.length)) htq
    have e2 : (lostBack q p.ms.length).2 = behF (endF q y) p.ms.length := ey; rw [(key y hy).2] at e2; rw [e2]
    -- the greatest plays of all meshes are a truth
    have hmost : ((List.range p.ms.length).map fun i => (gm (provedF p) i).2) ∈ truthsF p := by
      rw [truths_plain h0]; refine ⟨by simp, fun i hi => ?_⟩; have hi' : i < p.ms.length := by simpa using hi
      rw [gi_range _ _ _ hi']; obtain ⟨z, hz, ez⟩ := ovF_high (p := p) (fun pl => just (gi pl i)) ht; rw [← provedF_at p i hi'] at ez; have ez' : (gm (provedF p) i).2 = gi z i := ez; rw [ez']; obtain ⟨z1, z2⟩ := (truths_plain h0 z).1 hz; exact z2 i (by omega)
    have h1 := hl _ hmost; unfold restF at h1; rw [show ((List.range p.ms.length).map fun i => (gm (provedF p) i).2).length = p.ms.length by simp] at h1; refine Int.le_trans (sum_rest p.ms.length fun i hi => ?_) h1; have hy2 := ((truths_plain hrs y).1 hy).2 i (by rw [(key y hy).1]; exact hi); have e : gm q.ms i = if ((i : Int) ∈ l) then (0, 0) else gm (provedF p) i := by rw [hms]; exact goneL_at _ _ _ (by rw [provedF_len]; exact hi)
    rw [e] at hy2; rw [gi_range _ _ _ hi]
    by_cases hm : (i : Int) ∈ l
    · rw [if_pos hm] at hy2 ⊢; exact hy2.2
    · rw [if_neg hm] at hy2 ⊢; exact hy2.2
end Go.Proofs.YtlednchfifphgabGreatDoor
end

section
namespace Go.Proofs.YtlednchfifphgabGreatDoor
set_option linter.unusedVariables false

theorem take_step {α : Type} (l : List α) (k : Nat) (h : k < l.length) : l.take (k + 1) = l.take k ++ [l[k]] := List.take_succ_eq_append_getElem h
theorem gm_take (ms : List (Int × Int)) (k : Nat) (h : k < ms.length) : ms.take (k + 1) = ms.take k ++ [gm ms k] := by rw [gm_get ms k h]; exact take_step ms k h
theorem rises_len {l : List Int} {n : Nat} (h : RisesTo l n) : l.length ≤ n := by
  have key : ∀ i, i < l.length → (i : Int) ≤ gi l i := by
    intro i
    induction i with
    | zero => intro hi; have := (h 0 hi).1; omega
    | succ i ih =>
      intro hi; have h1 := ih (by omega); have h2 := (h (i + 1) hi).2 (by omega); have e : i + 1 - 1 = i := by omega
      rw [e] at h2; omega
  rcases Nat.lt_or_ge n l.length with hc | hc
  · have h1 := key n hc
    have h2 := (h n hc).1; omega
  · exact hc
def priceTo (prices l : List Int) (k : Nat) : Int := priceF prices (l.take k)
theorem priceTo_succ (prices l : List Int) (k : Nat) (h : k < l.length) : priceTo prices l (k + 1) = priceTo prices l k + gi prices (gi l k).toNat := by
  unfold priceTo priceF; rw [take_step l k h, List.foldl_append]; rw [gi_get l k h]; rfl
theorem priceTo_all (prices l : List Int) : priceTo prices l l.length = priceF prices l := by unfold priceTo; rw [List.take_length]
theorem price_range {prices l : List Int} {n : Nat} (hp : ∀ i, i < prices.length → 0 ≤ gi prices i ∧ gi prices i ≤ 1000) (hl : ∀ i, i < l.length → 0 ≤ gi l i ∧ gi l i < (prices.length : Int)) : ∀ k, k ≤ l.length → 0 ≤ priceTo prices l k ∧ priceTo prices l k ≤ 1000 * (k : Int) := by
  intro k
  induction k with
  | zero => intro _; simp [priceTo, priceF]
  | succ k ih =>
    intro hk; have h1 := ih (by omega); have h2 := hl k (by omega); have h3 := hp (gi l k).toNat (by omega); rw [priceTo_succ _ _ _ (by omega)]; omega
theorem lex_same {a b : List Int} (k : Nat) (ha : k ≤ a.length) (hb : k ≤ b.length) (h : ∀ i, i < k → gi a i = gi b i) : lexB a b = lexB (a.drop k) (b.drop k) := by
  induction k generalizing a b with
  | zero => rfl
  | succ k ih =>
    cases a with
    | nil => simp at ha
    | cons x a =>
      cases b with
      | nil => simp at hb
      | cons y b =>
        have h0 : x = y := h 0 (by omega); subst h0; rw [lexB, if_pos rfl, List.drop_succ_cons, List.drop_succ_cons]; exact ih (by simp at ha; omega) (by simp at hb; omega) fun i hi => h (i + 1) (by omega)
theorem lex_diff {a b : List Int} {k : Nat} (ha : k < a.length) (hb : k < b.length) (h : ∀ i, i < k → gi a i = gi b i) (hd : gi a k ≠ gi b k) : lexB a b = decide (gi a k < gi b k) := by
  rw [lex_same k (by omega) (by omega) h, List.drop_eq_getElem_cons ha, List.drop_eq_getElem_cons hb, lexB]; rw [gi_get a k ha, gi_get b k hb] at *; rw [if_neg hd]
theorem lex_end {a b : List Int} {k : Nat} (ha : k ≤ a.length) (hb : k ≤ b.length) (hk : k = a.length ∨ k = b.length) (h : ∀ i, i < k → gi a i = gi b i) : lexB a b = decide ((a.length : Int) < b.length) := by
  rw [lex_same k ha hb h]
  rcases hk with rfl | rfl
  · rw [List.drop_length]
    rcases Nat.lt_or_ge a.length b.length with hl | hl
    · rw [List.drop_eq_getElem_cons hl, lexB]; symm; rw [decide_eq_true_eq]; omega
    · rw [List.drop_eq_nil_of_le hl, lexB]; symm; rw [decide_eq_false_iff_not]; omega
  · rw [List.drop_length]
    rcases Nat.lt_or_ge b.length a.length with hl | hl
    · rw [List.drop_eq_getElem_cons hl, lexB]; symm; rw [decide_eq_false_iff_not]; omega
    · rw [List.drop_eq_nil_of_le hl, lexB]; symm; rw [decide_eq_false_iff_not]; omega

end Go.Proofs.YtlednchfifphgabGreatDoor
end

section
namespace Go.Proofs.YtlednchfifphgabGreatDoor
open Go Go.RowKit Go.Proofs
set_option linter.unusedVariables false
set_option linter.unusedSimpArgs false
attribute [local go_sem] imax2 imin2

def pricesB (p : Pc) (prices : List Int) : Bool := ((prices.length : Int) == (p.ms.length : Int)) && prices.all fun x => inB x 0 1000
theorem pricesB_iff {p : Pc} {prices : List Int} : pricesB p prices = true ↔ prices.length = p.ms.length ∧ ∀ i, i < prices.length → 0 ≤ gi prices i ∧ gi prices i ≤ 1000 := by
  unfold pricesB; rw [Bool.and_eq_true, beq_iff_eq, all_at (f := fun x => inB x 0 1000) 0]
  constructor
  · rintro ⟨h1, h2⟩
    exact ⟨by omega, fun i hi => inB_iff.1 (h2 i hi)⟩
  · rintro ⟨h1, h2⟩
    exact ⟨by omega, fun i hi => inB_iff.2 (h2 i hi)⟩
set_option maxRecDepth 100000 in
theorem r_Prices (pm pv pr : Option Addr) (cm cv cr : Nat) (p : Pc) (q : Option Addr) (cq : Nat) (pl : List Int) (w : World) (hq : RdI w q pl) (hlq : pl.length ≤ 1000000) :
    Calls Tryz.prog 39 #[.agg #[.slice pm p.ms.length cm, .slice pv p.mv.length cv, .slice pr p.rs.length cr], .slice q pl.length cq] w fun e w' => e = .returned (.bool (pricesB p pl)) ∧ Below w.heap.size w w' := by
  obtain ⟨w0, e0, HS0, k0, k1, k2, b0⟩ := box3 w (.slice pm p.ms.length cm) (.slice pv p.mv.length cv) (.slice pr p.rs.length cr) 26; have HB := Lib.hid b0; have HQ := Lib.hid (hq.below b0); clear b0 hq
  go_enter Tryz.func39, Tryz.ntmps39
  go_wp2; clear e0
  go_loopw [5] (fun i wr => ∃ k : Nat, k ≤ pl.length ∧ i = .int .i64 k ∧ Hid (∀ j, j < k → inB (gi pl j) 0 1000 = true) ∧ wr = w0) (fun i _ => pl.length - (intOf i).toNat)
  case atStart => exact ⟨0, Nat.zero_le _, rfl, Lib.hid (fun j hj => by omega), rfl⟩
  case round =>
    obtain ⟨k, hk, rfl, HK, rfl⟩ := hrel
    by_cases hlt : k < pl.length
    · have hki : (k : Int) < (pl.length : Int) := by omega
      obtain ⟨b, off, rfl, hc⟩ := HQ.out.at hlt; have d0 := hc k hlt; clear hc
      cases hb : inB (gi pl k) 0 1000 with
      | false =>
        have H := Lib.hid (show pricesB p pl = false by
          unfold pricesB; rw [all_badP (f := fun x => inB x 0 1000) 0 hlt (show inB (pl.getD k 0) 0 1000 = false from hb)]; simp)
        go_wp2_with fail; refine (r_in _ _ _ _).mono ?_; rw [hb]; rintro e wn ⟨rfl, rfl⟩; go_wp2; go_ret; exact ⟨by rw [H.out]; rfl, HB.out⟩
      | true =>
        have H := Lib.hid (upto_succ HK.out hb); go_wp2_with fail; refine (r_in _ _ _ _).mono ?_; rw [hb]; rintro e wn ⟨rfl, rfl⟩; clear hb; go_wp2; go_roundw
        case rel => exact ⟨k + 1, by omega, by go_num, H, by first | rfl | trivial⟩
        case measure => simp [intOf]; omega
    · obtain rfl : k = pl.length := by omega
      have hki : ¬ (pl.length : Int) < (pl.length : Int) := by omega
      have H := Lib.hid (show ((pl.length : Int) == (p.ms.length : Int)) = pricesB p pl by
        unfold pricesB; rw [(all_at (f := fun x => inB x 0 1000) 0 pl).2 HK.out, Bool.and_true])
      go_wp2; go_ret; exact ⟨by rw [← H.out]; rfl, HB.out⟩
theorem mem_gi {l : List Int} {n : Int} : n ∈ l ↔ ∃ i, i < l.length ∧ gi l i = n := by
  rw [List.mem_iff_getElem]
  constructor
  · rintro ⟨i, h, rfl⟩; exact ⟨i, h, gi_get l i h⟩
  · rintro ⟨i, h, rfl⟩; exact ⟨i, h, (gi_get l i h).symm⟩
set_option maxRecDepth 100000 in
theorem r_listed (q : Option Addr) (c : Nat) (l : List Int) (n : Int) (w : World) (hx : RdI w q l) (hl : l.length ≤ 1000000) :
    Calls Tryz.prog 101 #[.slice q l.length c, .int .i64 n] w fun e w' => e = .returned (.bool (decide (n ∈ l))) ∧ Below w.heap.size w w' := by
  have HX := Lib.hid hx; clear hx
  go_enter Tryz.func101, Tryz.ntmps101
  go_wp2
  go_loopw [5] (fun i wr => ∃ k : Nat, k ≤ l.length ∧ i = .int .i64 k ∧ Hid (∀ j, j < k → gi l j ≠ n) ∧ wr = w) (fun i _ => l.length - (intOf i).toNat)
  case atStart => exact ⟨0, Nat.zero_le _, rfl, Lib.hid (fun j hj => by omega), rfl⟩
  case round =>
    obtain ⟨k, hk, rfl, HK, rfl⟩ := hrel
    by_cases hlt : k < l.length
    · have hki : (k : Int) < (l.length : Int) := by omega
      obtain ⟨b, off, rfl, hc⟩ := HX.out.at hlt; have d0 := hc k hlt; clear hc
      by_cases he : gi l k = n
      · have H := Lib.hid (show decide (n ∈ l) = true from decide_eq_true (mem_gi.2 ⟨k, hlt, he⟩))
        obtain ⟨x, hx⟩ : ∃ x, gi l k = x := ⟨_, rfl⟩; rw [hx] at d0 he; have he' : (x == n) = true := by simp [he]
        clear hx he; go_wp2; go_ret; exact ⟨by rw [H.out]; rfl, Below.refl _ _⟩
      · have H := Lib.hid (upto_succ HK.out he)
        obtain ⟨x, hx⟩ : ∃ x, gi l k = x := ⟨_, rfl⟩; rw [hx] at d0 he; have he' : (x == n) = false := by simp [he]
        clear hx he; go_wp2; go_roundw
        case rel => exact ⟨k + 1, by omega, by go_num, H, by first | rfl | trivial⟩
        case measure => simp [intOf]; omega
    · obtain rfl : k = l.length := by omega
      have hki : ¬ (l.length : Int) < (l.length : Int) := by omega
      have H := Lib.hid (show decide (n ∈ l) = false from decide_eq_false (fun hm => by
        obtain ⟨i, hi, e⟩ := mem_gi.1 hm; exact HK.out i hi e))
      go_wp2; go_ret; exact ⟨by rw [H.out]; rfl, Below.refl _ _⟩
set_option maxRecDepth 100000 in
theorem r_Price (pq : Option Addr) (cp : Nat) (prices : List Int) (q : Option Addr) (c : Nat) (l : List Int) (w : World) (hp : RdI w pq prices) (hx : RdI w q l) (hl : l.length ≤ 1000) (hpp : ∀ i, i < prices.length → 0 ≤ gi prices i ∧ gi prices i ≤ 1000) (hll : ∀ i, i < l.length → 0 ≤ gi l i ∧ gi l i < (prices.length : Int)) :
    Calls Tryz.prog 42 #[.slice pq prices.length cp, .slice q l.length c] w fun e w' => e = .returned (.int .i64 (priceF prices l)) ∧ Below w.heap.size w w' := by
  have HX := Lib.hid hx; have HP := Lib.hid hp; have HPP := Lib.hid hpp; have HLL := Lib.hid hll; clear hx hp hpp hll
  go_enter Tryz.func42, Tryz.ntmps42
  go_wp2
  go_loopw [5, 6] (fun s i wr => ∃ k : Nat, k ≤ l.length ∧ i = .int .i64 k ∧ s = .int .i64 (priceTo prices l k) ∧ wr = w) (fun _ i _ => l.length - (intOf i).toNat)
  case atStart => exact ⟨0, Nat.zero_le _, rfl, rfl, rfl⟩
  case round =>
    obtain ⟨k, hk, rfl, rfl, rfl⟩ := hrel
    by_cases hlt : k < l.length
    · have hki : (k : Int) < (l.length : Int) := by omega
      obtain ⟨b, off, rfl, hc⟩ := HX.out.at hlt; have d0 := hc k hlt; have hr := HLL.out k hlt; obtain ⟨j, hj⟩ : ∃ j : Nat, gi l k = (j : Int) := ⟨(gi l k).toNat, by omega⟩; have hjl : j < prices.length := by omega
      obtain ⟨bp, op, rfl, hcp⟩ := HP.out.at hjl; have d1 := hcp j hjl; have hp1 := HPP.out j hjl; have hp2 := (price_range (n := 0) HPP.out HLL.out k (by omega)); have HST := Lib.hid (show priceTo prices l (k + 1) = priceTo prices l k + gi prices j by rw [priceTo_succ _ _ _ hlt, hj]; rfl); rw [hj] at d0; obtain ⟨x, hx⟩ : ∃ x, gi prices j = x := ⟨_, rfl⟩; obtain ⟨s, hs⟩ : ∃ s, priceTo prices l k = s := ⟨_, rfl⟩; rw [hx] at d1 hp1 HST; rw [hs] at hp2 HST ⊢; have hw : IntKind.i64.wrap (s + x) = s + x := w64 _ (by omega) (by omega); have hji : (j : Int) < (prices.length : Int) := by omega
      clear hc hcp hx hs hr hj; go_wp2; go_roundw
      case rel => exact ⟨k + 1, by omega, by go_num, by rw [HST.out], by first | rfl | trivial⟩
      case measure => simp [intOf]; omega
    · obtain rfl : k = l.length := by omega
      have hki : ¬ (l.length : Int) < (l.length : Int) := by omega
      go_wp2; go_ret; exact ⟨by rw [priceTo_all]; rfl, Below.refl _ _⟩
theorem cellq_drewN {w : World} {a : Addr} {v : Value} (h : w.cell? a = some v) (n : Nat) : (w.drewN n).cell? a = some v := h
set_option maxRecDepth 100000 in
theorem r_Before (p : Option Addr) (c : Nat) (a : List Int) (q : Option Addr) (d : Nat) (b : List Int) (w : World) (hx : RdI w p a) (hy : RdI w q b) (hl : a.length ≤ 1000) (hl2 : b.length ≤ 1000) :
    Calls Tryz.prog 102 #[.slice p a.length c, .slice q b.length d] w fun e w' => e = .returned (.bool (lexB a b)) ∧ Below w.heap.size w w' := by
  have HX := Lib.hid hx; have HY := Lib.hid hy; clear hx hy
  go_enter Tryz.func102, Tryz.ntmps102
  go_wp2
  go_loopw [5] (fun i wr => ∃ k : Nat, k ≤ a.length ∧ k ≤ b.length ∧ i = .int .i64 k ∧ Hid (∀ j, j < k → gi a j = gi b j) ∧ ∃ m, wr = w.drewN m) (fun i _ => a.length - (intOf i).toNat)
  case atStart => exact ⟨0, Nat.zero_le _, Nat.zero_le _, rfl, Lib.hid (fun j hj => by omega), 0, rfl⟩
  case round =>
    obtain ⟨k, hk, hk2, rfl, HK, m, hwr⟩ := hrel; have HWB := Lib.hid (show Below w.heap.size w wr by rw [hwr]; exact below_drewN (Below.refl _ _) _); have HW := Lib.hid hwr; clear hwr
    by_cases hlt : k < a.length
    · have hki : (k : Int) < (a.length : Int) := by omega
      by_cases hlt2 : k < b.length
      · have hki2 : (k : Int) < (b.length : Int) := by omega
        obtain ⟨ba, oa, rfl, hca⟩ := HX.out.at hlt; have d0 := hca k hlt; obtain ⟨bb, ob, rfl, hcb⟩ := HY.out.at hlt2; have d1 := hcb k hlt2; have d0 := (HWB.out.cell (lt_of_cellq d0)).trans d0; have d1 := (HWB.out.cell (lt_of_cellq d1)).trans d1; clear hca hcb
        by_cases he : gi a k = gi b k
        · have H := Lib.hid (upto_succ HK.out he)
          obtain ⟨x, hx⟩ : ∃ x, gi a k = x := ⟨_, rfl⟩; rw [← he] at d1; rw [hx] at d0 d1; have he' : (x != x) = false := by simp
          clear hx he; go_wp2; refine wp_region_quiet_lit (by kernel_rfl) (by kernel_rfl) ?_; (repeat (first | ((with_reducible first | apply wq_ix Tryz.underlying23 szI | apply wq_ix Tryz.underlying27 szSp | apply wq_ix Tryz.underlying22 szM | apply wq_ix Tryz.underlying24 szR | apply wq_ix Tryz.underlying43 szL | apply wq_ix Tryz.underlying103 szT); (focus rfl); (focus rfl); (focus rfl); (focus omega); (try simp only [Nat.mul_one]); go_frame) | ((with_reducible first | apply wq_ld agI | apply wq_ld agB | apply wq_ld agLI | apply wq_ld agLS | apply wq_ld agLM | apply wq_ld agLR | apply wq_ld agLL | apply wq_ld agLT); (focus rfl); (focus rfl); (focus (rintro _ ⟨_, rfl⟩; first | exact d0 | exact d1)); go_frame) | ((with_reducible first | apply wq_add | apply wq_sub | apply wq_mul | apply wq_rem); (focus rfl); (focus rfl); (focus rfl); (focus omega); (focus omega); go_frame) | ((with_reducible first | apply wq_eql | apply wq_neq | apply wq_lss | apply wq_leq | apply wq_gtr | apply wq_geq | apply wq_max2 | apply wq_min2); (focus rfl); (focus rfl); (focus rfl); go_frame) | ((with_reducible first | apply wq_max3 | apply wq_min3); (focus rfl); (focus rfl); (focus rfl); (focus rfl); go_frame) | go_big_quiet_step (fail))); refine wpQuiet_nil ?_; rintro _ ⟨nq, rfl⟩
          go_wp2; go_roundw
          case rel => exact ⟨k + 1, by omega, by omega, by go_num, H, m + nq, by rw [HW.out, drew_add]⟩
          case measure => simp [intOf]; omega
        · have H := Lib.hid (lex_diff hlt hlt2 HK.out he)
          obtain ⟨x, hx⟩ : ∃ x, gi a k = x := ⟨_, rfl⟩; obtain ⟨y, hy⟩ : ∃ y, gi b k = y := ⟨_, rfl⟩; rw [hx] at d0 he H; rw [hy] at d1 he H; have he' : (x != y) = true := by simp [he]
          clear hx hy he; go_wp2; refine wp_region_quiet_lit (by kernel_rfl) (by kernel_rfl) ?_; (repeat (first | ((with_reducible first | apply wq_ix Tryz.underlying23 szI | apply wq_ix Tryz.underlying27 szSp | apply wq_ix Tryz.underlying22 szM | apply wq_ix Tryz.underlying24 szR | apply wq_ix Tryz.underlying43 szL | apply wq_ix Tryz.underlying103 szT); (focus rfl); (focus rfl); (focus rfl); (focus omega); (try simp only [Nat.mul_one]); go_frame) | ((with_reducible first | apply wq_ld agI | apply wq_ld agB | apply wq_ld agLI | apply wq_ld agLS | apply wq_ld agLM | apply wq_ld agLR | apply wq_ld agLL | apply wq_ld agLT); (focus rfl); (focus rfl); (focus (rintro _ ⟨_, rfl⟩; first | exact d0 | exact d1)); go_frame) | ((with_reducible first | apply wq_add | apply wq_sub | apply wq_mul | apply wq_rem); (focus rfl); (focus rfl); (focus rfl); (focus omega); (focus omega); go_frame) | ((with_reducible first | apply wq_eql | apply wq_neq | apply wq_lss | apply wq_leq | apply wq_gtr | apply wq_geq | apply wq_max2 | apply wq_min2); (focus rfl); (focus rfl); (focus rfl); go_frame) | ((with_reducible first | apply wq_max3 | apply wq_min3); (focus rfl); (focus rfl); (focus rfl); (focus rfl); go_frame) | go_big_quiet_step (fail))); refine wpQuiet_nil ?_; rintro _ ⟨nq, rfl⟩
          have d0 := (cellq_drewN d0 nq); have d1 := (cellq_drewN d1 nq); go_wp2; refine wp_region_quiet_lit (by kernel_rfl) (by kernel_rfl) ?_; (repeat (first | ((with_reducible first | apply wq_ix Tryz.underlying23 szI | apply wq_ix Tryz.underlying27 szSp | apply wq_ix Tryz.underlying22 szM | apply wq_ix Tryz.underlying24 szR | apply wq_ix Tryz.underlying43 szL | apply wq_ix Tryz.underlying103 szT); (focus rfl); (focus rfl); (focus rfl); (focus omega); (try simp only [Nat.mul_one]); go_frame) | ((with_reducible first | apply wq_ld agI | apply wq_ld agB | apply wq_ld agLI | apply wq_ld agLS | apply wq_ld agLM | apply wq_ld agLR | apply wq_ld agLL | apply wq_ld agLT); (focus rfl); (focus rfl); (focus (rintro _ ⟨_, rfl⟩; first | exact d0 | exact d1)); go_frame) | ((with_reducible first | apply wq_add | apply wq_sub | apply wq_mul | apply wq_rem); (focus rfl); (focus rfl); (focus rfl); (focus omega); (focus omega); go_frame) | ((with_reducible first | apply wq_eql | apply wq_neq | apply wq_lss | apply wq_leq | apply wq_gtr | apply wq_geq | apply wq_max2 | apply wq_min2); (focus rfl); (focus rfl); (focus rfl); go_frame) | ((with_reducible first | apply wq_max3 | apply wq_min3); (focus rfl); (focus rfl); (focus rfl); (focus rfl); go_frame) | go_big_quiet_step (fail))); refine wpQuiet_nil ?_; rintro _ ⟨nq, rfl⟩
          go_wp2; go_ret; exact ⟨by rw [H.out]; rfl, below_drewN (below_drewN HWB.out _) _⟩
      · have hki2 : ¬ (k : Int) < (b.length : Int) := by omega
        have H := Lib.hid (show lexB a b = decide (a.length < b.length) by rw [lex_end hk hk2 (.inr (by omega)) HK.out]; exact decide_eq_decide.2 Int.ofNat_lt); go_wp2; go_ret; exact ⟨by rw [H.out]; rfl, HWB.out⟩
    · have hki : ¬ (k : Int) < (a.length : Int) := by omega
      have H := Lib.hid (show lexB a b = decide (a.length < b.length) by rw [lex_end hk hk2 (.inl (by omega)) HK.out]; exact decide_eq_decide.2 Int.ofNat_lt); go_wp2; go_ret; exact ⟨by rw [H.out]; rfl, HWB.out⟩
end Go.Proofs.YtlednchfifphgabGreatDoor
end

section
namespace Go.Proofs.YtlednchfifphgabGreatDoor
set_option linter.unusedVariables false

theorem gi_take (a : List Int) (k i : Nat) (h : i < k) : gi (a.take k) i = gi a i := by
  unfold gi; rw [List.getD_eq_getElem?_getD, List.getElem?_take, if_pos h, ← List.getD_eq_getElem?_getD]
end Go.Proofs.YtlednchfifphgabGreatDoor
end

section
namespace Go.Proofs.YtlednchfifphgabGreatDoor
open Go Go.RowKit
set_option linter.unusedVariables false
theorem wq_not {P : Program} {C : World → Prop} {ops : Array Oper} {Q : Act → Prop} {rest : List Oper} {a : Act} {d : Nat} {t ty : TypeId} {x : Operand} {pos : String} {af : Array Edge} {g : Option (Nat × Bool)} {b : Bool}
    (hw : Region.wanted ⟨some d, .unOp .not t x, ty, pos, af, g⟩ (yielded ops a.tmps) = true) (hx : a.eval x = .bool b)
    (hk : wpQuiet P ops C Q rest (a.put (some d) (.bool (!b)))) : wpQuiet P ops C Q (⟨some d, .unOp .not t x, ty, pos, af, g⟩ :: rest) a :=
  wq hw (q_val (o := ⟨some d, .unOp .not t x, ty, pos, af, g⟩) (.bool (!b)) (fun w _ => by unfold execOp; dsimp only; rw [hx]; simp [go_sem]) hk)
end Go.Proofs.YtlednchfifphgabGreatDoor
end

section
namespace Go.Proofs.YtlednchfifphgabGreatDoor
open Go Go.RowKit
set_option linter.unusedVariables false
section
variable {P : Program} {ops : Array Oper} {Q : Exit → Act → World → Prop} {id : Nat} {a : Act} {w : World}
theorem cl1 {a0 : Addr} {v0 : Value} (h0 : w.cell? a0 = some v0) : ∀ w', Below w.heap.size w w' → w'.cell? a0 = some v0 := fun w' hb => (hb.cell (lt_of_cellq h0)).trans h0
theorem cl2 {a0 a1 : Addr} {v0 v1 : Value} (h0 : w.cell? a0 = some v0) (h1 : w.cell? a1 = some v1) : ∀ w', Below w.heap.size w w' → w'.cell? a0 = some v0 ∧ w'.cell? a1 = some v1 := fun w' hb => ⟨(hb.cell (lt_of_cellq h0)).trans h0, (hb.cell (lt_of_cellq h1)).trans h1⟩
theorem held2 {a0 a1 : Addr} {v0 v1 : Value} (h0 : w.cell? a0 = some v0) (h1 : w.cell? a1 = some v1)
    (k : ∀ W0, Below w.heap.size w W0 → wpAnyH P .any ops Q (fun w' => w'.cell? a0 = some v0 ∧ w'.cell? a1 = some v1) ops.size (Array.replicate ops.size false) a W0)
    (hm : P.follows .mixedOrders = true := by kernel_rfl) : (Code.region id ops true).wp P Q a w :=
  wp_region_held_drew (S := fun w' => w'.cell? a0 = some v0 ∧ w'.cell? a1 = some v1) hm (cl2 h0 h1 _ (Below.refl _ _).drew) (fun _ => k _ (Below.refl _ _).drew)
theorem cl3 {a0 a1 a2 : Addr} {v0 v1 v2 : Value} (h0 : w.cell? a0 = some v0) (h1 : w.cell? a1 = some v1) (h2 : w.cell? a2 = some v2) : ∀ w', Below w.heap.size w w' → w'.cell? a0 = some v0 ∧ w'.cell? a1 = some v1 ∧ w'.cell? a2 = some v2 := fun w' hb => ⟨(hb.cell (lt_of_cellq h0)).trans h0, (hb.cell (lt_of_cellq h1)).trans h1, (hb.cell (lt_of_cellq h2)).trans h2⟩
theorem held3 {a0 a1 a2 : Addr} {v0 v1 v2 : Value} (h0 : w.cell? a0 = some v0) (h1 : w.cell? a1 = some v1) (h2 : w.cell? a2 = some v2)
    (k : ∀ W0, Below w.heap.size w W0 → wpAnyH P .any ops Q (fun w' => w'.cell? a0 = some v0 ∧ w'.cell? a1 = some v1 ∧ w'.cell? a2 = some v2) ops.size (Array.replicate ops.size false) a W0)
    (hm : P.follows .mixedOrders = true := by kernel_rfl) : (Code.region id ops true).wp P Q a w :=
  wp_region_held_drew (S := fun w' => w'.cell? a0 = some v0 ∧ w'.cell? a1 = some v1 ∧ w'.cell? a2 = some v2) hm (cl3 h0 h1 h2 _ (Below.refl _ _).drew) (fun _ => k _ (Below.refl _ _).drew)
theorem tu {md : Region.Mode} {S : World → Prop} (i : Nat) {oi : Oper} {d : Nat} {fuel : Nat} {listed : Array Bool} {a : Act} {w : World} (hi : ops[i]? = some oi) (hS : S w)
    (h : wpAnyH P md ops Q S fuel (listed.setIfInBounds i true) { a with tmps := a.tmps.setIfInBounds d undef } w)
    (hs : Region.noSelect ops = true := by kernel_rfl) (hf : Region.free md ops listed i = true := by kernel_rfl) (hr : (Region.ready md ops listed).contains i = true := by kernel_rfl)
    (hd : oi.dst = some d := by rfl)
    (hQ : ∀ c a w, Q (.panic c) (a.put oi.dst undef) w → Q (.panic c) a w := by intro _ _ _ h; first | exact h | (exact absurd h.1 (by intro hh; cases hh)))
    (hw : Region.wanted oi (yielded ops a.tmps) = false := by kernel_rfl) : wpAnyH P md ops Q S (fuel + 1) listed a w :=
  wpAnyH_take hi hs hf hr hQ (Or.inr ⟨hw, rfl⟩) hS (by rw [hd]; exact h)
end
end Go.Proofs.YtlednchfifphgabGreatDoor
end

section
namespace Go.Proofs.YtlednchfifphgabGreatDoor
open Go Go.RowKit Go.Proofs
set_option linter.unusedVariables false
set_option linter.unusedSimpArgs false
attribute [local go_sem] imax2 imin2

theorem run_append_src {P : Program} (w : World) (base : Nat) (t ty e : TypeId) (i : TypeInfo) (z : Value) (size bytes : Nat) (ht : P.underlying t = some (.slice e)) (hi : P.info? e = some i) (hz : i.zero = some z)
    (hsize : i.size = size) (hby : i.bytes = bytes) (hzs : z.cells.size = size) (hsz : 0 < size)
    (v : Value) (n : Nat) (xs : List Value) (hown : w.ownsRow base e size v n xs)
    (po : Option Addr) (m c : Nat) (news : List Value) (hl : news.length = m * size) (hnews : m = 0 ∨ ∃ ad, po = some ad ∧ ∀ j u, news[j]? = some u → w.cell? (ad.add j) = some u) (h1 : ∀ u ∈ news, u.oneCell' = true)
    (h63 : n + m ≤ maxLen) (hbytes : (n + m) * bytes ≤ 140737488355328) (hbase : base ≤ w.heap.size) :
    ∃ v' w', (Builtin.append_ #[t, t] ty #[v, .slice po m c]).run P w = .ok v' w' ∧ w'.ownsRow base e size v' (n + m) (xs ++ news) ∧ w.grownBy w' v.ownBlock ∧ (v'.ownBlock = v.ownBlock ∨ v'.ownBlock = some w.heap.size) := by
  by_cases hm : m = 0
  · subst hm
    have hn : news = [] := List.length_eq_zero_iff.1 (by rw [hl, Nat.zero_mul]); subst hn
    have hs : Src P i.size t (.slice po 0 c) 0 [] w := by
      cases po with
      | none => exact Src.ofNil w ht c
      | some a => exact Src.ofSlice w ht a 0 c [] (by simp) (by intro j u hu; simp at hu) (by intro u hu; cases hu)
    rcases hown.2 with ⟨rfl, rfl⟩ | ⟨g, cap, cur, rfl, hb, hg, hnc, hrest⟩
    · exact ⟨_, w, run_append_nothing w t t ty e i ht hi none 0 0 (Nat.le_refl _) _ hs, by simpa using hown, World.grownBy.refl _ _, .inl rfl⟩
    · exact ⟨_, w, run_append_nothing w t t ty e i ht hi (some ⟨g, 0, none⟩) n cap hnc _ hs, by simpa using hown, World.grownBy.refl _ _, .inl rfl⟩
  · obtain ⟨ad, rfl, hc⟩ := hnews.resolve_left hm
    obtain ⟨v', w', hr, h2, h3, _, h5⟩ := run_append_own_at (P := P) w base t ty e i z size bytes ht hi hz hsize hby hzs hsz v n xs hown ad m c news hl hc h1 h63 hbytes hbase; exact ⟨v', w', hr, h2, h3, h5⟩
theorem step_append_src {P : Program} (w : World) {ops : Array Oper} {o : Oper} {a : Act} {K : Act → World → Prop} {Q : Exit → Act → World → Prop} {E : Prop} (hgd : o.guard = none) (s x : Operand) (t : TypeId)
    (ho : o.op = .call { callee := .builtin .append, args := #[s, x], argTypes := #[t, t] })
    (base : Nat) (e : TypeId) (i : TypeInfo) (z : Value) (size bytes : Nat) (ht : P.underlying t = some (.slice e)) (hi : P.info? e = some i) (hz : i.zero = some z)
    (hsize : i.size = size) (hby : i.bytes = bytes) (hzs : z.cells.size = size) (hsz : 0 < size)
    (v : Value) (n : Nat) (xs : List Value) (hs : a.eval s = v) (hown : w.ownsRow base e size v n xs)
    (po : Option Addr) (m c : Nat) (news : List Value) (hx : a.eval x = .slice po m c) (hl : news.length = m * size) (hnews : m = 0 ∨ ∃ ad, po = some ad ∧ ∀ j u, news[j]? = some u → w.cell? (ad.add j) = some u) (h1 : ∀ u ∈ news, u.oneCell' = true)
    (h63 : n + m ≤ maxLen) (hbytes : (n + m) * bytes ≤ 140737488355328) (hbase : base ≤ w.heap.size)
    (h : ∀ v' w', w'.ownsRow base e size v' (n + m) (xs ++ news) → w.grownBy w' v.ownBlock → (v'.ownBlock = v.ownBlock ∨ v'.ownBlock = some w.heap.size) → K (a.put o.dst v') w') :
    if Region.wanted o (yielded ops a.tmps) = true then Oper.wp P o a w K Q else E := by
  have hw : Region.wanted o (yielded ops a.tmps) = true := by simp [Region.wanted, hgd]
  rw [if_pos hw]; obtain ⟨v', w', hr, h2, h3, h5⟩ := run_append_src (P := P) w base t o.type e i z size bytes ht hi hz hsize hby hzs hsz v n xs hown po m c news hl hnews h1 h63 hbytes hbase; unfold Oper.wp execOp; simp only [ho, resolve, invoke, builtin, Sem.run_bind, Sem.run_pure, Result.andThen_ok, List.map_toArray, List.map_cons, List.map_nil, hs, hx, hr]; exact h v' w' h2 h3 h5
theorem wpList_append_src {P : Program} (w : World) {ops : Array Oper} {rest : List Oper} {o : Oper} {a : Act} {Q : Exit → Act → World → Prop} (hgd : o.guard = none) (s x : Operand) (t : TypeId)
    (ho : o.op = .call { callee := .builtin .append, args := #[s, x], argTypes := #[t, t] })
    (base : Nat) (e : TypeId) (i : TypeInfo) (z : Value) (size bytes : Nat) (ht : P.underlying t = some (.slice e)) (hi : P.info? e = some i) (hz : i.zero = some z)
    (hsize : i.size = size) (hby : i.bytes = bytes) (hzs : z.cells.size = size) (hsz : 0 < size)
    (v : Value) (n : Nat) (xs : List Value) (hs : a.eval s = v) (hown : w.ownsRow base e size v n xs)
    (po : Option Addr) (m c : Nat) (news : List Value) (hx : a.eval x = .slice po m c) (hl : news.length = m * size) (hnews : m = 0 ∨ ∃ ad, po = some ad ∧ ∀ j u, news[j]? = some u → w.cell? (ad.add j) = some u) (h1 : ∀ u ∈ news, u.oneCell' = true)
    (h63 : n + m ≤ maxLen) (hbytes : (n + m) * bytes ≤ 140737488355328) (hbase : base ≤ w.heap.size)
    (h : ∀ v' w', w'.ownsRow base e size v' (n + m) (xs ++ news) → w.grownBy w' v.ownBlock → (v'.ownBlock = v.ownBlock ∨ v'.ownBlock = some w.heap.size) → wpList P ops Q rest (a.put o.dst v') w') : wpList P ops Q (o :: rest) a w :=
  wpList_plain hgd fun K hK => by
    obtain ⟨v', w', hr, h2, h3, h5⟩ := run_append_src (P := P) w base t o.type e i z size bytes ht hi hz hsize hby hzs hsz v n xs hown po m c news hl hnews h1 h63 hbytes hbase; unfold Oper.wp execOp; simp only [ho, resolve, invoke, builtin, Sem.run_bind, Sem.run_pure, Result.andThen_ok, List.map_toArray, List.map_cons, List.map_nil, hs, hx, hr]; exact hK _ _ (h v' w' h2 h3 h5)

theorem append_keeps {P : Program} (w : World) (t ty e : TypeId) (i : TypeInfo) (z : Value) (base size bytes : Nat) (ht : P.underlying t = some (.slice e)) (hi : P.info? e = some i) (hz : i.zero = some z) (hsize : i.size = size) (hby : i.bytes = bytes)
    (g n cap : Nat) (xs : List Value) (hown : w.ownsRow base e size (.slice (some ⟨g, 0, none⟩) n cap) n xs)
    (ad : Addr) (m c : Nat) (news : List Value) (hl : news.length = m * size) (hnews : ∀ j u, news[j]? = some u → w.cell? (ad.add j) = some u) (h1 : ∀ u ∈ news, u.oneCell' = true)
    (h63 : n + m ≤ maxLen) (hbytes : (n + m) * bytes ≤ 140737488355328) {v' : Value} {w' : World}
    (hr : (Builtin.append_ #[t, t] ty #[.slice (some ⟨g, 0, none⟩) n cap, .slice (some ad) m c]).run P w = .ok v' w') : ∀ j u, xs[j]? = some u → w'.cell? ⟨g, j, none⟩ = some u := by
  subst hsize; subst hby
  have holds := hown.cells (g := g) rfl
  have hlt : g < w.heap.size := by
    obtain ⟨g', _, h, _, h2⟩ := (show ∃ g' cap', (Value.slice (some ⟨g, 0, none⟩) n cap) = .slice (some ⟨g', 0, none⟩) n cap' ∧ base ≤ g' ∧ g' < w.heap.size from by
      rcases hown.2 with ⟨h, _⟩ | ⟨g', cap', cur, h, hbg, hg, _⟩
      · cases h
      · refine ⟨g', cap', h, hbg, ?_⟩
        rcases Nat.lt_or_ge g' w.heap.size with h1 | h1
        · exact h1
        · rw [Array.getElem?_eq_none h1] at hg; cases hg)
    cases h; exact h2
  rcases hown.2 with ⟨h, _⟩ | ⟨g', cap', cur, h, hbg, hg, hnc, hcm, hcs, htake⟩
  · cases h
  · cases h
    by_cases hroom : n + m ≤ cap
    · have hfit : n * i.size + news.length ≤ cur.size := by rw [hl, hcs, ← Nat.add_mul]; exact Nat.mul_le_mul_right _ hroom
      rw [run_append_room (P := P) w t ty e i ht hi g n cap cur hg ad m c news hl hnews h1 hroom hfit] at hr
      cases hr
      intro j u hj; rw [cell_of_row _ g j _ e (0, 0) (setRow_heap w g cur _ e _ hg), htake]; have hj' : j < xs.length := (List.getElem?_eq_some_iff.1 hj).1; simp only [List.getElem?_toArray]; rw [List.append_assoc, List.getElem?_append_left hj']; exact hj
    · have hsmall : n + m ≤ 9223372036854775807 := by simp only [maxLen] at h63; omega
      rw [run_append_grow (P := P) w t ty e i z ht hi hz ⟨g, 0, none⟩ n cap xs hown.1 holds ad m c news hl hnews (by omega) (by omega) (growslice_fits (by omega) hbytes)] at hr
      cases hr
      intro j u hj; have h := holds j u hj; rw [add_new] at h; rw [World.cell?_alloc_lt _ _ _ (by simpa using hlt)]; exact h
theorem step_append_keep {P : Program} (w : World) {ops : Array Oper} {o : Oper} {a : Act} {K : Act → World → Prop} {Q : Exit → Act → World → Prop} {E : Prop} (hgd : o.guard = none) (s x : Operand) (t : TypeId)
    (ho : o.op = .call { callee := .builtin .append, args := #[s, x], argTypes := #[t, t] })
    (base : Nat) (e : TypeId) (i : TypeInfo) (z : Value) (size bytes : Nat) (ht : P.underlying t = some (.slice e)) (hi : P.info? e = some i) (hz : i.zero = some z)
    (hsize : i.size = size) (hby : i.bytes = bytes) (hzs : z.cells.size = size) (hsz : 0 < size)
    (g n cap : Nat) (xs : List Value) (hs : a.eval s = .slice (some ⟨g, 0, none⟩) n cap) (hown : w.ownsRow base e size (.slice (some ⟨g, 0, none⟩) n cap) n xs)
    (ad : Addr) (m c : Nat) (news : List Value) (hx : a.eval x = .slice (some ad) m c) (hl : news.length = m * size) (hnews : ∀ j u, news[j]? = some u → w.cell? (ad.add j) = some u) (h1 : ∀ u ∈ news, u.oneCell' = true)
    (h63 : n + m ≤ maxLen) (hbytes : (n + m) * bytes ≤ 140737488355328) (hbase : base ≤ w.heap.size)
    (h : ∀ v' w', w'.ownsRow base e size v' (n + m) (xs ++ news) → w.grownBy w' (some g) → (∀ j u, xs[j]? = some u → w'.cell? ⟨g, j, none⟩ = some u) → K (a.put o.dst v') w') :
    if Region.wanted o (yielded ops a.tmps) = true then Oper.wp P o a w K Q else E := by
  have hw : Region.wanted o (yielded ops a.tmps) = true := by simp [Region.wanted, hgd]
  rw [if_pos hw]; obtain ⟨v', w', hr, h2, h3, _, h5⟩ := run_append_own_at (P := P) w base t o.type e i z size bytes ht hi hz hsize hby hzs hsz _ n xs hown ad m c news hl hnews h1 h63 hbytes hbase; have hk := append_keeps w t o.type e i z base size bytes ht hi hz hsize hby g n cap xs hown ad m c news hl hnews h1 h63 hbytes hr; unfold Oper.wp execOp; simp only [ho, resolve, invoke, builtin, Sem.run_bind, Sem.run_pure, Result.andThen_ok, List.map_toArray, List.map_cons, List.map_nil, hs, hx, hr]; exact h v' w' h2 h3 hk

def IntsPost (xs : List Int) (w : World) (e : Ending) (w' : World) : Prop :=
  ∃ g cap, e = .returned (.slice (some ⟨g, 0, none⟩) xs.length cap) ∧ w'.ownsRow w.heap.size 3 1 (.slice (some ⟨g, 0, none⟩) xs.length cap) xs.length (inV xs) ∧ Below w.heap.size w w'
theorem mv_range {pl pc : List Int} (hp : PlOk pl) (hch : Chain pl pc) (hr : ∀ i, i < pc.length → -100000 ≤ gi pc i ∧ gi pc i ≤ 100000) {m : Int} (hm : -100000 ≤ m ∧ m ≤ 100000) : ∀ k, k ≤ pl.length → -300000 ≤ gi (mvF pl pc m) k ∧ gi (mvF pl pc m) k ≤ 300000 := by
  intro k hk; have hpos : Pos pl := fun i hi => (hp.in' i hi).1
  have h1 := (mvF_chain hpos hch m).top k hk; have h2 := (mvF_chain hpos hch m).low k hk; have h3 := hp.sum k hk; rw [mvF_zero] at h1 h2; have h4 := hr 0 (by rw [hch.len]; omega); omega
set_option maxHeartbeats 800000 in
set_option maxRecDepth 100000 in
theorem r_Moved (pp : Option Addr) (cp n : Nat) (pc : List Int) (q : Option Addr) (cq : Nat) (pl : List Int) (m : Int) (w : World) (hpc : RdI w pp pc) (hn : pc.length = n) (hq : RdI w q pl) (hp : PlOk pl) (hch : Chain pl pc) (hr : ∀ i, i < pc.length → -100000 ≤ gi pc i ∧ gi pc i ≤ 100000) (hm : -100000 ≤ m ∧ m ≤ 100000) :
    Calls Tryz.prog 126 #[.slice pp n cp, .slice q pl.length cq, .int .i64 m] w (IntsPost (mvF pl pc m) w) := by
  obtain ⟨i0, hi0, hz0, hz1, hz2⟩ := info_parts infI; have hpos : Pos pl := fun i hi => (hp.in' i hi).1
  have hlen := hch.len; obtain ⟨b, off, rfl, hc⟩ := hpc.at (i := 0) (by rw [hlen]; omega); have d0 := hc 0 (by rw [hlen]; omega); rw [Nat.add_zero] at d0; have h0 := hr 0 (by rw [hlen]; omega); have hz := mvF_zero pl pc m; have HM := Lib.hid (show (mvF pl pc m).length = pl.length + 1 from mvF_len pl pc m); have HST := Lib.hid (fun (k : Nat) (hk : k < pl.length) => (mvF_stepRef (m := m) hpos hch k hk)); have HRM := Lib.hid (mv_range hp hch hr hm); have HC := Lib.hid (show ∀ i, i < pl.length + 1 → w.cell? ⟨b, off + i, none⟩ = some (.int .i64 (gi pc i)) from fun i hi => hc i (by rw [hlen]; exact hi)); have HR := Lib.hid (show ∀ i, i < pl.length + 1 → -100000 ≤ gi pc i ∧ gi pc i ≤ 100000 from fun i hi => hr i (by rw [hlen]; exact hi)); have HP := Lib.hid hp; have HQ := Lib.hid hq; obtain rfl : n = pl.length + 1 := by rw [← hn, hlen]
  obtain ⟨M, hMe⟩ : ∃ M, mvF pl pc m = M := ⟨_, rfl⟩; rw [hMe] at HM HST HRM hz ⊢; obtain ⟨X0, hX0⟩ : ∃ x, gi pc 0 = x := ⟨_, rfl⟩; rw [hX0] at d0 h0 hz; have hw0 : IntKind.i64.wrap (X0 + m) = X0 + m := w64 _ (by omega) (by omega); have hrow := World.ownsRow_lit (base := w.heap.size) (e := 3) (size := 1) w #[.int .i64 (X0 + m)] 1 (Nat.le_refl _) (by unfold maxLen; omega) (by simp); obtain ⟨w2, e2, HS2, _, _, b2⟩ := box1 w (.int .i64 (X0 + m)) 3; rw [e2] at hrow
  have HO0 := Lib.hid (show w2.ownsRow w.heap.size 3 1 (.slice (some ⟨w.heap.size, 0, none⟩) 1 1) 1 (inV (M.take 1)) by
    have : M.take 1 = [X0 + m] := by
      rw [show (1 : Nat) = 0 + 1 by rfl, List.take_succ_eq_append_getElem (by rw [HM.out]; omega), ← gi_get M 0 (by rw [HM.out]; omega), hz]; rfl
    rw [this]; exact hrow)
  have HB2 := Lib.hid b2; have hlP := hp.len; clear hpc hq hp hc hr hn hch hpos hMe hX0 hrow b2 hz hlen
  go_enter Tryz.func126, Tryz.ntmps126
  go_wp2; clear e2
  go_loopw [7, 8] (fun v i wr => ∃ k : Nat, k ≤ pl.length ∧ i = .int .i64 k ∧ (∃ g cap, v = .slice (some ⟨g, 0, none⟩) (k + 1) cap ∧ Hid (wr.ownsRow w.heap.size 3 1 (.slice (some ⟨g, 0, none⟩) (k + 1) cap) (k + 1) (inV (M.take (k + 1))))) ∧ Hid (Below w.heap.size w wr)) (fun _ i _ => pl.length - (intOf i).toNat)
  case atStart => exact ⟨0, Nat.zero_le _, rfl, ⟨_, _, rfl, HO0⟩, HB2⟩
  case round =>
    obtain ⟨k, hk, rfl, ⟨g, cap, rfl, HO⟩, HN⟩ := hrel
    by_cases hlt : k < pl.length
    · have hki : (k : Int) < (pl.length : Int) := by omega
      obtain ⟨bq, oq, rfl, hcq⟩ := HQ.out.at hlt; have HQB := Lib.hid (show bq < w.heap.size from lt_of_cellq (hcq k hlt)); have HPB := Lib.hid (show b < w.heap.size from lt_of_cellq (HC.out (k + 1) (by omega))); have HGB := Lib.hid (show w.heap.size ≤ g from (HO.out.lt g rfl).1); have e1 := (HN.out.cell (lt_of_cellq (hcq k hlt))).trans (hcq k hlt)
      have e2 : wr.cell? ⟨g, k, none⟩ = some (.int .i64 (gi M k)) := by
        have h := own_cell HO.out (j := k) (by rw [List.length_take, HM.out]; omega); rw [gi_take _ _ _ (by omega)] at h; exact h
      have h0k : (0 : Int) ≤ (k : Int) := by omega
      have hkk : (k : Int) < (k : Int) + 1 := by omega
      have hkk1 : (0 : Int) ≤ (k : Int) + 1 := by omega
      have hkk2 : (k : Int) + 1 < (pl.length : Int) + 1 := by omega
      have e3 := (HN.out.cell (lt_of_cellq (HC.out (k + 1) (by omega)))).trans (HC.out (k + 1) (by omega)); have hst := HST.out k hlt; have hr1 := HRM.out k hk; have hr2 := HR.out (k + 1) (by omega); have hr3 := HP.out.in' k hlt
      have HT := Lib.hid (show inV (M.take (k + 1 + 1)) = inV (M.take (k + 1)) ++ [.int .i64 (gi M (k + 1))] by
        rw [List.take_succ_eq_append_getElem (by rw [HM.out]; omega), inV_append, gi_get M (k + 1) (by rw [HM.out]; omega)]; rfl)
      obtain ⟨A, hA⟩ : ∃ A, gi M k = A := ⟨_, rfl⟩; obtain ⟨X, hX⟩ : ∃ X, gi pc (k + 1) = X := ⟨_, rfl⟩; obtain ⟨Y, hY⟩ : ∃ Y, gi M (k + 1) = Y := ⟨_, rfl⟩; obtain ⟨P, hP⟩ : ∃ P, gi pl k = P := ⟨_, rfl⟩; have HMA := Lib.hid hA; rw [hA] at e2 hst hr1; rw [hX] at e3 hst hr2; rw [hY] at hst HT; rw [hP] at e1 hst hr3; have HSQ := Lib.hid hst; have hw1 : IntKind.i64.wrap (A - P) = A - P := w64 _ (by omega) (by omega); have hw2 : IntKind.i64.wrap ((k : Int) + 1) = (k : Int) + 1 := w64 _ (by omega) (by omega); have HKS := Lib.hid (show (k : Int) + 1 = ((k + 1 : Nat) : Int) by omega); clear hcq hA hX hY hP hst; go_wp2; have HSB := Lib.hid (cl3 e1 e2 e3); refine held3 e1 e2 e3 (fun W0 HB0 => ?_); refine tk 0 rfl (by exact HSB.out _ HB0) ?_; (try simp only [Act.put, ptL]); refine tk 1 rfl (by exact HSB.out _ HB0) ?_; (try simp only [Act.put, ptL]); refine tk 2 rfl (by exact HSB.out _ HB0) ?_; (try simp only [Act.put, ptL]); refine tk 3 rfl (by exact HSB.out _ HB0) ?_; (try simp only [Act.put, ptL]); refine tk 4 rfl (by exact HSB.out _ HB0) ?_; (try simp only [Act.put, ptL]); refine tk 5 rfl (by exact HSB.out _ HB0) ?_; (try simp only [Act.put, ptL]); refine tk 6 rfl (by exact HSB.out _ HB0) ?_; (try simp only [Act.put, ptL]); refine tk 7 rfl (by exact HSB.out _ HB0) ?_; (try simp only [Act.put, ptL]); refine tk 8 rfl (by exact HSB.out _ HB0) ?_; (try simp only [Act.put, ptL]); refine tk 9 rfl (by exact HSB.out _ HB0) ?_; (try simp only [Act.put, ptL]); refine tk 10 rfl (by exact HSB.out _ HB0) ?_; (try simp only [Act.put, ptL]); refine tk 11 rfl (by exact HSB.out _ HB0) ?_; (try simp only [Act.put, ptL]); refine tk 12 rfl (by exact HSB.out _ HB0) ?_; (try simp only [Act.put, ptL]); refine tk 13 rfl (by exact HSB.out _ HB0) ?_; (try simp only [Act.put, ptL]); refine tk 14 rfl (by exact HSB.out _ HB0) ?_; (try simp only [Act.put, ptL]); refine tk 15 rfl (by exact HSB.out _ HB0) ?_; (try simp only [Act.put, ptL]); refine tk 16 rfl (by exact HSB.out _ HB0) ?_; (try simp only [Act.put, ptL]); refine tk 17 rfl (by exact HSB.out _ HB0) ?_; (try simp only [Act.put, ptL]); refine tk 18 rfl (by exact HSB.out _ HB0) ?_; (try simp only [Act.put, ptL]); refine tk 19 rfl (by exact HSB.out _ HB0) ?_; (try simp only [Act.put, ptL]); refine tk 20 rfl (by exact HSB.out _ HB0) ?_; (try simp only [Act.put, ptL])
      refine rz1 21 rfl ?_; intro K hK; go_simp; refine kz hK (by exact HSB.out _ (HB0.alloc HB0.size _)) ?_; clear hK K; (try simp only [Act.put, ptL]); have hO1 := (own_kept HO.out HB0).alloc (.cells #[.int .i64 (min A (max (A - P) X))] 3); have hB1 := HB0.alloc HB0.size (.cells #[.int .i64 (min A (max (A - P) X))] 3); refine rz1 22 rfl ?_; intro K hK; refine step_append_keep _ rfl _ _ 23 rfl w.heap.size 3 i0 _ 1 8 Tryz.underlying23 hi0 hz0 hz1 hz2 rfl (by decide) g (k + 1) cap _ rfl hO1 ⟨W0.heap.size, 0, none⟩ 1 1 [.int .i64 (min A (max (A - P) X))] rfl rfl (news_of W0 _ _) (by intro u hu; simp at hu; subst hu; rfl) (by unfold maxLen; omega) (by omega) (by have := HN.out.size; have := hB1.size; omega) ?_; intro v' w3 hown' hgrow hkeep; have hB3 := (HN.out.trans (hB1.mono HN.out.size)).grown hgrow (by have := HN.out.size; have := hB1.size; omega) (fun j hj => (hO1.lt j hj).1); have f2 := hkeep k (.int .i64 A) (by rw [inV_get _ _ (by rw [List.length_take, HM.out]; omega), gi_take _ _ _ (by omega), HMA.out])
      have f1 := (hgrow.cell_far ⟨bq, oq + k, none⟩ (lt_of_cellq ((hB1.cell (lt_of_cellq e1)).trans e1)) (by have := HQB.out; have := HGB.out; simp; omega)).trans ((hB1.cell (lt_of_cellq e1)).trans e1); have f3 := (hgrow.cell_far ⟨b, off + (k + 1), none⟩ (lt_of_cellq ((hB1.cell (lt_of_cellq e3)).trans e3)) (by have := HPB.out; have := HGB.out; simp; omega)).trans ((hB1.cell (lt_of_cellq e3)).trans e3); refine kz hK (by exact ⟨f1, f2, f3⟩) ?_; clear hK K; (try simp only [Act.put, ptL]); obtain ⟨g', cap', rfl⟩ := own_form hown'; refine tk 23 rfl (by exact ⟨f1, f2, f3⟩) ?_; (try simp only [Act.put, ptL]); refine wpAnyH_done (by kernel_rfl) ?_ _; have HO' := Lib.hid hown'; have HN' := Lib.hid hB3; clear hown' hgrow hkeep f1 f2 f3 hO1 hB1 hB3 HB0 HSB e1 e2 e3; go_wp2; go_roundw
      case rel =>
        refine ⟨k + 1, by omega, by go_num, ⟨g', cap', rfl, Lib.hid ?_⟩, HN'⟩; rw [HT.out, HSQ.out]; exact HO'.out
      case measure => simp [intOf]; omega
    · obtain rfl : k = pl.length := by omega
      have hki : ¬ (pl.length : Int) < (pl.length : Int) := by omega
      go_wp2; go_ret; refine ⟨g, cap, by rw [HM.out]; rfl, ?_, HN.out⟩; have h := HO.out; rw [List.take_of_length_le (by rw [HM.out]; exact Nat.le_refl _)] at h; rw [HM.out]; exact h
def ElV (w : World) (B : Nat) (css : List (List Int)) (hs : List Value) : Prop := hs.length = css.length ∧ ∀ i, i < css.length → ∃ v, hs[i]? = some v ∧ w.ownsRow B 3 1 v (gl css i).length (inV (gl css i))
theorem ElV.below {w w' : World} {B : Nat} {css : List (List Int)} {hs : List Value} (h : ElV w B css hs) (hb : Below w.heap.size w w') : ElV w' B css hs := by
  refine ⟨h.1, fun i hi => ?_⟩; obtain ⟨v, e1, e2⟩ := h.2 i hi; exact ⟨v, e1, own_kept e2 hb⟩
theorem ElV.mono {w : World} {B B' : Nat} {css : List (List Int)} {hs : List Value} (h : ElV w B css hs) (hB : B' ≤ B) : ElV w B' css hs := by
  refine ⟨h.1, fun i hi => ?_⟩; obtain ⟨v, e1, e2⟩ := h.2 i hi; exact ⟨v, e1, own_mono e2 hB⟩
theorem ElV.grown {w w' : World} {B B' n size e : Nat} {css : List (List Int)} {hs xs : List Value} {v : Value} (h : ElV w B css hs) (ho : w.ownsRow B' e size v n xs) (he : e ≠ 3) (hg : w.grownBy w' v.ownBlock) : ElV w' B css hs := by
  refine ⟨h.1, fun i hi => ?_⟩; obtain ⟨u, e1, e2⟩ := h.2 i hi; exact ⟨u, e1, e2.kept hg (own_apart e2 ho (Ne.symm he))⟩
theorem ElV.snoc {w : World} {B : Nat} {css : List (List Int)} {hs : List Value} {x : List Int} {v : Value} (h : ElV w B css hs) (hx : w.ownsRow B 3 1 v x.length (inV x)) : ElV w B (css ++ [x]) (hs ++ [v]) := by
  refine ⟨by simp [h.1], fun i hi => ?_⟩; rw [List.length_append, List.length_singleton] at hi; rw [gl_snoc]
  by_cases h1 : i < css.length
  · obtain ⟨u, e1, e2⟩ := h.2 i h1
    rw [if_pos h1]; exact ⟨u, by rw [List.getElem?_append_left (by rw [h.1]; omega)]; exact e1, e2⟩
  · obtain rfl : i = css.length := by omega
    rw [if_neg h1, if_pos rfl]; exact ⟨v, by rw [← h.1]; simp, hx⟩
def OwLs (w : World) (B : Nat) (v : Value) (ls : List (List Int)) : Prop := ∃ hs, w.ownsRow B 23 1 v ls.length hs ∧ ElV w B ls hs
theorem OwLs.nil (w : World) (B : Nat) : OwLs w B (.slice none 0 0) [] := ⟨[], World.ownsRow_nil _ _ _ _, rfl, fun i hi => by simp at hi⟩
theorem OwLs.below {w w' : World} {B : Nat} {v : Value} {ls : List (List Int)} (h : OwLs w B v ls) (hb : Below w.heap.size w w') : OwLs w' B v ls := by
  obtain ⟨hs, h1, h2⟩ := h; exact ⟨hs, own_kept h1 hb, h2.below hb⟩
theorem OwLs.mono {w : World} {B B' : Nat} {v : Value} {ls : List (List Int)} (h : OwLs w B v ls) (hB : B' ≤ B) : OwLs w B' v ls := by
  obtain ⟨hs, h1, h2⟩ := h; exact ⟨hs, own_mono h1 hB, h2.mono hB⟩
theorem OwLs.read {w : World} {B : Nat} {v : Value} {ls : List (List Int)} (h : OwLs w B v ls) : ∃ q c, v = .slice q ls.length c ∧ RdLs w q ls := by
  obtain ⟨hs, h1, h2⟩ := h
  rcases h1.2 with ⟨rfl, h0⟩ | ⟨g, cap, cur, rfl, hrest⟩
  · have : ls = [] := List.length_eq_zero_iff.1 h0
    subst this; exact ⟨none, 0, rfl, .inl rfl⟩
  · refine ⟨some ⟨g, 0, none⟩, cap, rfl, .inr ⟨g, 0, rfl, fun i hi => ?_⟩⟩
    obtain ⟨u, e1, e2⟩ := h2.2 i hi; obtain ⟨q, c, hu, hr⟩ := rd_of_own e2; subst hu; have h3 := h1.cells (g := g) rfl i _ e1; rw [add_new] at h3; exact ⟨q, c, by rw [Nat.zero_add]; exact h3, hr⟩
def LsPost (ls : List (List Int)) (w : World) (e : Ending) (w' : World) : Prop := (∃ v, e = .returned v ∧ OwLs w' w.heap.size v ls) ∧ Below w.heap.size w w'
end Go.Proofs.YtlednchfifphgabGreatDoor
end

section
namespace Go.Proofs.YtlednchfifphgabGreatDoor
open Go Go.RowKit Go.Proofs
set_option linter.unusedVariables false
set_option linter.unusedSimpArgs false
attribute [local go_sem] imax2 imin2

set_option maxHeartbeats 1600000 in
set_option maxRecDepth 100000 in
theorem r_Run (pm pv pr : Option Addr) (cm cv cr : Nat) (p : Pc) (q : Option Addr) (cq : Nat) (pl : List Int) (w : World) (hp : RdP w pm pv pr p) (hq : RdI w q pl) (hpo : PieceOk p) (hpl : PlaysOk p pl) :
    Calls Tryz.prog 80 #[.agg #[.slice pm p.ms.length cm, .slice pv p.mv.length cv, .slice pr p.rs.length cr], .slice q pl.length cq] w (LsPost (allF pl p.mv p.mv.length) w) := by
  obtain ⟨i0, hi0, hz0, hz1, hz2⟩ := info_parts infI; obtain ⟨j0, hj0, hy0, hy1, hy2⟩ := info_parts infL; obtain ⟨w1, e1, HS1, k0, k1, k2, b1⟩ := box3 w (.slice pm p.ms.length cm) (.slice pv p.mv.length cv) (.slice pr p.rs.length cr) 26; have hpk := hpl.plok hpo
  have hrow : (w1.alloc (.cells #[.int .i64 0] 3)).ownsRow w1.heap.size 3 1 (.slice (some ⟨w1.heap.size, 0, none⟩) 1 1) 1 (inV (begTo pl 0)) := by
    rw [begTo_zero]; exact World.ownsRow_lit w1 #[.int .i64 0] 1 (Nat.le_refl _) (by unfold maxLen; omega) (by simp)
  obtain ⟨w2, e2, HS2, _, _, b2⟩ := box1 w1 (.int .i64 0) 3; rw [e2] at hrow; have HO0 := Lib.hid hrow; have HB2 := Lib.hid b2; have HB1 := Lib.hid b1; have HV := Lib.hid (hp.mv.below b1); have HQ := Lib.hid (hq.below b1); have HP := Lib.hid hpk; have HPO := Lib.hid hpo; have HPL := Lib.hid hpl; have K1 := Lib.hid k1; have hl := hpk.len; clear hp hq hpo hpl hpk hrow b1 b2 k0 k1 k2
  go_enter Tryz.func80, Tryz.ntmps80
  go_wp2; clear e1 e2
  go_loopw [5, 6] (fun v i wr => ∃ k : Nat, k ≤ pl.length ∧ i = .int .i64 k ∧ (∃ g cap, v = .slice (some ⟨g, 0, none⟩) (k + 1) cap ∧ Hid (wr.ownsRow w1.heap.size 3 1 (.slice (some ⟨g, 0, none⟩) (k + 1) cap) (k + 1) (inV (begTo pl k)))) ∧ Below w1.heap.size w1 wr) (fun _ i _ => pl.length - (intOf i).toNat)
  case atStart => exact ⟨0, by omega, rfl, ⟨w1.heap.size, 1, rfl, HO0⟩, HB2.out⟩
  case round =>
    obtain ⟨k, hk, rfl, ⟨g, cap, rfl, HO⟩, hnx⟩ := hrel; have HN := Lib.hid hnx
    by_cases hlt : k < pl.length
    · have hki : (k : Int) < (pl.length : Int) := by omega
      have h0k : (0 : Int) ≤ (k : Int) := by omega
      have hkk : (k : Int) < (k : Int) + 1 := by omega
      obtain ⟨b, off, rfl, hc⟩ := HQ.out.at hlt; have HQB := Lib.hid (show b < w1.heap.size from lt_of_cellq (hc k hlt)); have HGB := Lib.hid (show w1.heap.size ≤ g from (HO.out.lt g rfl).1); have e1 := (HN.out.cell (lt_of_cellq (hc k hlt))).trans (hc k hlt); have e2 := own_cell HO.out (j := k) (by rw [begTo_len]; omega); have hsk := HP.out.sum k (by omega); have hsp := HP.out.in' k hlt; have HE := Lib.hid (begTo_at pl k k (Nat.le_refl _)); have hw : IntKind.i64.wrap (gi (begTo pl k) k - gi pl k) = gi (begTo pl k) k - gi pl k := by rw [HE.out]; exact w64 _ (by omega) (by omega)
      have HT := Lib.hid (begTo_succ pl k); have HBL := Lib.hid (begTo_len pl k); obtain ⟨A, hA⟩ : ∃ A, gi (begTo pl k) k = A := ⟨_, rfl⟩; obtain ⟨P, hP⟩ : ∃ P, gi pl k = P := ⟨_, rfl⟩; have HMA := Lib.hid hA; rw [hA] at e2 hw HT; rw [hP] at e1 hw HT; clear hc hnx hsk hsp hA hP HE; go_wp2; have HSB := Lib.hid (cl2 e1 e2); refine held2 e1 e2 (fun W0 HB0 => ?_); refine tk 0 rfl (by exact HSB.out _ HB0) ?_; (try simp only [Act.put, ptL]); refine tk 1 rfl (by exact HSB.out _ HB0) ?_; (try simp only [Act.put, ptL]); refine tk 2 rfl (by exact HSB.out _ HB0) ?_; (try simp only [Act.put, ptL]); refine tk 3 rfl (by exact HSB.out _ HB0) ?_; (try simp only [Act.put, ptL]); refine tk 4 rfl (by exact HSB.out _ HB0) ?_; (try simp only [Act.put, ptL]); refine tk 5 rfl (by exact HSB.out _ HB0) ?_; (try simp only [Act.put, ptL]); refine tk 6 rfl (by exact HSB.out _ HB0) ?_; (try simp only [Act.put, ptL]); refine tk 7 rfl (by exact HSB.out _ HB0) ?_; (try simp only [Act.put, ptL]); refine tk 8 rfl (by exact HSB.out _ HB0) ?_; (try simp only [Act.put, ptL]); refine tk 9 rfl (by exact HSB.out _ HB0) ?_; (try simp only [Act.put, ptL])
      refine rz1 10 rfl ?_; intro K hK; go_simp; refine kz hK (by exact HSB.out _ (HB0.alloc HB0.size _)) ?_; clear hK K; (try simp only [Act.put, ptL]); have hO1 := (own_kept HO.out HB0).alloc (.cells #[.int .i64 (A - P)] 3); have hB1 := HB0.alloc HB0.size (.cells #[.int .i64 (A - P)] 3); refine rz1 11 rfl ?_; intro K hK; refine step_append_keep _ rfl _ _ 23 rfl w1.heap.size 3 i0 _ 1 8 Tryz.underlying23 hi0 hz0 hz1 hz2 rfl (by decide) g (k + 1) cap _ rfl hO1 ⟨W0.heap.size, 0, none⟩ 1 1 [.int .i64 (A - P)] rfl rfl (news_of W0 _ _) (by intro u hu; simp at hu; subst hu; rfl) (by unfold maxLen; omega) (by omega) (by have := HN.out.size; have := hB1.size; omega) ?_; intro v' w3 hown' hgrow hkeep; have hB3 := (HN.out.trans (hB1.mono HN.out.size)).grown hgrow (by have := HN.out.size; have := hB1.size; omega) (fun j hj => (hO1.lt j hj).1); have f2 := hkeep k (.int .i64 A) (by rw [inV_get _ _ (by rw [HBL.out]; omega), HMA.out])
      have f1 := (hgrow.cell_far ⟨b, off + k, none⟩ (lt_of_cellq ((hB1.cell (lt_of_cellq e1)).trans e1)) (by have := HQB.out; have := HGB.out; simp; omega)).trans ((hB1.cell (lt_of_cellq e1)).trans e1); refine kz hK (by exact ⟨f1, f2⟩) ?_; clear hK K; (try simp only [Act.put, ptL]); obtain ⟨g', cap', rfl⟩ := own_form hown'; refine tk 12 rfl (by exact ⟨f1, f2⟩) ?_; (try simp only [Act.put, ptL]); refine wpAnyH_done (by kernel_rfl) ?_ _; have HO' := Lib.hid hown'; have HN' := Lib.hid hB3; clear hown' hgrow hkeep f1 f2 hO1 hB1 hB3 HB0 HSB e1 e2; go_wp2; go_roundw
      case rel =>
        refine ⟨k + 1, by omega, by go_num, ⟨g', cap', rfl, Lib.hid ?_⟩, HN'.out⟩; rw [HT.out, inV_append]; exact HO'.out
      case measure => simp [intOf]; omega
    · obtain rfl : k = pl.length := by omega
      obtain ⟨wn, rfl⟩ : ∃ wn : World, wn = wr := ⟨_, rfl⟩; obtain ⟨w3, e3, HS3, _, _, b3⟩ := box1 wn (.slice (some ⟨g, 0, none⟩) (pl.length + 1) cap) 23; have hrow3 := World.ownsRow_lit (base := w1.heap.size) (e := 23) (size := 1) wn #[.slice (some ⟨g, 0, none⟩) (pl.length + 1) cap] 1 hnx.size (by unfold maxLen; omega) (by simp); rw [e3] at hrow3; have ho3 := own_kept HO.out b3; rw [begTo_all] at ho3; have HOW := Lib.hid (show w3.ownsRow w1.heap.size 23 1 (.slice (some ⟨wn.heap.size, 0, none⟩) (0 + 1) 1) (0 + 1) [.slice (some ⟨g, 0, none⟩) (pl.length + 1) cap] from hrow3)
      have HEL := Lib.hid (show ElC w3 w1.heap.size (allF pl p.mv 0) [.slice (some ⟨g, 0, none⟩) (pl.length + 1) cap] by
        rw [allF_zero]; refine ⟨rfl, fun i hi => ?_⟩; obtain rfl : i = 0 := by simp at hi; exact hi
        have e : (gl [begF pl] 0).length = pl.length + 1 := begF_len pl; rw [e]; exact ⟨g, cap, rfl, ho3⟩)
      have HR0 := Lib.hid (show RdI w3 (some ⟨g, 0, none⟩) (runF pl p.mv 0) from rd_of_own0 ho3); have HB3 := Lib.hid (show Below w1.heap.size w1 w3 from hnx.trans (b3.mono hnx.size)); clear hnx hlt b3 hrow3 ho3 HO HO0; go_wp2; clear e3
      go_loopw [5, 7, 8] (fun v o i wr => ∃ (k g1 c1 g cap : Nat) (hs : List Value), k ≤ p.mv.length ∧ i = .int .i64 k ∧ v = .slice (some ⟨g1, 0, none⟩) (pl.length + 1) c1 ∧ Hid (RdI wr (some ⟨g1, 0, none⟩) (runF pl p.mv k)) ∧ o = .slice (some ⟨g, 0, none⟩) (k + 1) cap ∧ Hid (wr.ownsRow w1.heap.size 23 1 (.slice (some ⟨g, 0, none⟩) (k + 1) cap) (k + 1) hs) ∧ Hid (ElC wr w1.heap.size (allF pl p.mv k) hs) ∧ Hid (Below w1.heap.size w1 wr)) (fun _ _ i _ => p.mv.length - (intOf i).toNat)
      case atStart => exact ⟨0, g, cap, wn.heap.size, 1, [.slice (some ⟨g, 0, none⟩) (pl.length + 1) cap], by omega, rfl, rfl, HR0, rfl, HOW, HEL, HB3⟩
      case round =>
        obtain ⟨k, g1, c1, g, cap, hs, hk, rfl, rfl, HRN, rfl, HO, HE, HN⟩ := hrel; have k1 := (HN.out.cell (lt_of_cellq K1.out)).trans K1.out
        by_cases hlt : k < p.mv.length
        · have hki : (k : Int) < (p.mv.length : Int) := by omega
          obtain ⟨b, off, rfl, hc⟩ := (HV.out.below HN.out).at hlt; have e1 := hc k hlt; have hm := HPO.out.move k hlt; have hch := runF_chain HPL.out.pos p.mv k
          have HCL := Lib.hid (r_Moved (some ⟨g1, 0, none⟩) c1 (pl.length + 1) (runF pl p.mv k) q cq pl (gi p.mv k) wr HRN.out hch.len (HQ.out.below HN.out) HP.out hch (fun i hi => by
            have := place_range HPO.out HPL.out k i (by omega) (by have := hch.len; omega); omega) (by omega))
          have hm8 := (piece_len HPO.out).2.1; clear hc hm hch; go_wp2_with fail; refine HCL.out.mono ?_; rintro e w4 ⟨g2, c2, he, ho4, b4⟩; rw [mvF_len] at he ho4; subst he; have HO4 := Lib.hid (own_kept HO.out b4); have HE4 := Lib.hid (HE.out.below b4); have HX4 := Lib.hid (own_mono ho4 HN.out.size); have HN4 := Lib.hid (HN.out.trans (b4.mono HN.out.size)); clear ho4 b4; go_wp2_with (at_builtin; refine wpList_append_own _ rfl _ _ 43 rfl w1.heap.size 23 j0 _ 1 24 Tryz.underlying43 hj0 hy0 hy1 hy2 rfl (by decide) _ _ _ rfl (HO4.out.alloc _) ⟨w4.heap.size, 0, none⟩ 1 1 [.slice (some ⟨g2, 0, none⟩) (pl.length + 1) c2] rfl rfl ?c1 ?c2 ?c3 ?c4 ?c5 ?_)
          case c1 => exact news_of _ _ _
          case c2 => intro u hu; simp at hu; subst hu; rfl
          case c3 => unfold maxLen; omega
          case c4 => omega
          case c5 => have := HN4.out.size; simp; omega
          intro v' w7 hown' hgrow _; obtain ⟨g', cap', rfl⟩ := own_form hown'; have HO7 := Lib.hid hown'; have HN7 := Lib.hid ((HN4.out.alloc HN4.out.size _).grown hgrow (by have := HN4.out.size; simp; omega) (fun j hj => (HO4.out.lt j hj).1)); have h3 := own_kept HX4.out (below_alloc1 w4 (.cells #[.slice (some ⟨g2, 0, none⟩) (pl.length + 1) c2] 23)); have h2 := h3.kept hgrow (own_apart h3 (HO4.out.alloc _) (by decide)); have HR7 := Lib.hid (show RdI w7 (some ⟨g2, 0, none⟩) (runF pl p.mv (k + 1)) from rd_of_own0 h2)
          have HE7 := Lib.hid (show ElC w7 w1.heap.size (allF pl p.mv (k + 1)) (hs ++ [.slice (some ⟨g2, 0, none⟩) (pl.length + 1) c2]) by
            have h1 := (HE4.out.below (below_alloc1 w4 (.cells #[.slice (some ⟨g2, 0, none⟩) (pl.length + 1) c2] 23))).grown (HO4.out.alloc _) (by decide) hgrow; have hl : (runF pl p.mv (k + 1)).length = pl.length + 1 := mvF_len _ _ _; rw [allF_succ, ← hl]; refine h1.snoc ?_; rw [hl]; exact h2)
          clear hown' hgrow h2 h3; go_wp2; go_roundw
          case rel => exact ⟨k + 1, g2, c2, g', cap', _, by omega, by go_num, rfl, HR7, rfl, HO7, HE7, HN7⟩
          case measure => simp [intOf]; omega
        · obtain rfl : k = p.mv.length := by omega
          have hki : ¬ (p.mv.length : Int) < (p.mv.length : Int) := by omega
          go_wp2; go_ret; refine ⟨⟨_, rfl, hs, ?_, ?_⟩, HB1.out.trans (HN.out.mono HB1.out.size)⟩
          · rw [allF_len]; exact own_mono HO.out HB1.out.size
          · refine ⟨HE.out.1, fun i hi => ?_⟩
            obtain ⟨u, c, h1, h2⟩ := HE.out.2 i hi; exact ⟨_, h1, own_mono h2 HB1.out.size⟩
end Go.Proofs.YtlednchfifphgabGreatDoor
end

section
namespace Go.Proofs.YtlednchfifphgabGreatDoor
open Go Go.RowKit Go.Proofs
set_option linter.unusedVariables false
set_option linter.unusedSimpArgs false
attribute [local go_sem] imax2 imin2

theorem fits_no {p : Pc} {pl : List Int} (h : withinB p pl = false) : fitsB p pl = false := by unfold fitsB; rw [h]; rfl
set_option maxHeartbeats 1600000 in
set_option maxRecDepth 100000 in
theorem r_Fits (pm pv pr : Option Addr) (cm cv cr : Nat) (p : Pc) (q : Option Addr) (cq : Nat) (pl : List Int) (w : World) (hp : RdP w pm pv pr p) (hq : RdI w q pl) (hpo : PieceOk p) (hpl : PlaysOk p pl) :
    Calls Tryz.prog 28 #[.agg #[.slice pm p.ms.length cm, .slice pv p.mv.length cv, .slice pr p.rs.length cr], .slice q pl.length cq] w fun e w' => e = .returned (.bool (fitsB p pl)) ∧ Below w.heap.size w w' := by
  obtain ⟨w1, e1, HS1, k0, k1, k2, b1⟩ := box3 w (.slice pm p.ms.length cm) (.slice pv p.mv.length cv) (.slice pr p.rs.length cr) 26; have HP := Lib.hid (hp.below b1); have HQ := Lib.hid (hq.below b1); have HB := Lib.hid b1; have HPO := Lib.hid hpo; have HPL := Lib.hid hpl; have HLN := Lib.hid (piece_len hpo); have HPN := Lib.hid hpl.len; have hrl6 : p.rs.length ≤ 1000 := by have := (piece_len hpo).2.2; omega
  clear hp hq b1 hpo hpl
  go_enter Tryz.func28, Tryz.ntmps28
  go_wp2_with fail; refine (r_Within pm pv pr cm cv cr p q cq pl _ HP.out.ms HQ.out (by rw [HPN.out]; exact Nat.le_refl _) (by have := HLN.out.1; omega)).mono ?_; clear e1
  rcases hw : withinB p pl with _ | _
  · have H := Lib.hid (fits_no hw)
    clear hw; rintro e wn ⟨rfl, bq⟩; have HBB := Lib.hid (HB.out.trans (bq.mono HB.out.size)); clear bq; go_wp2; go_ret; exact ⟨by rw [H.out]; rfl, HBB.out⟩
  have HW := Lib.hid hw; clear hw; rintro e wn ⟨rfl, bq⟩; replace HB := Lib.hid (HB.out.trans (bq.mono HB.out.size)); replace HP := Lib.hid (HP.out.below bq); replace HQ := Lib.hid (HQ.out.below bq); have k0 := (bq.cell (lt_of_cellq k0)).trans k0; have k1 := (bq.cell (lt_of_cellq k1)).trans k1; have k2 := (bq.cell (lt_of_cellq k2)).trans k2; clear bq; go_wp2_with fail; refine (r_Run pm pv pr cm cv cr p q cq pl _ HP.out HQ.out HPO.out HPL.out).mono ?_; rintro e w2 ⟨⟨v, rfl, ho⟩, bq⟩; obtain ⟨lq, lc, rfl, hls⟩ := ho.read; have HL := Lib.hid hls; rw [allF_len]; have k2 := (bq.cell (lt_of_cellq k2)).trans k2; have HR := Lib.hid (HP.out.rs.below bq); have HB2 := Lib.hid (HB.out.trans (bq.mono HB.out.size)); clear ho hls bq HP HQ k0 k1; go_wp2
  go_loopw [6] (fun v wr => ∃ k : Nat, k ≤ p.rs.length ∧ v = .int .i64 k ∧ Hid (∀ j, j < k → agreeB pl p.mv (gr p.rs j) = true) ∧ Hid (Below w2.heap.size w2 wr)) (fun v _ => p.rs.length - (intOf v).toNat)
  case atStart => exact ⟨0, Nat.zero_le _, rfl, Lib.hid (by intro j hj; omega), Lib.hid (Below.refl _ _)⟩
  case round =>
    obtain ⟨k, hk, rfl, HH, HN⟩ := hrel; have k2 := (HN.out.cell (lt_of_cellq k2)).trans k2
    by_cases hlt : k < p.rs.length
    · have hki : (k : Int) < (p.rs.length : Int) := by omega
      obtain ⟨b, off, rfl, hc⟩ := (HR.out.below HN.out).at hlt; obtain ⟨a0, a1, a2, a3⟩ := hc k hlt; obtain ⟨⟨ha1, ha2⟩, ⟨hb1, hb2⟩, ⟨hs1, hs2⟩, ho1, ho2⟩ := HPO.out.read k hlt; have HAG := Lib.hid (show agreeB pl p.mv (gr p.rs k) = inB (gi (runF pl p.mv (gr p.rs k).aft.toNat) (gr p.rs k).arb.toNat) ((gr p.rs k).seen - (gr p.rs k).off) ((gr p.rs k).seen + (gr p.rs k).off) from rfl)
      have HNO := Lib.hid (show agreeB pl p.mv (gr p.rs k) = false → fitsB p pl = false from fun h => by
        unfold fitsB; rw [HW.out, all_bad (f := agreeB pl p.mv) (d := rd0) (l := p.rs) hlt h]; rfl)
      obtain ⟨a, ha⟩ : ∃ a : Nat, (gr p.rs k).aft = (a : Int) := ⟨(gr p.rs k).aft.toNat, by omega⟩; obtain ⟨c, hcc⟩ : ∃ c : Nat, (gr p.rs k).arb = (c : Int) := ⟨(gr p.rs k).arb.toNat, by omega⟩; have HG := Lib.hid (show agreeB pl p.mv (gr p.rs k) = agreeB pl p.mv (gr p.rs k) from rfl); obtain ⟨S, hS⟩ : ∃ S, (gr p.rs k).seen = S := ⟨_, rfl⟩; obtain ⟨O, hO⟩ : ∃ O, (gr p.rs k).off = O := ⟨_, rfl⟩; obtain ⟨A, hA⟩ : ∃ A, agreeB pl p.mv (gr p.rs k) = A := ⟨_, rfl⟩; rw [hA] at HNO HAG HG; rw [hS] at a2 hs1 hs2 HAG; rw [hO] at a3 ho1 ho2 HAG; rw [ha] at a0 ha2 HAG; rw [hcc] at a1 hb2 HAG; rw [Int.toNat_natCast, Int.toNat_natCast] at HAG; have hpn := HPN.out; obtain ⟨bl, ol, rfl, hcl⟩ := (HL.out.below HN.out).at (i := a) (by rw [allF_len]; omega); obtain ⟨qa, ca, r0, hra⟩ := hcl a (by rw [allF_len]; omega); rw [allF_at _ _ _ _ (by omega)] at r0 hra; have hrl := (runF_chain HPL.out.pos p.mv a).len
      rw [hrl] at r0; obtain ⟨b1, o1, rfl, hc1⟩ := hra.at (i := c) (by rw [hrl]; omega); have r1 := hc1 c (by rw [hrl]; omega); obtain ⟨w4, e4, HS4, y0, y1, y2, y3, b4⟩ := box4 wr (.int .i64 (a : Int)) (.int .i64 (c : Int)) (.int .i64 S) (.int .i64 O) 116; have r0 := (b4.cell (lt_of_cellq r0)).trans r0; have r1 := (b4.cell (lt_of_cellq r1)).trans r1; have HN4 := Lib.hid (HN.out.trans (b4.mono HN.out.size)); have hw1 : IntKind.i64.wrap (S - O) = S - O := w64 _ (by omega) (by omega); have hw2 : IntKind.i64.wrap (S + O) = S + O := w64 _ (by omega) (by omega); have hai : (a : Int) < (p.mv.length : Int) + 1 := by omega
      have hci : (c : Int) < (pl.length : Int) + 1 := by omega
      clear hpn
      have HC := Lib.hid (fun W => show Calls Tryz.prog 76 #[.int .i64 (gi (runF pl p.mv a) c), .int .i64 (S - O), .int .i64 (S + O)] W fun e w' => e = .returned (.bool A) ∧ Below W.heap.size W w' by
        rw [HAG.out]; exact (r_in _ _ _ W).mono fun e w' h => ⟨h.1, h.2 ▸ Below.refl _ _⟩)
      have HST := Lib.hid (show A = true → ∀ j, j < k + 1 → agreeB pl p.mv (gr p.rs j) = true from fun h j hj => by
        rcases Nat.lt_or_ge j k with h' | h'
        · exact HH.out j h'
        · obtain rfl : j = k := by omega
          rw [hA]; exact h)
      clear hc hcl hra hc1 hrl b4 ha hcc hS hO hA; go_upto_region 8 with (fail); clear e4 a0 a1 a2 a3
      cases A with
      | false =>
        refine wp_region_quiet_below (by kernel_rfl) (by kernel_rfl) ?_; (repeat (first | ((with_reducible first | apply wq_fg faP0 | apply wq_fg faP1 | apply wq_fg faP2 | apply wq_fg faM0 | apply wq_fg faS0 | apply wq_fg faS1 | apply wq_fg faR0 | apply wq_fg faR1 | apply wq_fg faR2 | apply wq_fg faR3 | apply wq_fg faT0 | apply wq_fg faT1 | apply wq_fg faQ0 | apply wq_fg faQ1 | apply wq_fg faH0 | apply wq_fg faH1 | apply wq_fg faH2 | apply wq_fg faH3); (focus rfl); (focus rfl); go_frame) | ((with_reducible apply wq_not); (focus rfl); (focus rfl); go_frame) | ((with_reducible first | apply wq_ix Tryz.underlying23 szI | apply wq_ix Tryz.underlying27 szSp | apply wq_ix Tryz.underlying22 szM | apply wq_ix Tryz.underlying24 szR | apply wq_ix Tryz.underlying43 szL | apply wq_ix Tryz.underlying103 szT); (focus rfl); (focus rfl); (focus rfl); (focus omega); (try simp only [Nat.mul_one]); go_frame) | ((with_reducible first | apply wq_ld agI | apply wq_ld agB | apply wq_ld agLI | apply wq_ld agLS | apply wq_ld agLM | apply wq_ld agLR | apply wq_ld agLL | apply wq_ld agLT); (focus rfl); (focus rfl); (focus (intro _ hbq; first | exact (hbq.cell (lt_of_cellq y0)).trans y0 | exact (hbq.cell (lt_of_cellq y1)).trans y1 | exact (hbq.cell (lt_of_cellq y2)).trans y2 | exact (hbq.cell (lt_of_cellq y3)).trans y3 | exact (hbq.cell (lt_of_cellq r0)).trans r0 | exact (hbq.cell (lt_of_cellq r1)).trans r1)); go_frame) | ((with_reducible first | apply wq_add | apply wq_sub | apply wq_mul | apply wq_rem); (focus rfl); (focus rfl); (focus rfl); (focus omega); (focus omega); go_frame) | ((with_reducible first | apply wq_eql | apply wq_neq | apply wq_lss | apply wq_leq | apply wq_gtr | apply wq_geq | apply wq_max2 | apply wq_min2); (focus rfl); (focus rfl); (focus rfl); go_frame) | ((with_reducible first | apply wq_max3 | apply wq_min3); (focus rfl); (focus rfl); (focus rfl); (focus rfl); go_frame) | go_big_quiet_step ((intro hbq; exact calls_below hbq (HC.out _))))); refine wpQuiet_nil ?_; intro wq hbq
        have HN5 := Lib.hid (HN4.out.trans (hbq.mono HN4.out.size)); clear hbq y0 y1 y2 y3 r0 r1; go_wp2; go_ret; exact ⟨by rw [HNO.out trivial]; rfl, HB2.out.trans (HN5.out.mono HB2.out.size)⟩
      | true =>
        refine wp_region_quiet_below (by kernel_rfl) (by kernel_rfl) ?_; (repeat (first | ((with_reducible first | apply wq_fg faP0 | apply wq_fg faP1 | apply wq_fg faP2 | apply wq_fg faM0 | apply wq_fg faS0 | apply wq_fg faS1 | apply wq_fg faR0 | apply wq_fg faR1 | apply wq_fg faR2 | apply wq_fg faR3 | apply wq_fg faT0 | apply wq_fg faT1 | apply wq_fg faQ0 | apply wq_fg faQ1 | apply wq_fg faH0 | apply wq_fg faH1 | apply wq_fg faH2 | apply wq_fg faH3); (focus rfl); (focus rfl); go_frame) | ((with_reducible apply wq_not); (focus rfl); (focus rfl); go_frame) | ((with_reducible first | apply wq_ix Tryz.underlying23 szI | apply wq_ix Tryz.underlying27 szSp | apply wq_ix Tryz.underlying22 szM | apply wq_ix Tryz.underlying24 szR | apply wq_ix Tryz.underlying43 szL | apply wq_ix Tryz.underlying103 szT); (focus rfl); (focus rfl); (focus rfl); (focus omega); (try simp only [Nat.mul_one]); go_frame) | ((with_reducible first | apply wq_ld agI | apply wq_ld agB | apply wq_ld agLI | apply wq_ld agLS | apply wq_ld agLM | apply wq_ld agLR | apply wq_ld agLL | apply wq_ld agLT); (focus rfl); (focus rfl); (focus (intro _ hbq; first | exact (hbq.cell (lt_of_cellq y0)).trans y0 | exact (hbq.cell (lt_of_cellq y1)).trans y1 | exact (hbq.cell (lt_of_cellq y2)).trans y2 | exact (hbq.cell (lt_of_cellq y3)).trans y3 | exact (hbq.cell (lt_of_cellq r0)).trans r0 | exact (hbq.cell (lt_of_cellq r1)).trans r1)); go_frame) | ((with_reducible first | apply wq_add | apply wq_sub | apply wq_mul | apply wq_rem); (focus rfl); (focus rfl); (focus rfl); (focus omega); (focus omega); go_frame) | ((with_reducible first | apply wq_eql | apply wq_neq | apply wq_lss | apply wq_leq | apply wq_gtr | apply wq_geq | apply wq_max2 | apply wq_min2); (focus rfl); (focus rfl); (focus rfl); go_frame) | ((with_reducible first | apply wq_max3 | apply wq_min3); (focus rfl); (focus rfl); (focus rfl); (focus rfl); go_frame) | go_big_quiet_step ((intro hbq; exact calls_below hbq (HC.out _))))); refine wpQuiet_nil ?_; intro wq hbq
        have HN5 := Lib.hid (HN4.out.trans (hbq.mono HN4.out.size)); clear hbq y0 y1 y2 y3 r0 r1; go_wp2; go_roundw
        case rel => exact ⟨k + 1, by omega, by go_num, Lib.hid (HST.out rfl), HN5⟩
        case measure => simp [intOf]; omega
    · obtain rfl : k = p.rs.length := by omega
      have hki : ¬ (p.rs.length : Int) < (p.rs.length : Int) := by omega
      have H := Lib.hid (show fitsB p pl = true by
        unfold fitsB; rw [HW.out, all_ok (f := agreeB pl p.mv) (d := rd0) (l := p.rs) HH.out]; rfl)
      go_wp2; go_ret; exact ⟨by rw [H.out]; rfl, HB2.out.trans (HN.out.mono HB2.out.size)⟩
end Go.Proofs.YtlednchfifphgabGreatDoor
end

section
namespace Go.Proofs.YtlednchfifphgabGreatDoor
open Go Go.RowKit Go.Proofs
set_option linter.unusedVariables false
set_option linter.unusedSimpArgs false
attribute [local go_sem] imax2 imin2

def ElR (w : World) (css : List (List Int)) (hs : List Value) : Prop := hs.length = css.length ∧ ∀ i, i < css.length → ∃ q c, hs[i]? = some (.slice q (gl css i).length c) ∧ RdI w q (gl css i)
theorem ElR.snoc {w : World} {css : List (List Int)} {hs : List Value} {x : List Int} {q : Option Addr} {c : Nat} (h : ElR w css hs) (hx : RdI w q x) : ElR w (css ++ [x]) (hs ++ [.slice q x.length c]) := by
  refine ⟨by simp [h.1], fun i hi => ?_⟩; rw [List.length_append, List.length_singleton] at hi; rw [gl_snoc]
  by_cases h1 : i < css.length
  · obtain ⟨q', c', e1, e2⟩ := h.2 i h1
    rw [if_pos h1]; exact ⟨q', c', by rw [List.getElem?_append_left (by rw [h.1]; omega)]; exact e1, e2⟩
  · obtain rfl : i = css.length := by omega
    rw [if_neg h1, if_pos rfl]; exact ⟨q, c, by rw [← h.1]; simp, hx⟩
theorem ElR.read {w w' : World} {B : Nat} {v : Value} {css : List (List Int)} {hs : List Value} (h : ElR w css hs) (ho : w'.ownsRow B 23 1 v css.length hs) (hb : Below w.heap.size w w') : ∃ q c, v = .slice q css.length c ∧ RdLs w' q css := by
  rcases ho.2 with ⟨rfl, h0⟩ | ⟨g, cap, cur, rfl, hrest⟩
  · have : css = [] := List.length_eq_zero_iff.1 h0
    subst this; exact ⟨none, 0, rfl, .inl rfl⟩
  · refine ⟨some ⟨g, 0, none⟩, cap, rfl, .inr ⟨g, 0, rfl, fun i hi => ?_⟩⟩
    obtain ⟨q, c, e1, e2⟩ := h.2 i hi; have h3 := ho.cells (g := g) rfl i _ e1; rw [add_new] at h3; exact ⟨q, c, by rw [Nat.zero_add]; exact h3, e2.below hb⟩
end Go.Proofs.YtlednchfifphgabGreatDoor
end

section
namespace Go.Proofs.YtlednchfifphgabGreatDoor
open Go Go.RowKit Go.Proofs
set_option linter.unusedVariables false
set_option linter.unusedSimpArgs false
attribute [local go_sem] imax2 imin2

set_option maxRecDepth 100000 in
theorem r_Cheaper (pq : Option Addr) (cp : Nat) (prices : List Int) (p : Option Addr) (c : Nat) (a : List Int) (q : Option Addr) (d : Nat) (b : List Int) (w : World) (hp : RdI w pq prices) (hx : RdI w p a) (hy : RdI w q b) (hl : a.length ≤ 1000) (hl2 : b.length ≤ 1000)
    (hpp : ∀ i, i < prices.length → 0 ≤ gi prices i ∧ gi prices i ≤ 1000) (ha : ∀ i, i < a.length → 0 ≤ gi a i ∧ gi a i < (prices.length : Int)) (hb : ∀ i, i < b.length → 0 ≤ gi b i ∧ gi b i < (prices.length : Int)) :
    Calls Tryz.prog 47 #[.slice pq prices.length cp, .slice p a.length c, .slice q b.length d] w fun e w' => e = .returned (.bool (keyB prices a b)) ∧ Below w.heap.size w w' := by
  have HPA := Lib.hid (fun W (h : Below w.heap.size w W) => r_Price pq cp prices p c a W (hp.below h) (hx.below h) hl hpp ha); have HPB := Lib.hid (fun W (h : Below w.heap.size w W) => r_Price pq cp prices q d b W (hp.below h) (hy.below h) hl2 hpp hb); have HBE := Lib.hid (fun W (h : Below w.heap.size w W) => r_Before p c a q d b W (hx.below h) (hy.below h) hl hl2); have HQ := Lib.hid (show keyB prices a b = if priceF prices a ≠ priceF prices b then decide (priceF prices a < priceF prices b) else if a.length ≠ b.length then decide (a.length < b.length) else lexB a b from rfl); clear hp hx hy hpp ha hb; obtain ⟨x, hx⟩ : ∃ x, priceF prices a = x := ⟨_, rfl⟩; obtain ⟨y, hy⟩ : ∃ y, priceF prices b = y := ⟨_, rfl⟩; rw [hx] at HPA HQ; rw [hy] at HPB HQ; clear hx hy; have HB := Lib.hid (Below.refl w.heap.size w)
  by_cases h1 : x = y
  · subst h1
    have h1' : (x != x) = false := by simp
    by_cases h2 : a.length = b.length
    · have h2' : ((a.length : Int) != (b.length : Int)) = false := by simp [h2]
      have H := Lib.hid (show keyB prices a b = lexB a b by rw [HQ.out, if_neg (by simp), if_neg (by simp [h2])]); clear h2
      go_enter Tryz.func47, Tryz.ntmps47
      (go_wp2_with fail); refine (HPA.out _ HB.out).mono ?_
      rintro e wn ⟨rfl, bq⟩; replace HB := Lib.hid (HB.out.trans (bq.mono HB.out.size)); clear bq
      (go_wp2_with fail); refine (HPB.out _ HB.out).mono ?_
      rintro e wn ⟨rfl, bq⟩; replace HB := Lib.hid (HB.out.trans (bq.mono HB.out.size)); clear bq
      (go_wp2_with fail); refine (HBE.out _ HB.out).mono ?_
      rintro e wn ⟨rfl, bq⟩; replace HB := Lib.hid (HB.out.trans (bq.mono HB.out.size)); clear bq; go_wp2; go_ret; exact ⟨by rw [H.out]; rfl, HB.out⟩
    · have h2' : ((a.length : Int) != (b.length : Int)) = true := by simp; omega
      have H := Lib.hid (show keyB prices a b = decide (a.length < b.length) by rw [HQ.out, if_neg (by simp), if_pos h2]); clear h2
      go_enter Tryz.func47, Tryz.ntmps47
      (go_wp2_with fail); refine (HPA.out _ HB.out).mono ?_
      rintro e wn ⟨rfl, bq⟩; replace HB := Lib.hid (HB.out.trans (bq.mono HB.out.size)); clear bq
      (go_wp2_with fail); refine (HPB.out _ HB.out).mono ?_
      rintro e wn ⟨rfl, bq⟩; replace HB := Lib.hid (HB.out.trans (bq.mono HB.out.size)); clear bq; go_wp2; go_ret; exact ⟨by rw [H.out]; rfl, HB.out⟩
  · have h1' : (x != y) = true := by simp [h1]
    have H := Lib.hid (show keyB prices a b = decide (x < y) by rw [HQ.out, if_pos h1]); clear h1
    go_enter Tryz.func47, Tryz.ntmps47
    (go_wp2_with fail); refine (HPA.out _ HB.out).mono ?_
    rintro e wn ⟨rfl, bq⟩; replace HB := Lib.hid (HB.out.trans (bq.mono HB.out.size)); clear bq
    (go_wp2_with fail); refine (HPB.out _ HB.out).mono ?_
    rintro e wn ⟨rfl, bq⟩; replace HB := Lib.hid (HB.out.trans (bq.mono HB.out.size)); clear bq
    (go_wp2_with fail); refine (HPA.out _ HB.out).mono ?_
    rintro e wn ⟨rfl, bq⟩; replace HB := Lib.hid (HB.out.trans (bq.mono HB.out.size)); clear bq
    (go_wp2_with fail); refine (HPB.out _ HB.out).mono ?_
    rintro e wn ⟨rfl, bq⟩; replace HB := Lib.hid (HB.out.trans (bq.mono HB.out.size)); clear bq; go_wp2; go_ret; exact ⟨by rw [H.out]; rfl, HB.out⟩

end Go.Proofs.YtlednchfifphgabGreatDoor
end

section
namespace Go.Proofs.YtlednchfifphgabGreatDoor
open Go Go.RowKit Go.Proofs
set_option linter.unusedVariables false
set_option linter.unusedSimpArgs false
attribute [local go_sem] imax2 imin2

def RowsOk (ts : List (List Int)) : Prop := ∀ i, i < ts.length → (gl ts i).length ≤ 6 ∧ ∀ j, j < (gl ts i).length → 0 ≤ gi (gl ts i) j ∧ gi (gl ts i) j ≤ 100
theorem rest_range {pl : List Int} (l : List Int) (h : ∀ i, i < pl.length → 0 ≤ gi pl i ∧ gi pl i ≤ 100) : ∀ k, k ≤ pl.length → 0 ≤ restTo pl l k ∧ restTo pl l k ≤ 100 * (k : Int) := by
  intro k
  induction k with
  | zero => intro _; simp [restTo]
  | succ k ih =>
    intro hk; have h1 := ih (by omega); have h2 := h k (by omega); rw [restTo]
    split <;> omega
def enoughL (ts : List (List Int)) (lim : Int) (l : List Int) : Bool := ts.all fun pl => decide (restF pl l ≤ lim)
set_option maxHeartbeats 1600000 in
set_option maxRecDepth 100000 in
theorem r_Enough (q : Option Addr) (c : Nat) (ts : List (List Int)) (qg : Option Addr) (cg : Nat) (gone : List Int) (lim : Int) (w : World) (hq : RdLs w q ts) (hg : RdI w qg gone) (hts : RowsOk ts) (hl : ts.length ≤ 1000) (hgl : gone.length ≤ 1000) :
    Calls Tryz.prog 46 #[.slice q ts.length c, .slice qg gone.length cg, .int .i64 lim] w fun e w' => e = .returned (.bool (enoughL ts lim gone)) ∧ Below w.heap.size w w' := by
  have HQ := Lib.hid hq; have HG := Lib.hid hg; have HT := Lib.hid hts; clear hq hg hts
  go_enter Tryz.func46, Tryz.ntmps46
  go_wp2
  go_loopw [7] (fun i wr => ∃ k : Nat, k ≤ ts.length ∧ i = .int .i64 k ∧ Hid (∀ j, j < k → restF (gl ts j) gone ≤ lim) ∧ Hid (Below w.heap.size w wr)) (fun i _ => ts.length - (intOf i).toNat)
  case atStart => exact ⟨0, Nat.zero_le _, rfl, Lib.hid (fun j hj => by omega), Lib.hid (Below.refl _ _)⟩
  case round =>
    obtain ⟨k, hk, rfl, HK, HN⟩ := hrel
    by_cases hlt : k < ts.length
    · have hki : (k : Int) < (ts.length : Int) := by omega
      obtain ⟨b, off, rfl, hc⟩ := HQ.out.at hlt; obtain ⟨qk, ck, s0, sr⟩ := hc k hlt; obtain ⟨hrl, hrv⟩ := HT.out k hlt; have s0 := (HN.out.cell (lt_of_cellq s0)).trans s0
      have HBAD := Lib.hid (show ¬ restF (gl ts k) gone ≤ lim → enoughL ts lim gone = false from fun g => by
        unfold enoughL; exact all_badP [] hlt (show decide (restF (ts.getD k []) gone ≤ lim) = false from decide_eq_false g))
      have HNX := Lib.hid (show restF (gl ts k) gone ≤ lim → ∀ j, j < k + 1 → restF (gl ts j) gone ≤ lim from upto_succ HK.out); obtain ⟨pl, hpl⟩ : ∃ pl, gl ts k = pl := ⟨_, rfl⟩; rw [hpl] at s0 sr hrl hrv HBAD HNX; have HRR := Lib.hid (rest_range gone hrv); have HRV := Lib.hid hrv; have HSR := Lib.hid (sr.below HN.out); clear hc hpl hrv sr; obtain ⟨wn, rfl⟩ : ∃ wn : World, wn = wr := ⟨_, rfl⟩; go_wp2
      go_loopw [8, 9] (fun v i wr => ∃ j : Nat, j ≤ pl.length ∧ i = .int .i64 j ∧ v = .int .i64 (restTo pl gone j) ∧ Hid (Below wn.heap.size wn wr)) (fun _ i _ => pl.length - (intOf i).toNat)
      case atStart => exact ⟨0, Nat.zero_le _, rfl, rfl, Lib.hid (Below.refl _ _)⟩
      case round =>
        obtain ⟨j, hj, rfl, rfl, HM⟩ := hrel; have s1 := (HM.out.cell (lt_of_cellq s0)).trans s0
        by_cases hlt2 : j < pl.length
        · have hji : (j : Int) < (pl.length : Int) := by omega
          obtain ⟨bp, op, rfl, hcp⟩ := (HSR.out.below HM.out).at hlt2; have d0 := hcp j hlt2; have hv := HRV.out j hlt2; have hr := HRR.out j (by omega); have HL := Lib.hid (fun W (h : Below wr.heap.size wr W) => r_listed qg cg gone (j : Int) W ((HG.out.below (HN.out.trans (HM.out.mono HN.out.size))).below h) (by omega)); have HST : Hid (restTo pl gone (j + 1) = if ((j : Int) ∈ gone) then restTo pl gone j else restTo pl gone j + gi pl j) := Lib.hid rfl; obtain ⟨x, hx⟩ : ∃ x, gi pl j = x := ⟨_, rfl⟩; obtain ⟨s, hs⟩ : ∃ s, restTo pl gone j = s := ⟨_, rfl⟩; rw [hx] at d0 hv HST; rw [hs] at hr HST ⊢; clear hcp hx hs
          by_cases hm : (j : Int) ∈ gone
          · have H := Lib.hid (show restTo pl gone (j + 1) = s by rw [HST.out, if_pos hm])
            have HL2 := Lib.hid (fun W (h : Below wr.heap.size wr W) => show Calls Tryz.prog 101 #[.slice qg gone.length cg, .int .i64 (j : Int)] W fun e w' => e = .returned (.bool true) ∧ Below W.heap.size W w' by
              have h2 := HL.out W h; rw [decide_eq_true hm] at h2; exact h2)
            clear hm HL HST
            (go_wp2_with fail); refine (HL2.out _ (Below.refl _ _)).mono ?_
            rintro e wx ⟨rfl, bq⟩; have HM' := Lib.hid (HM.out.trans (bq.mono HM.out.size)); clear bq; go_wp2; go_roundw
            case rel => exact ⟨j + 1, by omega, by go_num, by rw [H.out], HM'⟩
            case measure => simp [intOf]; omega
          · have H := Lib.hid (show restTo pl gone (j + 1) = s + x by rw [HST.out, if_neg hm])
            have HL2 := Lib.hid (fun W (h : Below wr.heap.size wr W) => show Calls Tryz.prog 101 #[.slice qg gone.length cg, .int .i64 (j : Int)] W fun e w' => e = .returned (.bool false) ∧ Below W.heap.size W w' by
              have h2 := HL.out W h; rw [decide_eq_false hm] at h2; exact h2)
            have hw : IntKind.i64.wrap (s + x) = s + x := w64 _ (by omega) (by omega); clear hm HL HST
            (go_wp2_with fail); refine (HL2.out _ (Below.refl _ _)).mono ?_
            rintro e wx ⟨rfl, bq⟩; have s2 := (bq.cell (lt_of_cellq s1)).trans s1; have d2 := (bq.cell (lt_of_cellq d0)).trans d0; have HM' := Lib.hid (HM.out.trans (bq.mono HM.out.size)); clear bq s1 d0; go_wp2; go_roundw
            case rel => exact ⟨j + 1, by omega, by go_num, by rw [H.out], HM'⟩
            case measure => simp [intOf]; omega
        · obtain rfl : j = pl.length := by omega
          have hji : ¬ (pl.length : Int) < (pl.length : Int) := by omega
          have hE : restTo pl gone pl.length = restF pl gone := rfl; rw [hE]; have HNM := Lib.hid (HN.out.trans (HM.out.mono HN.out.size)); obtain ⟨R, hR⟩ : ∃ R, restF pl gone = R := ⟨_, rfl⟩; rw [hR] at HBAD HNX ⊢; clear hE hR
          by_cases hgt : R > lim
          · have H := Lib.hid (HBAD.out (by omega))
            go_wp2; go_ret; exact ⟨by rw [H.out]; rfl, HNM.out⟩
          · have H := Lib.hid (HNX.out (by omega))
            go_wp2; go_roundw
            case rel => exact ⟨k + 1, by omega, by go_num, H, HNM⟩
            case measure => simp [intOf]; omega
    · obtain rfl : k = ts.length := by omega
      have hki : ¬ (ts.length : Int) < (ts.length : Int) := by omega
      have H := Lib.hid (show enoughL ts lim gone = true from (all_at [] ts).2 fun i hi => decide_eq_true (HK.out i hi)); go_wp2; go_ret; exact ⟨by rw [H.out]; rfl, HN.out⟩

end Go.Proofs.YtlednchfifphgabGreatDoor
end

section
namespace Go.Proofs.YtlednchfifphgabGreatDoor
open Go Go.RowKit Go.Proofs
set_option linter.unusedVariables false
set_option linter.unusedSimpArgs false
attribute [local go_sem] imax2 imin2

end Go.Proofs.YtlednchfifphgabGreatDoor
end

section
namespace Go.Proofs.YtlednchfifphgabGreatDoor
open Go Go.RowKit Go.Proofs
set_option linter.unusedVariables false
set_option linter.unusedSimpArgs false
attribute [local go_sem] imax2 imin2

end Go.Proofs.YtlednchfifphgabGreatDoor
end

section
namespace Go.Proofs.YtlednchfifphgabGreatDoor
open Go Go.RowKit Go.Proofs
set_option linter.unusedVariables false
set_option linter.unusedSimpArgs false
attribute [local go_sem] imax2 imin2

end Go.Proofs.YtlednchfifphgabGreatDoor
end

section
namespace Go.Proofs.YtlednchfifphgabGreatDoor
open Go Go.RowKit Go.Proofs
set_option linter.unusedVariables false
set_option linter.unusedSimpArgs false

end Go.Proofs.YtlednchfifphgabGreatDoor
end

section
namespace Go.Proofs.YtlednchfifphgabGreatDoor
open Go Go.RowKit Go.Proofs
set_option linter.unusedVariables false
set_option linter.unusedSimpArgs false
attribute [local go_sem] imax2 imin2

def SpOk (L : List (Int × Int)) (w : World) (e : Ending) (w' : World) : Prop := ∃ q c, e = .returned (.tuple #[.slice q L.length c, .int .i64 0]) ∧ RdS w' q L ∧ Below w.heap.size w w'
theorem spans_ok {p : Pc} {L : List (Int × Int)} {w w' : World} {e : Ending} (h1 : pieceB p = true) (ht : truthsF p ≠ []) (h : SpansPost p L w e w') : SpOk L w e w' := by
  rcases h with ⟨h | h | ⟨_, _, g, c, he, ho⟩, hb⟩
  · rw [h1] at h; cases h.1
  · exact absurd h.2.1 ht
  · exact ⟨_, c, he, rdS_at ho rfl, hb⟩
end Go.Proofs.YtlednchfifphgabGreatDoor
end

section
namespace Go.Proofs.YtlednchfifphgabGreatDoor
open Go Go.RowKit Go.Proofs
set_option linter.unusedVariables false
set_option linter.unusedSimpArgs false
attribute [local go_sem] imax2 imin2

theorem add_lit0 (b off j : Nat) : (⟨b, off, none⟩ : Addr).add j = ⟨b, off + j, none⟩ := by unfold Addr.add; split <;> simp_all
theorem inV_cells (xs : List Int) : ∀ u ∈ inV xs, u.oneCell' = true := by intro u hu; simp [inV] at hu; obtain ⟨x, _, rfl⟩ := hu; rfl
theorem news_ints {w : World} {q : Option Addr} {xs : List Int} (h : RdI w q xs) : xs.length = 0 ∨ ∃ ad, q = some ad ∧ ∀ i u, (inV xs)[i]? = some u → w.cell? (ad.add i) = some u := by
  rcases h with rfl | ⟨b, off, rfl, hc⟩
  · exact .inl rfl
  · refine .inr ⟨_, rfl, fun i u hu => ?_⟩
    have hi : i < xs.length := by have := (List.getElem?_eq_some_iff.1 hu).1; rw [inV_length] at this; exact this
    rw [inV_get _ i hi] at hu
    cases hu
    rw [add_lit0]; exact hc i hi
def OnPost (pm pr : Option Addr) (cm cr : Nat) (p : Pc) (l : List Int) (w : World) (e : Ending) (w' : World) : Prop :=
  ∃ pv cv, e = .returned (.agg #[.slice pm p.ms.length cm, .slice pv (onF p l).mv.length cv, .slice pr p.rs.length cr]) ∧ RdP w' pm pv pr (onF p l) ∧ Below w.heap.size w w'
set_option maxHeartbeats 1600000 in
set_option maxRecDepth 100000 in
theorem r_On (pm pv pr : Option Addr) (cm cv cr : Nat) (p : Pc) (q : Option Addr) (cq : Nat) (l : List Int) (w : World) (hp : RdP w pm pv pr p) (hq : RdI w q l) (h1 : p.mv.length ≤ 1000) (h2 : l.length ≤ 1000) :
    Calls Tryz.prog 49 #[.agg #[.slice pm p.ms.length cm, .slice pv p.mv.length cv, .slice pr p.rs.length cr], .slice q l.length cq] w (OnPost pm pr cm cr p l w) := by
  obtain ⟨i0, hi0, hz0, hz1, hz2⟩ := info_parts infI; obtain ⟨w1, e1, HS1, k0, k1, k2, b1⟩ := box3 w (.slice pm p.ms.length cm) (.slice pv p.mv.length cv) (.slice pr p.rs.length cr) 26; have kr := alloc_new w1 (.cells #[.slice none 0 0, .slice none 0 0, .slice none 0 0] 26); obtain ⟨w2, e2, HS2, _, _, _, b2⟩ := box3 w1 (.slice none 0 0) (.slice none 0 0) (.slice none 0 0) 26; rw [e2] at kr; have kx := alloc_new w2 (.cells #[.slice pm p.ms.length cm, .slice pv p.mv.length cv, .slice pr p.rs.length cr] 26); obtain ⟨w3, e3, HS3, _, _, _, b3⟩ := box3 w2 (.slice pm p.ms.length cm) (.slice pv p.mv.length cv) (.slice pr p.rs.length cr) 26; rw [e3] at kx; have kr := (b3.block _ (block_lt kr)).trans kr; have b23 := b2.trans (b3.mono b2.size); have b13 := b1.trans (b23.mono b1.size); have j0 := (b2.cell (lt_of_cellq k0)).trans k0; have j1 := (b2.cell (lt_of_cellq k1)).trans k1; have j2 := (b2.cell (lt_of_cellq k2)).trans k2
  have k0 := (b23.cell (lt_of_cellq k0)).trans k0; have k1 := (b23.cell (lt_of_cellq k1)).trans k1; have k2 := (b23.cell (lt_of_cellq k2)).trans k2; have HB := Lib.hid b13; have HP0 := Lib.hid hp; have HN1 := Lib.hid (news_ints (hp.mv.below b13)); have HQ := Lib.hid (hq.below b13); have HKR := Lib.hid kr; have HKX := Lib.hid kx; have HZ := Lib.hid (show w.heap.size ≤ w1.heap.size ∧ w1.heap.size < w2.heap.size ∧ w2.heap.size < w3.heap.size from ⟨b1.size, by have := HS2.out; omega, by have := HS3.out; omega⟩); clear hp hq b1 b2 b3 b23 b13 kr kx
  go_enter Tryz.func49, Tryz.ntmps49
  go_wp2_with (at_builtin; refine wpList_append_src _ rfl _ _ 23 rfl w3.heap.size 3 i0 _ 1 8 Tryz.underlying23 hi0 hz0 hz1 hz2 rfl (by decide) (.slice none 0 0) 0 [] rfl (World.ownsRow_nil _ _ _ _) pv p.mv.length cv (inV p.mv) rfl ?a1 ?a2 ?a3 ?a4 ?a5 ?a6 ?_)
  case a1 => rw [inV_length, Nat.mul_one]
  case a2 => exact HN1.out
  case a3 => exact inV_cells _
  case a4 => unfold maxLen; omega
  case a5 => omega
  case a6 => exact Nat.le_refl _
  intro v1 wa hown1 hgrow1 hat1; have HBA := Lib.hid (show Below w3.heap.size w3 wa from (Below.refl _ _).grown hgrow1 (Nat.le_refl _) (fun j hj => by simp [Value.ownBlock] at hj)); have HW1 := Lib.hid hown1; have HN2 := Lib.hid (news_ints (HQ.out.below HBA.out)); clear hown1 hgrow1 hat1 e1 e2 e3 k0 k1 k2 j0 j1 j2; go_wp2_with (at_builtin; refine wpList_append_src _ rfl _ _ 23 rfl w3.heap.size 3 i0 _ 1 8 Tryz.underlying23 hi0 hz0 hz1 hz2 rfl (by decide) v1 p.mv.length (inV p.mv) rfl (by first | exact HW1.out | simpa using HW1.out) q l.length cq (inV l) rfl ?c1 ?c2 ?c3 ?c4 ?c5 ?c6 ?_)
  case c1 => rw [inV_length, Nat.mul_one]
  case c2 => exact HN2.out
  case c3 => exact inV_cells _
  case c4 => unfold maxLen; omega
  case c5 => omega
  case c6 => exact HBA.out.size
  intro v2 wb hown2 hgrow2 hat2; have HBB := Lib.hid (show Below w3.heap.size w3 wb from HBA.out.grown hgrow2 HBA.out.size (fun j hj => ((show wa.ownsRow w3.heap.size 3 1 v1 p.mv.length (inV p.mv) from by first | exact HW1.out | simpa using HW1.out).lt j hj).1)); obtain ⟨gv, cv', rfl⟩ := own_anyE hown2; have HW2 := Lib.hid (show wb.ownsRow w3.heap.size 3 1 (.slice gv (p.mv.length + l.length) cv') (p.mv.length + l.length) (inV (p.mv ++ l)) by rw [inV_append]; exact hown2); have hkx := (HBB.out.block _ (block_lt HKX.out)).trans HKX.out; have hkr := (HBB.out.block _ (block_lt HKR.out)).trans HKR.out; obtain ⟨wc, s1, c1, f1, hx1, hxk1, HZ1, hxb1⟩ := put3_1 wb w2.heap.size 26 _ _ _ (.slice gv (p.mv.length + l.length) cv') hkx; have hkr := (hxk1 w1.heap.size (by have := HZ.out; omega)).trans hkr; obtain ⟨x0, x1, x2⟩ := cells3 hx1; obtain ⟨wd, we, wf, t1, t2, t3, ⟨d0, g0⟩, ⟨d1, g1⟩, ⟨d2, g2⟩, hx4, hxk, HZ4, hxb⟩ := set3 wc w1.heap.size 26 _ _ _ (.slice pm p.ms.length cm) (.slice gv (p.mv.length + l.length) cv') (.slice pr p.rs.length cr) hkr
  obtain ⟨r0, r1, r2⟩ := cells3 hx4; have hbf : Below w.heap.size w wf := hxb w w.heap.size HZ.out.1 (hxb1 w w.heap.size (by have := HZ.out; omega) (HB.out.trans (HBB.out.mono HB.out.size))); have HBF := Lib.hid hbf
  have hof := own_same HW2.out (w' := wf) (fun g' hg' => by
    have h := (HW2.out.lt g' hg').1; have := HZ.out; exact (hxk g' (by omega)).trans (hxk1 g' (by omega)))
  have HRD := Lib.hid (show RdP wf pm gv pr (onF p l) from ⟨(HP0.out.below hbf).ms, rdI_at hof (by show (p.mv ++ l).length = _; rw [List.length_append]), (HP0.out.below hbf).rs⟩); clear hown2 hgrow2 hat2 hkx hkr hx1 hxk1 hxb1 hx4 hxk hxb hof hbf HW1 HW2 HN1 HN2; go_wp2; refine bodyPost_ret (v := .agg #[.slice pm p.ms.length cm, .slice gv (p.mv.length + l.length) cv', .slice pr p.rs.length cr]) ?_ rfl ⟨gv, cv', by rw [show (onF p l).mv.length = p.mv.length + l.length from List.length_append], HRD.out, HBF.out⟩; simp [results, Tryz.results49, go_sem, r0, r1, r2]
end Go.Proofs.YtlednchfifphgabGreatDoor
end

section
namespace Go.Proofs.YtlednchfifphgabGreatDoor
open Go Go.RowKit Go.Proofs
set_option linter.unusedVariables false
set_option linter.unusedSimpArgs false
attribute [local go_sem] imax2 imin2

end Go.Proofs.YtlednchfifphgabGreatDoor
end

section
namespace Go.Proofs.YtlednchfifphgabGreatDoor
open Go Go.RowKit Go.Proofs
set_option linter.unusedVariables false
set_option linter.unusedSimpArgs false
attribute [local go_sem] imax2 imin2

end Go.Proofs.YtlednchfifphgabGreatDoor
end

section
namespace Go.Proofs.YtlednchfifphgabGreatDoor
open Go Go.RowKit Go.Proofs
set_option linter.unusedVariables false
set_option linter.unusedSimpArgs false

set_option maxRecDepth 100000 in
theorem l_plain (q : Option Addr) (c : Nat) (ls : List (Int × Int)) (many : Int) (n : Nat) (w : World) (hn : ls.length = n) (hn2 : n ≤ 1000) (hr : RdS w q ls) (hp : ∀ i, i < ls.length → -5000 ≤ (gm ls i).1 ∧ (gm ls i).1 ≤ (gm ls i).2 ∧ (gm ls i).2 ≤ 5000) (hm : (n : Int) = many) :
    Calls Tryz.prog 45 #[.slice q n c, .int .i64 many] w fun e w' => e = .returned (.bool true) ∧ Below w.heap.size w w' := by
  subst hm; have HP := Lib.hid (show ∀ i, i < n → -5000 ≤ (gm ls i).1 ∧ (gm ls i).1 ≤ (gm ls i).2 ∧ (gm ls i).2 ≤ 5000 from fun i hi => hp i (by rw [hn]; exact hi)); have HR := Lib.hid hr; have HN := Lib.hid hn; have heq : ((n : Int) == (n : Int)) = true := by simp
  clear hp hr hn
  go_enter Tryz.func45, Tryz.ntmps45
  go_wp2
  go_loopw [5] (fun i wr => ∃ k : Nat, k ≤ n ∧ i = .int .i64 k ∧ ∃ d, wr = w.drewN d) (fun i _ => n - (intOf i).toNat)
  case atStart => exact ⟨0, Nat.zero_le _, rfl, 0, rfl⟩
  case round =>
    obtain ⟨k, hk, rfl, d, hwr⟩ := hrel; have HW := Lib.hid hwr
    by_cases hlt : k < n
    · have hki : (k : Int) < (n : Int) := by omega
      obtain ⟨b, off, rfl, hc⟩ := HR.out.at (by rw [HN.out]; exact hlt); obtain ⟨e0, e1⟩ := hc k (by rw [HN.out]; exact hlt); have d0 : wr.cell? ⟨b, off + k * 2, none⟩ = some (.int .i64 (gm ls k).1) := by rw [hwr]; exact e0
      have d1 : wr.cell? ⟨b, off + k * 2 + 1, none⟩ = some (.int .i64 (gm ls k).2) := by rw [hwr]; exact e1
      obtain ⟨g1, g2, g3⟩ := HP.out k hlt; obtain ⟨A, hA⟩ : ∃ A, (gm ls k).1 = A := ⟨_, rfl⟩; obtain ⟨B, hB⟩ : ∃ B, (gm ls k).2 = B := ⟨_, rfl⟩; rw [hA] at d0 g1 g2; rw [hB] at d1 g2 g3; have t1 : decide (A < -5000) = false := decide_eq_false (by omega); have t2 : decide (A > B) = false := decide_eq_false (by omega); have t2b : decide (B < A) = false := decide_eq_false (by omega); have t3 : decide (B > 5000) = false := decide_eq_false (by omega); have t3b : decide (5000 < B) = false := decide_eq_false (by omega); clear hc e0 e1 hA hB hwr; go_wp2
      go_quiet (fail)
      go_wp2; go_roundw
      case rel => exact ⟨k + 1, by omega, by go_num, by rw [HW.out]; first | exact ⟨_, rfl⟩ | (rw [drew_add]; exact ⟨_, rfl⟩)⟩
      case measure => simp [intOf]; omega
    · obtain rfl : k = n := by omega
      have hki : ¬ (k : Int) < (k : Int) := by omega
      go_wp2; go_ret; exact ⟨rfl, by first | exact below_drewN (Below.refl _ _) _ | (rw [HW.out]; exact below_drewN (Below.refl _ _) _)⟩
end Go.Proofs.YtlednchfifphgabGreatDoor
end

section
namespace Go.Proofs.YtlednchfifphgabGreatDoor
open Go Go.RowKit Go.Proofs
set_option linter.unusedVariables false
set_option linter.unusedSimpArgs false
attribute [local go_sem] imax2 imin2

theorem r_Limit (n : Int) (w : World) : Calls Tryz.prog 25 #[.int .i64 n] w fun e w' => e = .returned (.bool (inB n 0 5000)) ∧ Below w.heap.size w w' := by
  go_enter Tryz.func25, Tryz.ntmps25
  (go_wp2_with fail); refine (r_in _ _ _ _).mono ?_
  rintro e wn ⟨rfl, rfl⟩; go_wp2; go_ret; exact ⟨rfl, Below.refl _ _⟩
end Go.Proofs.YtlednchfifphgabGreatDoor
end

section
namespace Go.Proofs.YtlednchfifphgabGreatDoor
open Go Go.RowKit Go.Proofs
set_option linter.unusedVariables false
set_option linter.unusedSimpArgs false
attribute [local go_sem] imax2 imin2

theorem renewFine_eq (p : Pc) (prices : List Int) (lim : Int) : renewFine p prices lim = (pricesB p prices && inB lim 0 5000) := rfl
def RenOk (p : Pc) (prices : List Int) (lim : Int) (w : World) (e : Ending) (w' : World) : Prop := ∃ q c, e = .returned (.tuple #[.slice q (renewF p prices lim).length c, .int .i64 (priceF prices (renewF p prices lim)), .int .i64 0]) ∧ RdI w' q (renewF p prices lim) ∧ Below w.heap.size w w'
theorem renew_yes {p : Pc} {prices : List Int} {lim : Int} {w w' : World} {e : Ending} (he : errF p (pricesB p prices && inB lim 0 5000) = 0) (h : RenewPost p prices lim w e w') : RenOk p prices lim w e w' := by
  unfold RenewPost at h; rw [renewFine_eq, he] at h
  rcases h with ⟨⟨h, _⟩ | ⟨_, q, c, h, hr⟩, hb⟩
  · exact absurd rfl h
  · exact ⟨q, c, h, hr, hb⟩
end Go.Proofs.YtlednchfifphgabGreatDoor
end

section
namespace Go.Proofs.YtlednchfifphgabGreatDoor
set_option linter.unusedVariables false
theorem goneL_getE (sp : List (Int × Int)) (l : List Int) (i : Nat) (h : i < (goneL sp l).length) : (goneL sp l)[i] = if ((i : Int) ∈ l) then (0, 0) else gm sp i := by simp [goneL]
theorem goneL_nil (sp : List (Int × Int)) : goneL sp [] = sp := by
  apply List.ext_getElem
  · simp [goneL]
  · intro i h1 h2
    rw [goneL_getE]; simp only [List.not_mem_nil, if_false]; exact gm_get sp i h2
theorem goneL_step {sp : List (Int × Int)} {l : List Int} {k : Nat} (hk : k < l.length) (h : 0 ≤ gi l k ∧ gi l k < (sp.length : Int)) : goneL sp (l.take (k + 1)) = (goneL sp (l.take k)).set (gi l k).toNat (0, 0) := by
  apply List.ext_getElem
  · simp [goneL]
  · intro i h1 h2
    have e : ∀ x : Int, x ∈ l.take (k + 1) ↔ x ∈ l.take k ∨ x = gi l k := fun x => by
      rw [List.take_succ_eq_append_getElem hk, List.mem_append, List.mem_singleton, gi_get _ _ hk]
    rw [List.getElem_set, goneL_getE, goneL_getE]
    by_cases hi : (gi l k).toNat = i
    · have h3 : (i : Int) = gi l k := by omega
      rw [if_pos hi, if_pos ((e _).2 (.inr h3))]
    · have h3 : (i : Int) ≠ gi l k := by omega
      rw [if_neg hi]
      by_cases h4 : (i : Int) ∈ l.take k
      · rw [if_pos h4, if_pos ((e _).2 (.inl h4))]
      · rw [if_neg h4, if_neg (fun h5 => by rcases (e _).1 h5 with h6 | h6; exact h4 h6; exact h3 h6)]
theorem goneL_take (sp : List (Int × Int)) (l : List Int) : goneL sp (l.take l.length) = goneL sp l := by rw [List.take_length]
theorem gone_len (sp : List (Int × Int)) (l : List Int) : (goneL sp l).length = sp.length := by simp [goneL]
def mostP (p : Pc) : List Int := (List.range p.ms.length).map fun i => (gm (provedF p) i).2
theorem mostP_len (p : Pc) : (mostP p).length = p.ms.length := by simp [mostP]
theorem mostP_at (p : Pc) (i : Nat) (h : i < p.ms.length) : gi (mostP p) i = (gm (provedF p) i).2 := gi_range _ _ _ h
end Go.Proofs.YtlednchfifphgabGreatDoor
end

section
namespace Go.Proofs.YtlednchfifphgabGreatDoor
open Go Go.RowKit Go.Proofs
set_option linter.unusedVariables false
set_option linter.unusedSimpArgs false
attribute [local go_sem] imax2 imin2

theorem own_putS {w : World} {B e size n g cap j : Nat} {xs : List Value} (h : w.ownsRow B e size (.slice (some ⟨g, 0, none⟩) n cap) n xs) (u : Value) :
    (w.setCell ⟨g, j, none⟩ u).ownsRow B e size (.slice (some ⟨g, 0, none⟩) n cap) n (xs.set j u) := by
  refine ⟨by rw [List.length_set]; exact h.1, ?_⟩
  rcases h.2 with ⟨h1, _⟩ | ⟨g', cap', cur, h1, h2, h3, h4, h5, h6, h7⟩
  · cases h1
  · cases h1
    refine .inr ⟨g, cap, cur.setIfInBounds j u, rfl, h2, ?_, h4, h5, by simpa using h6, ?_⟩
    · rw [heap_setCell_same w g j cur e u h3]
    · rw [Array.toList_setIfInBounds, List.take_set, h7]
theorem spV_set2 : ∀ (l : List (Int × Int)) (i : Nat) (x y : Int), ((spV l).set (i * 2) (.int .i64 x)).set (i * 2 + 1) (.int .i64 y) = spV (l.set i (x, y)) := by
  intro l
  induction l with
  | nil => intro i x y; rfl
  | cons z l ih =>
    obtain ⟨a, b⟩ := z; intro i x y
    cases i with
    | zero => rfl
    | succ i =>
      have h : (i + 1) * 2 = i * 2 + 1 + 1 := by omega
      rw [h]; simp only [spV, List.set_cons_succ]; rw [ih i x y]
end Go.Proofs.YtlednchfifphgabGreatDoor
end

section
namespace Go.Proofs.YtlednchfifphgabGreatDoor
open Go Go.RowKit Go.Proofs
set_option linter.unusedVariables false
set_option linter.unusedSimpArgs false
attribute [local go_sem] imax2 imin2

def riseB (l : List Int) (n i : Nat) : Bool := decide (0 ≤ gi l i) && decide (gi l i < (n : Int)) && (decide (i = 0) || decide (gi l (i - 1) < gi l i))
def risesB (l : List Int) (n : Nat) : Bool := (List.range l.length).all (riseB l n)
theorem risesB_iff {l : List Int} {n : Nat} : risesB l n = true ↔ RisesTo l n := by
  unfold risesB RisesTo riseB; simp only [List.all_eq_true, List.mem_range, Bool.and_eq_true, Bool.or_eq_true, decide_eq_true_eq]
  constructor
  · intro h i hi
    have := h i hi; exact ⟨this.1, fun h0 => by rcases this.2 with h1 | h1; omega; exact h1⟩
  · intro h i hi
    have := h i hi; refine ⟨this.1, ?_⟩
    by_cases h0 : i = 0
    · exact .inl h0
    · exact .inr (this.2 (by omega))
theorem rises_bad {l : List Int} {n i : Nat} (hi : i < l.length) (h : riseB l n i = false) : risesB l n = false := by
  cases hh : risesB l n with
  | false => rfl
  | true =>
    unfold risesB at hh; rw [List.all_eq_true] at hh; have := hh i (List.mem_range.2 hi); rw [h] at this; cases this
theorem rises_all {l : List Int} {n : Nat} (h : ∀ i, i < l.length → riseB l n i = true) : risesB l n = true := by
  unfold risesB; rw [List.all_eq_true]; intro i hi; exact h i (List.mem_range.1 hi)
set_option maxHeartbeats 3200000 in
set_option maxRecDepth 100000 in
theorem l_rising (pm : Option Addr) (n cm : Nat) (v1 v2 : Value) (q : Option Addr) (c : Nat) (l : List Int) (w : World) (hx : RdI w q l) (hl : l.length ≤ 1000) (hn : n ≤ 1000) :
    Calls Tryz.prog 43 #[.agg #[.slice pm n cm, v1, v2], .slice q l.length c] w fun e w' => e = .returned (.bool (risesB l n)) ∧ Below w.heap.size w w' := by
  obtain ⟨w0, e0, HS0, k0, k1, k2, b0⟩ := box3 w (.slice pm n cm) v1 v2 26; have HB := Lib.hid b0; have HX := Lib.hid (hx.below b0); clear b0 hx
  go_enter Tryz.func43, Tryz.ntmps43
  go_wp2; clear e0
  go_loopw [5] (fun i wr => ∃ k : Nat, k ≤ l.length ∧ i = .int .i64 k ∧ Hid (∀ j, j < k → riseB l n j = true) ∧ Hid (Below w0.heap.size w0 wr)) (fun i _ => l.length - (intOf i).toNat)
  case atStart => exact ⟨0, Nat.zero_le _, rfl, Lib.hid (fun j hj => by omega), Lib.hid (Below.refl _ _)⟩
  case round =>
    obtain ⟨k, hk, rfl, HK, HN⟩ := hrel; have k3 := (HN.out.cell (lt_of_cellq k0)).trans k0; have HBW := Lib.hid (HB.out.trans (HN.out.mono HB.out.size))
    by_cases hlt : k < l.length
    · have hki : (k : Int) < (l.length : Int) := by omega
      have h0k : (0 : Int) ≤ (k : Int) := by omega
      obtain ⟨b, off, rfl, hc⟩ := HX.out.at hlt; have d0 := hc k hlt; have d0 := (HN.out.cell (lt_of_cellq d0)).trans d0; have HBAD := Lib.hid (show riseB l n k = false → risesB l n = false from fun h => rises_bad hlt h); have HNX := Lib.hid (show riseB l n k = true → ∀ j, j < k + 1 → riseB l n j = true from upto_succ HK.out); have HRB := Lib.hid (show riseB l n k = (decide (0 ≤ gi l k) && decide (gi l k < (n : Int)) && (decide (k = 0) || decide (gi l (k - 1) < gi l k))) from rfl); have hwk : IntKind.i64.wrap ((k : Int) + 1) = (k : Int) + 1 := w64 _ (by omega) (by omega)
      by_cases hk0 : k = 0
      · have HK0 := Lib.hid hk0
        have t0 : decide ((k : Int) > 0) = false := decide_eq_false (by omega); have t0b : decide (0 < k) = false := decide_eq_false (by omega); obtain ⟨x, hx⟩ : ∃ x, gi l k = x := ⟨_, rfl⟩; rw [hx] at d0 HRB; clear hc hx hk0
        by_cases g1 : x < 0
        · have g1' : decide (x < 0) = true := decide_eq_true g1
          have H := Lib.hid (HBAD.out (by rw [HRB.out, decide_eq_false (show ¬ 0 ≤ x by omega)]; rfl)); clear g1; go_wp2; have HSB := Lib.hid (cl2 d0 k3); refine held2 d0 k3 (fun W0 HB0 => ?_); refine tk 0 rfl (by exact HSB.out _ HB0) ?_; (try simp only [Act.put, ptL]); refine tk 1 rfl (by exact HSB.out _ HB0) ?_; (try simp only [Act.put, ptL]); refine tk 2 rfl (by exact HSB.out _ HB0) ?_; (try simp only [Act.put, ptL]); refine tk 3 rfl (by exact HSB.out _ HB0) ?_; (try simp only [Act.put, ptL]); refine tk 4 rfl (by exact HSB.out _ HB0) ?_; (try simp only [Act.put, ptL]); refine tk 5 rfl (by exact HSB.out _ HB0) ?_; (try simp only [Act.put, ptL]); refine tu 6 rfl (by exact HSB.out _ HB0) ?_; (try simp only [Act.put, ptL]); refine tu 7 rfl (by exact HSB.out _ HB0) ?_; (try simp only [Act.put, ptL]); refine tu 8 rfl (by exact HSB.out _ HB0) ?_; (try simp only [Act.put, ptL]); refine tu 9 rfl (by exact HSB.out _ HB0) ?_; (try simp only [Act.put, ptL]); refine tu 10 rfl (by exact HSB.out _ HB0) ?_; (try simp only [Act.put, ptL]); refine tu 11 rfl (by exact HSB.out _ HB0) ?_; (try simp only [Act.put, ptL]); refine tu 12 rfl (by exact HSB.out _ HB0) ?_; (try simp only [Act.put, ptL]); refine tu 13 rfl (by exact HSB.out _ HB0) ?_; (try simp only [Act.put, ptL])
          refine tk 14 rfl (by exact HSB.out _ HB0) ?_; (try simp only [Act.put, ptL]); refine tk 15 rfl (by exact HSB.out _ HB0) ?_; (try simp only [Act.put, ptL]); refine tu 16 rfl (by exact HSB.out _ HB0) ?_; (try simp only [Act.put, ptL]); refine tu 17 rfl (by exact HSB.out _ HB0) ?_; (try simp only [Act.put, ptL]); refine tu 18 rfl (by exact HSB.out _ HB0) ?_; (try simp only [Act.put, ptL]); refine tu 19 rfl (by exact HSB.out _ HB0) ?_; (try simp only [Act.put, ptL]); refine tu 20 rfl (by exact HSB.out _ HB0) ?_; (try simp only [Act.put, ptL]); refine tu 21 rfl (by exact HSB.out _ HB0) ?_; (try simp only [Act.put, ptL]); refine tu 22 rfl (by exact HSB.out _ HB0) ?_; (try simp only [Act.put, ptL]); refine tu 23 rfl (by exact HSB.out _ HB0) ?_; (try simp only [Act.put, ptL]); refine tu 24 rfl (by exact HSB.out _ HB0) ?_; (try simp only [Act.put, ptL]); refine tu 25 rfl (by exact HSB.out _ HB0) ?_; (try simp only [Act.put, ptL]); refine tu 26 rfl (by exact HSB.out _ HB0) ?_; (try simp only [Act.put, ptL]); refine tu 27 rfl (by exact HSB.out _ HB0) ?_; (try simp only [Act.put, ptL]); refine tu 28 rfl (by exact HSB.out _ HB0) ?_; (try simp only [Act.put, ptL]); refine tu 29 rfl (by exact HSB.out _ HB0) ?_; (try simp only [Act.put, ptL])
          refine tk 30 rfl (by exact HSB.out _ HB0) ?_; (try simp only [Act.put, ptL]); refine wpAnyH_done (by kernel_rfl) ?_ _; have HZ0 := Lib.hid HB0; clear HSB HB0; go_wp2; go_ret; exact ⟨by rw [H.out]; rfl, HBW.out.trans (HZ0.out.mono HBW.out.size)⟩
        have g1' : decide (x < 0) = false := decide_eq_false g1
        by_cases g2 : x ≥ (n : Int)
        · have g2' : decide (x ≥ (n : Int)) = true := decide_eq_true g2
          have H := Lib.hid (HBAD.out (by rw [HRB.out, decide_eq_false (show ¬ x < (n : Int) by omega), Bool.and_false]; rfl)); clear g1 g2; go_wp2; have HSB := Lib.hid (cl2 d0 k3); refine held2 d0 k3 (fun W0 HB0 => ?_); refine tk 0 rfl (by exact HSB.out _ HB0) ?_; (try simp only [Act.put, ptL]); refine tk 1 rfl (by exact HSB.out _ HB0) ?_; (try simp only [Act.put, ptL]); refine tk 2 rfl (by exact HSB.out _ HB0) ?_; (try simp only [Act.put, ptL]); refine tk 3 rfl (by exact HSB.out _ HB0) ?_; (try simp only [Act.put, ptL]); refine tk 4 rfl (by exact HSB.out _ HB0) ?_; (try simp only [Act.put, ptL]); refine tk 5 rfl (by exact HSB.out _ HB0) ?_; (try simp only [Act.put, ptL]); refine tk 6 rfl (by exact HSB.out _ HB0) ?_; (try simp only [Act.put, ptL]); refine tk 7 rfl (by exact HSB.out _ HB0) ?_; (try simp only [Act.put, ptL]); refine tk 8 rfl (by exact HSB.out _ HB0) ?_; (try simp only [Act.put, ptL]); refine tk 9 rfl (by exact HSB.out _ HB0) ?_; (try simp only [Act.put, ptL]); refine tk 10 rfl (by exact HSB.out _ HB0) ?_; (try simp only [Act.put, ptL]); refine tk 11 rfl (by exact HSB.out _ HB0) ?_; (try simp only [Act.put, ptL]); refine tk 12 rfl (by exact HSB.out _ HB0) ?_; (try simp only [Act.put, ptL]); refine tk 13 rfl (by exact HSB.out _ HB0) ?_; (try simp only [Act.put, ptL]); refine tk 14 rfl (by exact HSB.out _ HB0) ?_; (try simp only [Act.put, ptL]); refine tk 15 rfl (by exact HSB.out _ HB0) ?_; (try simp only [Act.put, ptL])
          refine tu 16 rfl (by exact HSB.out _ HB0) ?_; (try simp only [Act.put, ptL]); refine tu 17 rfl (by exact HSB.out _ HB0) ?_; (try simp only [Act.put, ptL]); refine tu 18 rfl (by exact HSB.out _ HB0) ?_; (try simp only [Act.put, ptL]); refine tu 19 rfl (by exact HSB.out _ HB0) ?_; (try simp only [Act.put, ptL]); refine tu 20 rfl (by exact HSB.out _ HB0) ?_; (try simp only [Act.put, ptL]); refine tu 21 rfl (by exact HSB.out _ HB0) ?_; (try simp only [Act.put, ptL]); refine tu 22 rfl (by exact HSB.out _ HB0) ?_; (try simp only [Act.put, ptL]); refine tu 23 rfl (by exact HSB.out _ HB0) ?_; (try simp only [Act.put, ptL]); refine tu 24 rfl (by exact HSB.out _ HB0) ?_; (try simp only [Act.put, ptL]); refine tu 25 rfl (by exact HSB.out _ HB0) ?_; (try simp only [Act.put, ptL]); refine tu 26 rfl (by exact HSB.out _ HB0) ?_; (try simp only [Act.put, ptL]); refine tu 27 rfl (by exact HSB.out _ HB0) ?_; (try simp only [Act.put, ptL]); refine tu 28 rfl (by exact HSB.out _ HB0) ?_; (try simp only [Act.put, ptL]); refine tu 29 rfl (by exact HSB.out _ HB0) ?_; (try simp only [Act.put, ptL])
          refine tk 30 rfl (by exact HSB.out _ HB0) ?_; (try simp only [Act.put, ptL]); refine wpAnyH_done (by kernel_rfl) ?_ _; have HZ0 := Lib.hid HB0; clear HSB HB0; go_wp2; go_ret; exact ⟨by rw [H.out]; rfl, HBW.out.trans (HZ0.out.mono HBW.out.size)⟩
        have g2' : decide (x ≥ (n : Int)) = false := decide_eq_false g2; have H := Lib.hid (HNX.out (by rw [HRB.out, decide_eq_true (show 0 ≤ x by omega), decide_eq_true (show x < (n : Int) by omega), decide_eq_true HK0.out]; rfl)); clear g1 g2; go_wp2; have HSB := Lib.hid (cl2 d0 k3); refine held2 d0 k3 (fun W0 HB0 => ?_); refine tk 0 rfl (by exact HSB.out _ HB0) ?_; (try simp only [Act.put, ptL]); refine tk 1 rfl (by exact HSB.out _ HB0) ?_; (try simp only [Act.put, ptL]); refine tk 2 rfl (by exact HSB.out _ HB0) ?_; (try simp only [Act.put, ptL]); refine tk 3 rfl (by exact HSB.out _ HB0) ?_; (try simp only [Act.put, ptL]); refine tk 4 rfl (by exact HSB.out _ HB0) ?_; (try simp only [Act.put, ptL]); refine tk 5 rfl (by exact HSB.out _ HB0) ?_; (try simp only [Act.put, ptL]); refine tk 6 rfl (by exact HSB.out _ HB0) ?_; (try simp only [Act.put, ptL]); refine tk 7 rfl (by exact HSB.out _ HB0) ?_; (try simp only [Act.put, ptL]); refine tk 8 rfl (by exact HSB.out _ HB0) ?_; (try simp only [Act.put, ptL]); refine tk 9 rfl (by exact HSB.out _ HB0) ?_; (try simp only [Act.put, ptL]); refine tk 10 rfl (by exact HSB.out _ HB0) ?_; (try simp only [Act.put, ptL]); refine tk 11 rfl (by exact HSB.out _ HB0) ?_; (try simp only [Act.put, ptL]); refine tk 12 rfl (by exact HSB.out _ HB0) ?_; (try simp only [Act.put, ptL]); refine tk 13 rfl (by exact HSB.out _ HB0) ?_; (try simp only [Act.put, ptL]); refine tk 14 rfl (by exact HSB.out _ HB0) ?_; (try simp only [Act.put, ptL]); refine tk 15 rfl (by exact HSB.out _ HB0) ?_; (try simp only [Act.put, ptL]); refine tk 16 rfl (by exact HSB.out _ HB0) ?_; (try simp only [Act.put, ptL]); refine tk 17 rfl (by exact HSB.out _ HB0) ?_; (try simp only [Act.put, ptL]); refine tk 18 rfl (by exact HSB.out _ HB0) ?_; (try simp only [Act.put, ptL])
        refine tu 19 rfl (by exact HSB.out _ HB0) ?_; (try simp only [Act.put, ptL]); refine tu 20 rfl (by exact HSB.out _ HB0) ?_; (try simp only [Act.put, ptL]); refine tu 21 rfl (by exact HSB.out _ HB0) ?_; (try simp only [Act.put, ptL]); refine tu 22 rfl (by exact HSB.out _ HB0) ?_; (try simp only [Act.put, ptL]); refine tu 23 rfl (by exact HSB.out _ HB0) ?_; (try simp only [Act.put, ptL]); refine tu 24 rfl (by exact HSB.out _ HB0) ?_; (try simp only [Act.put, ptL]); refine tu 25 rfl (by exact HSB.out _ HB0) ?_; (try simp only [Act.put, ptL]); refine tu 26 rfl (by exact HSB.out _ HB0) ?_; (try simp only [Act.put, ptL]); refine tu 27 rfl (by exact HSB.out _ HB0) ?_; (try simp only [Act.put, ptL]); refine tu 28 rfl (by exact HSB.out _ HB0) ?_; (try simp only [Act.put, ptL]); refine tk 29 rfl (by exact HSB.out _ HB0) ?_; (try simp only [Act.put, ptL]); refine tk 30 rfl (by exact HSB.out _ HB0) ?_; (try simp only [Act.put, ptL])
        refine wpAnyH_done (by kernel_rfl) ?_ _; have HN' := Lib.hid (HN.out.trans (HB0.mono HN.out.size)); clear HSB HB0; go_wp2; go_roundw
        case rel => exact ⟨k + 1, by omega, by go_num, H, HN'⟩
        case measure => simp [intOf]; omega
      · obtain ⟨j, hj⟩ : ∃ j, k = j + 1 := ⟨k - 1, by omega⟩
        have d1 := hc j (by omega); have d1 := (HN.out.cell (lt_of_cellq d1)).trans d1; have t0 : decide ((k : Int) > 0) = true := decide_eq_true (by omega); have t0b : decide (0 < k) = true := decide_eq_true (by omega); have t0c : (0 : Int) < (k : Int) := by omega
        have t0d : 0 < k := by omega
        have hwj : IntKind.i64.wrap ((k : Int) - 1) = (j : Int) := by rw [w64 _ (by omega) (by omega)]; omega
        have hji : (j : Int) < (l.length : Int) := by omega
        have hj0 : (0 : Int) ≤ (j : Int) := by omega
        have hkj : k - 1 = j := by omega
        rw [hkj] at HRB; have HK0 := Lib.hid hk0; obtain ⟨x, hx⟩ : ∃ x, gi l k = x := ⟨_, rfl⟩; obtain ⟨y, hy⟩ : ∃ y, gi l j = y := ⟨_, rfl⟩; rw [hx] at d0 HRB; rw [hy] at d1 HRB; clear hc hx hy hk0 hj hkj
        by_cases g1 : x < 0
        · have g1' : decide (x < 0) = true := decide_eq_true g1
          have H := Lib.hid (HBAD.out (by rw [HRB.out, decide_eq_false (show ¬ 0 ≤ x by omega)]; rfl)); clear g1; go_wp2; have HSB := Lib.hid (cl3 d0 k3 d1); refine held3 d0 k3 d1 (fun W0 HB0 => ?_); refine tk 0 rfl (by exact HSB.out _ HB0) ?_; (try simp only [Act.put, ptL]); refine tk 1 rfl (by exact HSB.out _ HB0) ?_; (try simp only [Act.put, ptL]); refine tk 2 rfl (by exact HSB.out _ HB0) ?_; (try simp only [Act.put, ptL]); refine tk 3 rfl (by exact HSB.out _ HB0) ?_; (try simp only [Act.put, ptL]); refine tk 4 rfl (by exact HSB.out _ HB0) ?_; (try simp only [Act.put, ptL]); refine tk 5 rfl (by exact HSB.out _ HB0) ?_; (try simp only [Act.put, ptL]); refine tu 6 rfl (by exact HSB.out _ HB0) ?_; (try simp only [Act.put, ptL]); refine tu 7 rfl (by exact HSB.out _ HB0) ?_; (try simp only [Act.put, ptL]); refine tu 8 rfl (by exact HSB.out _ HB0) ?_; (try simp only [Act.put, ptL]); refine tu 9 rfl (by exact HSB.out _ HB0) ?_; (try simp only [Act.put, ptL]); refine tu 10 rfl (by exact HSB.out _ HB0) ?_; (try simp only [Act.put, ptL]); refine tu 11 rfl (by exact HSB.out _ HB0) ?_; (try simp only [Act.put, ptL]); refine tu 12 rfl (by exact HSB.out _ HB0) ?_; (try simp only [Act.put, ptL]); refine tu 13 rfl (by exact HSB.out _ HB0) ?_; (try simp only [Act.put, ptL])
          refine tk 14 rfl (by exact HSB.out _ HB0) ?_; (try simp only [Act.put, ptL]); refine tk 15 rfl (by exact HSB.out _ HB0) ?_; (try simp only [Act.put, ptL]); refine tu 16 rfl (by exact HSB.out _ HB0) ?_; (try simp only [Act.put, ptL]); refine tu 17 rfl (by exact HSB.out _ HB0) ?_; (try simp only [Act.put, ptL]); refine tu 18 rfl (by exact HSB.out _ HB0) ?_; (try simp only [Act.put, ptL]); refine tu 19 rfl (by exact HSB.out _ HB0) ?_; (try simp only [Act.put, ptL]); refine tu 20 rfl (by exact HSB.out _ HB0) ?_; (try simp only [Act.put, ptL]); refine tu 21 rfl (by exact HSB.out _ HB0) ?_; (try simp only [Act.put, ptL]); refine tu 22 rfl (by exact HSB.out _ HB0) ?_; (try simp only [Act.put, ptL]); refine tu 23 rfl (by exact HSB.out _ HB0) ?_; (try simp only [Act.put, ptL]); refine tu 24 rfl (by exact HSB.out _ HB0) ?_; (try simp only [Act.put, ptL]); refine tu 25 rfl (by exact HSB.out _ HB0) ?_; (try simp only [Act.put, ptL]); refine tu 26 rfl (by exact HSB.out _ HB0) ?_; (try simp only [Act.put, ptL]); refine tu 27 rfl (by exact HSB.out _ HB0) ?_; (try simp only [Act.put, ptL]); refine tu 28 rfl (by exact HSB.out _ HB0) ?_; (try simp only [Act.put, ptL]); refine tu 29 rfl (by exact HSB.out _ HB0) ?_; (try simp only [Act.put, ptL])
          refine tk 30 rfl (by exact HSB.out _ HB0) ?_; (try simp only [Act.put, ptL]); refine wpAnyH_done (by kernel_rfl) ?_ _; have HZ0 := Lib.hid HB0; clear HSB HB0; go_wp2; go_ret; exact ⟨by rw [H.out]; rfl, HBW.out.trans (HZ0.out.mono HBW.out.size)⟩
        have g1' : decide (x < 0) = false := decide_eq_false g1
        by_cases g2 : x ≥ (n : Int)
        · have g2' : decide (x ≥ (n : Int)) = true := decide_eq_true g2
          have H := Lib.hid (HBAD.out (by rw [HRB.out, decide_eq_false (show ¬ x < (n : Int) by omega), Bool.and_false]; rfl)); clear g1 g2; go_wp2; have HSB := Lib.hid (cl3 d0 k3 d1); refine held3 d0 k3 d1 (fun W0 HB0 => ?_); refine tk 0 rfl (by exact HSB.out _ HB0) ?_; (try simp only [Act.put, ptL]); refine tk 1 rfl (by exact HSB.out _ HB0) ?_; (try simp only [Act.put, ptL]); refine tk 2 rfl (by exact HSB.out _ HB0) ?_; (try simp only [Act.put, ptL]); refine tk 3 rfl (by exact HSB.out _ HB0) ?_; (try simp only [Act.put, ptL]); refine tk 4 rfl (by exact HSB.out _ HB0) ?_; (try simp only [Act.put, ptL]); refine tk 5 rfl (by exact HSB.out _ HB0) ?_; (try simp only [Act.put, ptL]); refine tk 6 rfl (by exact HSB.out _ HB0) ?_; (try simp only [Act.put, ptL]); refine tk 7 rfl (by exact HSB.out _ HB0) ?_; (try simp only [Act.put, ptL]); refine tk 8 rfl (by exact HSB.out _ HB0) ?_; (try simp only [Act.put, ptL]); refine tk 9 rfl (by exact HSB.out _ HB0) ?_; (try simp only [Act.put, ptL]); refine tk 10 rfl (by exact HSB.out _ HB0) ?_; (try simp only [Act.put, ptL]); refine tk 11 rfl (by exact HSB.out _ HB0) ?_; (try simp only [Act.put, ptL]); refine tk 12 rfl (by exact HSB.out _ HB0) ?_; (try simp only [Act.put, ptL]); refine tk 13 rfl (by exact HSB.out _ HB0) ?_; (try simp only [Act.put, ptL]); refine tk 14 rfl (by exact HSB.out _ HB0) ?_; (try simp only [Act.put, ptL]); refine tk 15 rfl (by exact HSB.out _ HB0) ?_; (try simp only [Act.put, ptL])
          refine tu 16 rfl (by exact HSB.out _ HB0) ?_; (try simp only [Act.put, ptL]); refine tu 17 rfl (by exact HSB.out _ HB0) ?_; (try simp only [Act.put, ptL]); refine tu 18 rfl (by exact HSB.out _ HB0) ?_; (try simp only [Act.put, ptL]); refine tu 19 rfl (by exact HSB.out _ HB0) ?_; (try simp only [Act.put, ptL]); refine tu 20 rfl (by exact HSB.out _ HB0) ?_; (try simp only [Act.put, ptL]); refine tu 21 rfl (by exact HSB.out _ HB0) ?_; (try simp only [Act.put, ptL]); refine tu 22 rfl (by exact HSB.out _ HB0) ?_; (try simp only [Act.put, ptL]); refine tu 23 rfl (by exact HSB.out _ HB0) ?_; (try simp only [Act.put, ptL]); refine tu 24 rfl (by exact HSB.out _ HB0) ?_; (try simp only [Act.put, ptL]); refine tu 25 rfl (by exact HSB.out _ HB0) ?_; (try simp only [Act.put, ptL]); refine tu 26 rfl (by exact HSB.out _ HB0) ?_; (try simp only [Act.put, ptL]); refine tu 27 rfl (by exact HSB.out _ HB0) ?_; (try simp only [Act.put, ptL]); refine tu 28 rfl (by exact HSB.out _ HB0) ?_; (try simp only [Act.put, ptL]); refine tu 29 rfl (by exact HSB.out _ HB0) ?_; (try simp only [Act.put, ptL])
          refine tk 30 rfl (by exact HSB.out _ HB0) ?_; (try simp only [Act.put, ptL]); refine wpAnyH_done (by kernel_rfl) ?_ _; have HZ0 := Lib.hid HB0; clear HSB HB0; go_wp2; go_ret; exact ⟨by rw [H.out]; rfl, HBW.out.trans (HZ0.out.mono HBW.out.size)⟩
        have g2' : decide (x ≥ (n : Int)) = false := decide_eq_false g2
        by_cases g3 : x ≤ y
        · have g3' : decide (x ≤ y) = true := decide_eq_true g3
          have H := Lib.hid (HBAD.out (by rw [HRB.out, decide_eq_false HK0.out, decide_eq_false (show ¬ y < x by omega), Bool.or_false, Bool.and_false])); clear g1 g2 g3; go_wp2; have HSB := Lib.hid (cl3 d0 k3 d1); refine held3 d0 k3 d1 (fun W0 HB0 => ?_); refine tk 0 rfl (by exact HSB.out _ HB0) ?_; (try simp only [Act.put, ptL]); refine tk 1 rfl (by exact HSB.out _ HB0) ?_; (try simp only [Act.put, ptL]); refine tk 2 rfl (by exact HSB.out _ HB0) ?_; (try simp only [Act.put, ptL]); refine tk 3 rfl (by exact HSB.out _ HB0) ?_; (try simp only [Act.put, ptL]); refine tk 4 rfl (by exact HSB.out _ HB0) ?_; (try simp only [Act.put, ptL]); refine tk 5 rfl (by exact HSB.out _ HB0) ?_; (try simp only [Act.put, ptL]); refine tk 6 rfl (by exact HSB.out _ HB0) ?_; (try simp only [Act.put, ptL]); refine tk 7 rfl (by exact HSB.out _ HB0) ?_; (try simp only [Act.put, ptL]); refine tk 8 rfl (by exact HSB.out _ HB0) ?_; (try simp only [Act.put, ptL]); refine tk 9 rfl (by exact HSB.out _ HB0) ?_; (try simp only [Act.put, ptL]); refine tk 10 rfl (by exact HSB.out _ HB0) ?_; (try simp only [Act.put, ptL]); refine tk 11 rfl (by exact HSB.out _ HB0) ?_; (try simp only [Act.put, ptL]); refine tk 12 rfl (by exact HSB.out _ HB0) ?_; (try simp only [Act.put, ptL]); refine tk 13 rfl (by exact HSB.out _ HB0) ?_; (try simp only [Act.put, ptL]); refine tk 14 rfl (by exact HSB.out _ HB0) ?_; (try simp only [Act.put, ptL]); refine tk 15 rfl (by exact HSB.out _ HB0) ?_; (try simp only [Act.put, ptL]); refine tk 16 rfl (by exact HSB.out _ HB0) ?_; (try simp only [Act.put, ptL]); refine tk 17 rfl (by exact HSB.out _ HB0) ?_; (try simp only [Act.put, ptL]); refine tk 18 rfl (by exact HSB.out _ HB0) ?_; (try simp only [Act.put, ptL]); refine tk 19 rfl (by exact HSB.out _ HB0) ?_; (try simp only [Act.put, ptL]); refine tk 20 rfl (by exact HSB.out _ HB0) ?_; (try simp only [Act.put, ptL]); refine tk 21 rfl (by exact HSB.out _ HB0) ?_; (try simp only [Act.put, ptL]); refine tk 22 rfl (by exact HSB.out _ HB0) ?_; (try simp only [Act.put, ptL]); refine tk 23 rfl (by exact HSB.out _ HB0) ?_; (try simp only [Act.put, ptL]); refine tk 24 rfl (by exact HSB.out _ HB0) ?_; (try simp only [Act.put, ptL]); refine tk 25 rfl (by exact HSB.out _ HB0) ?_; (try simp only [Act.put, ptL]); refine tk 26 rfl (by exact HSB.out _ HB0) ?_; (try simp only [Act.put, ptL]); refine tk 27 rfl (by exact HSB.out _ HB0) ?_; (try simp only [Act.put, ptL]); refine tk 28 rfl (by exact HSB.out _ HB0) ?_; (try simp only [Act.put, ptL]); refine tk 29 rfl (by exact HSB.out _ HB0) ?_; (try simp only [Act.put, ptL]); refine tk 30 rfl (by exact HSB.out _ HB0) ?_; (try simp only [Act.put, ptL])
          refine wpAnyH_done (by kernel_rfl) ?_ _; have HZ0 := Lib.hid HB0; clear HSB HB0; go_wp2; go_ret; exact ⟨by rw [H.out]; rfl, HBW.out.trans (HZ0.out.mono HBW.out.size)⟩
        have g3' : decide (x ≤ y) = false := decide_eq_false g3; have H := Lib.hid (HNX.out (by rw [HRB.out, decide_eq_true (show 0 ≤ x by omega), decide_eq_true (show x < (n : Int) by omega), decide_eq_true (show y < x by omega), Bool.or_true]; rfl)); clear g1 g2 g3; go_wp2; have HSB := Lib.hid (cl3 d0 k3 d1); refine held3 d0 k3 d1 (fun W0 HB0 => ?_); refine tk 0 rfl (by exact HSB.out _ HB0) ?_; (try simp only [Act.put, ptL]); refine tk 1 rfl (by exact HSB.out _ HB0) ?_; (try simp only [Act.put, ptL]); refine tk 2 rfl (by exact HSB.out _ HB0) ?_; (try simp only [Act.put, ptL]); refine tk 3 rfl (by exact HSB.out _ HB0) ?_; (try simp only [Act.put, ptL]); refine tk 4 rfl (by exact HSB.out _ HB0) ?_; (try simp only [Act.put, ptL]); refine tk 5 rfl (by exact HSB.out _ HB0) ?_; (try simp only [Act.put, ptL]); refine tk 6 rfl (by exact HSB.out _ HB0) ?_; (try simp only [Act.put, ptL]); refine tk 7 rfl (by exact HSB.out _ HB0) ?_; (try simp only [Act.put, ptL]); refine tk 8 rfl (by exact HSB.out _ HB0) ?_; (try simp only [Act.put, ptL]); refine tk 9 rfl (by exact HSB.out _ HB0) ?_; (try simp only [Act.put, ptL]); refine tk 10 rfl (by exact HSB.out _ HB0) ?_; (try simp only [Act.put, ptL]); refine tk 11 rfl (by exact HSB.out _ HB0) ?_; (try simp only [Act.put, ptL]); refine tk 12 rfl (by exact HSB.out _ HB0) ?_; (try simp only [Act.put, ptL]); refine tk 13 rfl (by exact HSB.out _ HB0) ?_; (try simp only [Act.put, ptL]); refine tk 14 rfl (by exact HSB.out _ HB0) ?_; (try simp only [Act.put, ptL]); refine tk 15 rfl (by exact HSB.out _ HB0) ?_; (try simp only [Act.put, ptL]); refine tk 16 rfl (by exact HSB.out _ HB0) ?_; (try simp only [Act.put, ptL]); refine tk 17 rfl (by exact HSB.out _ HB0) ?_; (try simp only [Act.put, ptL]); refine tk 18 rfl (by exact HSB.out _ HB0) ?_; (try simp only [Act.put, ptL]); refine tk 19 rfl (by exact HSB.out _ HB0) ?_; (try simp only [Act.put, ptL]); refine tk 20 rfl (by exact HSB.out _ HB0) ?_; (try simp only [Act.put, ptL]); refine tk 21 rfl (by exact HSB.out _ HB0) ?_; (try simp only [Act.put, ptL]); refine tk 22 rfl (by exact HSB.out _ HB0) ?_; (try simp only [Act.put, ptL]); refine tk 23 rfl (by exact HSB.out _ HB0) ?_; (try simp only [Act.put, ptL]); refine tk 24 rfl (by exact HSB.out _ HB0) ?_; (try simp only [Act.put, ptL]); refine tk 25 rfl (by exact HSB.out _ HB0) ?_; (try simp only [Act.put, ptL]); refine tk 26 rfl (by exact HSB.out _ HB0) ?_; (try simp only [Act.put, ptL]); refine tk 27 rfl (by exact HSB.out _ HB0) ?_; (try simp only [Act.put, ptL]); refine tk 28 rfl (by exact HSB.out _ HB0) ?_; (try simp only [Act.put, ptL]); refine tk 29 rfl (by exact HSB.out _ HB0) ?_; (try simp only [Act.put, ptL]); refine tk 30 rfl (by exact HSB.out _ HB0) ?_; (try simp only [Act.put, ptL])
        refine wpAnyH_done (by kernel_rfl) ?_ _; have HN' := Lib.hid (HN.out.trans (HB0.mono HN.out.size)); clear HSB HB0; go_wp2; go_roundw
        case rel => exact ⟨k + 1, by omega, by go_num, H, HN'⟩
        case measure => simp [intOf]; omega
    · obtain rfl : k = l.length := by omega
      have hki : ¬ (l.length : Int) < (l.length : Int) := by omega
      have H := Lib.hid (rises_all HK.out); go_wp2; go_ret; exact ⟨by rw [H.out]; rfl, HBW.out⟩
def RenPost (ms : List (Int × Int)) (w : World) (e : Ending) (w' : World) : Prop := ∃ pm cm, e = .returned (.agg #[.slice pm ms.length cm, .slice none 0 0, .slice none 0 0]) ∧ RdS w' pm ms ∧ Below w.heap.size w w'
set_option maxHeartbeats 3200000 in
set_option maxRecDepth 100000 in
theorem l_renewed (v0 v1 v2 : Value) (q : Option Addr) (c : Nat) (sp : List (Int × Int)) (qg : Option Addr) (cg : Nat) (l : List Int) (w : World) (hs : RdS w q sp) (hg : RdI w qg l) (h1 : sp.length ≤ 1000) (h2 : l.length ≤ 1000) (hl : ∀ i, i < l.length → 0 ≤ gi l i ∧ gi l i < (sp.length : Int)) :
    Calls Tryz.prog 50 #[.agg #[v0, v1, v2], .slice q sp.length c, .slice qg l.length cg] w (RenPost (goneL sp l) w) := by
  obtain ⟨i0, hi0, hz0, hz1, hz2⟩ := info_parts infM; obtain ⟨w1, e1, HS1, k0, k1, k2, b1⟩ := box3 w v0 v1 v2 26; have kr := alloc_new w1 (.cells #[.slice none 0 0, .slice none 0 0, .slice none 0 0] 26); obtain ⟨w2, e2, HS2, _, _, _, b2⟩ := box3 w1 (.slice none 0 0) (.slice none 0 0) (.slice none 0 0) 26; rw [e2] at kr; have b12 := b1.trans (b2.mono b1.size); have HSP := Lib.hid (hs.below b12); have HGO := Lib.hid (hg.below b12); have HB12 := Lib.hid b12; have HKR2 := Lib.hid kr; have HLL := Lib.hid hl; have HS2' := Lib.hid HS2.out; have HW1 := Lib.hid (show w.heap.size ≤ w1.heap.size ∧ w1.heap.size < w2.heap.size from ⟨b1.size, by have := HS2.out; omega⟩); clear hs hg hl b1 b2 b12 kr k0 k1 k2
  go_enter Tryz.func50, Tryz.ntmps50
  go_upto_region 2 with (fail); have kx := alloc_new w2 (.cells #[.slice none 0 0, .slice none 0 0, .slice none 0 0] 26); obtain ⟨w3, e3, HS3, _, _, _, b3⟩ := box3 w2 (.slice none 0 0) (.slice none 0 0) (.slice none 0 0) 26; rw [e3] at kx; rw [e3]; have HKX := Lib.hid kx; have HB3 := Lib.hid b3; have HZ := Lib.hid (show w.heap.size ≤ w1.heap.size ∧ w1.heap.size < w2.heap.size ∧ w2.heap.size < w3.heap.size from ⟨HW1.out.1, HW1.out.2, by have := HS3.out; omega⟩); have hb23 : w2.heap.size < w3.heap.size := HZ.out.2.2; clear b3 kx e1 e2 e3; go_wp2
  go_loopw [8] (fun i wr => ∃ (k : Nat) (v : Value), k ≤ sp.length ∧ i = .int .i64 k ∧ Hid (wr.heap[w2.heap.size]? = some (.cells #[v, .slice none 0 0, .slice none 0 0] 26 (0, 0))) ∧ Hid (wr.ownsRow w3.heap.size 102 2 v k (spV (sp.take k))) ∧ Hid (Below w2.heap.size w2 wr) ∧ w3.heap.size ≤ wr.heap.size) (fun i _ => sp.length - (intOf i).toNat)
  case atStart => exact ⟨0, .slice none 0 0, Nat.zero_le _, rfl, HKX, Lib.hid (by rw [List.take_zero]; exact World.ownsRow_nil _ _ _ _), HB3, Nat.le_refl _⟩
  case round =>
    obtain ⟨k, v, hk, rfl, HX, HO, HN, hsz⟩ := hrel
    by_cases hlt : k < sp.length
    · have hki : (k : Int) < (sp.length : Int) := by omega
      have h0k : (0 : Int) ≤ (k : Int) := by omega
      obtain ⟨b, off, rfl, hc⟩ := HSP.out.at hlt; obtain ⟨d0, d1⟩ := hc k hlt; have HD := Lib.hid (cl2 d0 d1); have d0 := (HN.out.cell (lt_of_cellq d0)).trans d0; have d1 := (HN.out.cell (lt_of_cellq d1)).trans d1; have HTK := Lib.hid (show spV (sp.take (k + 1)) = spV (sp.take k) ++ [.int .i64 (gm sp k).1, .int .i64 (gm sp k).2] by rw [gm_take _ _ hlt, spV_append, spV_one]); obtain ⟨lo, hlo⟩ : ∃ x, (gm sp k).1 = x := ⟨_, rfl⟩; obtain ⟨hi, hhi⟩ : ∃ x, (gm sp k).2 = x := ⟨_, rfl⟩; rw [hlo] at d0 HTK HD; rw [hhi] at d1 HTK HD; have hwk : IntKind.i64.wrap ((k : Int) + 1) = (k : Int) + 1 := w64 _ (by omega) (by omega); obtain ⟨x0, _, _⟩ := cells3 HX.out; have HSZ := Lib.hid hsz; clear hc hlo hhi; go_wp2; have HSB := Lib.hid (cl2 d0 d1); refine held2 d0 d1 (fun W0 HB0 => ?_); have x0 := (HB0.cell (lt_of_cellq x0)).trans x0; refine tk 0 rfl (by exact HSB.out _ HB0) ?_; (try simp only [Act.put, ptL]); refine tk 2 rfl (by exact HSB.out _ HB0) ?_; (try simp only [Act.put, ptL]); refine tk 3 rfl (by exact HSB.out _ HB0) ?_; (try simp only [Act.put, ptL]); refine tk 4 rfl (by exact HSB.out _ HB0) ?_; (try simp only [Act.put, ptL]); refine tk 5 rfl (by exact HSB.out _ HB0) ?_; (try simp only [Act.put, ptL]); refine tk 6 rfl (by exact HSB.out _ HB0) ?_; (try simp only [Act.put, ptL])
      refine rz2 1 7 rfl rfl ?_ ?_
      focus
        intro K hK; go_simp; refine kz hK (by exact HSB.out _ HB0) ?_; clear hK K; (try simp only [Act.put, ptL]); refine rz1 7 rfl ?_; intro K hK; go_simp; refine kz hK (by exact HSB.out _ (HB0.alloc HB0.size _)) ?_; clear hK K; (try simp only [Act.put, ptL])
      rotate_left 1
      focus
        intro K hK; go_simp; refine kz hK (by exact HSB.out _ (HB0.alloc HB0.size _)) ?_; clear hK K; (try simp only [Act.put, ptL]); have x0 := ((below_alloc1 W0 (.cells #[.int .i64 lo, .int .i64 hi] 102)).cell (lt_of_cellq x0)).trans x0; refine rz1 1 rfl ?_; intro K hK; go_simp; refine kz hK (by exact HSB.out _ (HB0.alloc HB0.size _)) ?_; clear hK K; (try simp only [Act.put, ptL])
      all_goals
        have hO1 := (own_kept HO.out HB0).alloc (.cells #[.int .i64 lo, .int .i64 hi] 102); have hN1 := (HN.out.trans (HB0.mono HN.out.size)).alloc (Nat.le_trans HN.out.size HB0.size) (.cells #[.int .i64 lo, .int .i64 hi] 102); have hX1 := alloc_old W0 (.cells #[.int .i64 lo, .int .i64 hi] 102) ((HB0.block _ (block_lt HX.out)).trans HX.out); have hs1 : w3.heap.size ≤ (W0.alloc (.cells #[.int .i64 lo, .int .i64 hi] 102)).heap.size := by have := HB0.size; have := HSZ.out; simp; omega
        refine rz1 8 rfl ?_; intro K hK; refine step_append_src _ rfl _ _ 22 rfl w3.heap.size 102 i0 _ 2 16 Tryz.underlying22 hi0 hz0 hz1 hz2 rfl (by decide) _ _ _ rfl hO1 (some ⟨W0.heap.size, 0, none⟩) 1 1 [.int .i64 lo, .int .i64 hi] rfl rfl (.inr ⟨_, rfl, news_of W0 _ _⟩) (by intro u hu; simp at hu; rcases hu with rfl | rfl <;> rfl) (by unfold maxLen; omega) (by omega) hs1 ?_; intro v' w7 hown' hgrow _; obtain ⟨gv, cv7, rfl⟩ := own_form hown'; have hN7 := hN1.grown hgrow hN1.size (fun j hj => by have := (hO1.lt j hj).1; omega); have hs7 : w3.heap.size ≤ w7.heap.size := Nat.le_trans hs1 hgrow.size; refine kz hK (by exact HD.out _ hN7) ?_; clear hK K; (try simp only [Act.put, ptL]); have hX7 := (hgrow.block w2.heap.size (block_lt hX1) (fun hc => by have := (hO1.lt _ hc.symm).1; omega)).trans hX1; refine tk 9 rfl (by exact HD.out _ hN7) ?_; (try simp only [Act.put, ptL]); obtain ⟨wc, s1, c1, f1, hx1, hxk1, HZ1, hxb1⟩ := put3_0 w7 w2.heap.size 26 _ _ _ (.slice (some ⟨gv, 0, none⟩) (k + 1) cv7) hX7
        have hNC := hxb1 w2 w2.heap.size (Nat.le_refl _) hN7; have hoc := own_same hown' (w' := wc) (fun g' hg' => hxk1 g' (by have := (hown'.lt g' hg').1; omega)); refine rz1 10 rfl ?_; intro K hK; go_simp; refine kz hK (by exact HD.out _ hNC) ?_; clear hK K; (try simp only [Act.put, ptL]); refine wpAnyH_done (by kernel_rfl) ?_ _; have HX' := Lib.hid hx1; have HO' := Lib.hid (show wc.ownsRow w3.heap.size 102 2 (.slice (some ⟨gv, 0, none⟩) (k + 1) cv7) (k + 1) (spV (sp.take (k + 1))) by rw [HTK.out]; exact hoc); have HN' := Lib.hid hNC; have hsc : w3.heap.size ≤ wc.heap.size := by rw [HZ1.out]; exact hs7
        clear hown' hgrow hN7 hX7 hx1 hxk1 hxb1 hNC hoc hO1 hN1 hX1 hs1 hs7 HB0 HSB x0 d0 d1 s1 c1 f1; go_wp2; go_roundw
        case rel => exact ⟨k + 1, _, by omega, by go_num, HX', HO', HN', hsc⟩
        case measure => simp [intOf]; omega
    · obtain rfl : k = sp.length := by omega
      have hki : ¬ (sp.length : Int) < (sp.length : Int) := by omega
      rw [List.take_length] at HO; obtain ⟨qv, cv, rfl⟩ := own_any HO.out; have HGN := Lib.hid (goneL_nil sp); have HGS := Lib.hid (fun j (hj : j < l.length) => goneL_step (sp := sp) hj (HLL.out j hj)); have HGL := Lib.hid (gone_len sp); have HGA := Lib.hid (goneL_take sp l); obtain ⟨wn, rfl⟩ : ∃ wn : World, wn = wr := ⟨_, rfl⟩; go_wp2
      go_loopw [9] (fun i wr => ∃ j : Nat, j ≤ l.length ∧ i = .int .i64 j ∧ Hid (wr.heap[w2.heap.size]? = some (.cells #[.slice qv sp.length cv, .slice none 0 0, .slice none 0 0] 26 (0, 0))) ∧ Hid (wr.ownsRow w3.heap.size 102 2 (.slice qv sp.length cv) sp.length (spV (goneL sp (l.take j)))) ∧ Hid (Below w2.heap.size w2 wr)) (fun i _ => l.length - (intOf i).toNat)
      case atStart => exact ⟨0, Nat.zero_le _, rfl, HX, by rw [List.take_zero, HGN.out]; exact HO, HN⟩
      case round =>
        obtain ⟨j, hj, rfl, HX, HO, HN⟩ := hrel; obtain ⟨x0, x1, x2⟩ := cells3 HX.out
        by_cases hlt : j < l.length
        · have hji : (j : Int) < (l.length : Int) := by omega
          have h0j : (0 : Int) ≤ (j : Int) := by omega
          obtain ⟨bg, og, rfl, hcg⟩ := HGO.out.at hlt; have e0 := hcg j hlt; have HE0 := Lib.hid (cl1 e0); have e0 := (HN.out.cell (lt_of_cellq e0)).trans e0; have hlr := HLL.out j hlt; have HST := Lib.hid (HGS.out j hlt); obtain ⟨t, ht⟩ : ∃ t : Nat, gi l j = (t : Int) := ⟨(gi l j).toNat, by omega⟩; rw [ht] at e0 hlr HST HE0; have htt : ((t : Int)).toNat = t := rfl; rw [htt] at HST; have htl : t < sp.length := by omega
          have hti : (t : Int) < (sp.length : Int) := by omega
          have ht0 : (0 : Int) ≤ (t : Int) := by omega
          have HGM := Lib.hid (show (goneL sp (l.take j)).length = sp.length from HGL.out _); obtain ⟨G, hG⟩ : ∃ G, goneL sp (l.take j) = G := ⟨_, rfl⟩; rw [hG] at HO HST HGM; obtain ⟨g, cg', hqv, hg1, hg2⟩ := HO.out.form (by omega)
          cases hqv
          have hwj : IntKind.i64.wrap ((j : Int) + 1) = (j : Int) + 1 := w64 _ (by omega) (by omega); have HG1 := Lib.hid hg1; clear hcg ht htt hlr hG hg1 hg2; go_wp2; have HSB := Lib.hid (cl2 x0 e0); refine held2 x0 e0 (fun W0 HB0 => ?_); refine tk 0 rfl (by exact HSB.out _ HB0) ?_; (try simp only [Act.put, ptL]); refine tk 1 rfl (by exact HSB.out _ HB0) ?_; (try simp only [Act.put, ptL]); refine tk 2 rfl (by exact HSB.out _ HB0) ?_; (try simp only [Act.put, ptL]); refine tk 3 rfl (by exact HSB.out _ HB0) ?_; (try simp only [Act.put, ptL]); refine tk 4 rfl (by exact HSB.out _ HB0) ?_; (try simp only [Act.put, ptL]); refine tk 5 rfl (by exact HSB.out _ HB0) ?_; (try simp only [Act.put, ptL]); refine tk 6 rfl (by exact HSB.out _ HB0) ?_; (try simp only [Act.put, ptL]); refine tk 7 rfl (by exact HSB.out _ HB0) ?_; (try simp only [Act.put, ptL]); have ho1 := own_kept HO.out HB0
          have hc0 : W0.cell? ⟨g, t * 2, none⟩ = some (.int .i64 (gm G t).1) := by
            have h := ho1.cells (g := g) rfl _ _ (spV_get G t (by rw [HGM.out]; exact htl)).1
            rwa [add_new] at h
          have hf0 := own_frozen ho1 (t * 2); obtain ⟨wA, hwA⟩ : ∃ wA, W0.setCell ⟨g, t * 2, none⟩ (.int .i64 0) = wA := ⟨_, rfl⟩; have ho2 := own_putS (j := t * 2) ho1 (.int .i64 0); rw [hwA] at ho2
          have hc1 : wA.cell? ⟨g, t * 2 + 1, none⟩ = some (.int .i64 (gm G t).2) := by
            have h := ho2.cells (g := g) rfl (t * 2 + 1) (.int .i64 (gm G t).2) (by rw [List.getElem?_set_ne (by omega)]; exact (spV_get G t (by rw [HGM.out]; exact htl)).2)
            rwa [add_new] at h
          have hf1 := own_frozen ho2 (t * 2 + 1); obtain ⟨wB, hwB⟩ : ∃ wB, wA.setCell ⟨g, t * 2 + 1, none⟩ (.int .i64 0) = wB := ⟨_, rfl⟩; have ho3 := own_putS (j := t * 2 + 1) ho2 (.int .i64 0); rw [hwB, spV_set2] at ho3; have hkB : ∀ k, k ≠ g → wB.heap[k]? = W0.heap[k]? := fun k hk => by rw [← hwB, Below.heap_setCell _ _ _ k hk, ← hwA, Below.heap_setCell _ _ _ k hk]
          have hbB : Below w2.heap.size w2 wB := by
            have h0 := HN.out.trans (HB0.mono HN.out.size); have h1 := (h0.setCell (p := ⟨g, t * 2, none⟩) (by have := HG1.out; show w2.heap.size ≤ g; omega) (.int .i64 0)).setCell (p := ⟨g, t * 2 + 1, none⟩) (by have := HG1.out; show w2.heap.size ≤ g; omega) (.int .i64 0); rw [hwA, hwB] at h1; exact h1
          have hxB := (hkB w2.heap.size (by have := HG1.out; omega)).trans ((HB0.block _ (block_lt HX.out)).trans HX.out); have hSB : wB.cell? _ = _ ∧ wB.cell? _ = _ := ⟨(cells3 hxB).1, HE0.out _ hbB⟩; refine rz1 8 rfl ?_; intro K hK; go_simp; refine kz hK (by exact hSB) ?_; clear hK K; (try simp only [Act.put, ptL]); refine wpAnyH_done (by kernel_rfl) ?_ _; have HX' := Lib.hid hxB; have HN' := Lib.hid hbB; have HO' := Lib.hid (show wB.ownsRow w3.heap.size 102 2 (.slice (some ⟨g, 0, none⟩) sp.length cv) sp.length (spV (goneL sp (l.take (j + 1)))) by rw [HST.out]; exact ho3); clear HSB HB0 ho1 ho2 ho3 hc0 hf0 hc1 hf1 hwA hwB hkB hbB hxB hSB x0 x1 x2 e0; go_wp2; go_roundw
          case rel => exact ⟨j + 1, by omega, by go_num, HX', HO', HN'⟩
          case measure => simp [intOf]; omega
        · obtain rfl : j = l.length := by omega
          have hji : ¬ (l.length : Int) < (l.length : Int) := by omega
          rw [HGA.out] at HO; have hkr := (HN.out.block _ (block_lt HKR2.out)).trans HKR2.out; obtain ⟨wd, we, wf, t1, t2, t3, ⟨d0, q0⟩, ⟨d1, q1⟩, ⟨d2, q2⟩, hx4, hxk, HZ4, hxb⟩ := set3 wr w1.heap.size 26 _ _ _ (.slice qv sp.length cv) (.slice none 0 0) (.slice none 0 0) hkr; obtain ⟨r0, r1, r2⟩ := cells3 hx4; have hbf := hxb w w.heap.size HZ.out.1 (HB12.out.trans (HN.out.mono HB12.out.size)); have hof := own_same HO.out (w' := wf) (fun g' hg' => hxk g' (by have := (HO.out.lt g' hg').1; have := HZ.out; omega)); have HBF := Lib.hid hbf; have HRD := Lib.hid (show RdS wf qv (goneL sp l) from rdS_at hof (by rw [gone_len])); clear hx4 hxk hxb hbf hof hkr; go_wp2; refine bodyPost_ret (v := .agg #[.slice qv sp.length cv, .slice none 0 0, .slice none 0 0]) ?_ rfl ⟨qv, cv, by rw [gone_len], HRD.out, HBF.out⟩; simp [results, Tryz.results50, go_sem, r0, r1, r2]
end Go.Proofs.YtlednchfifphgabGreatDoor
end

section
namespace Go.Proofs.YtlednchfifphgabGreatDoor
open Go Go.RowKit Go.Proofs
theorem mrgH {G : Prop} (A : Prop) (k : A) (f : Hid A → G) : G := f (Lib.hid k)
theorem nrm {P : Program} {md : Region.Mode} {ops : Array Oper} {Q : Exit → Act → World → Prop} {S : World → Prop} {fuel : Nat} {l : Array Bool} {a : Act} {w : World} (L : List Bool) (h : wpAnyH P md ops Q S fuel L.toArray a w) (e : l = L.toArray := by kernel_rfl) : wpAnyH P md ops Q S fuel l a w := e ▸ h
def bts (n m : Nat) : List Bool := (List.range n).map fun i => m.testBit i
theorem gen1 {P : Program} {c : Code} {Q : Exit → Act → World → Prop} {T : List Value} {ds : _} {w : World} (i : Nat) (k : ∀ v, c.wp P Q ⟨(T.set i v).toArray, ds⟩ w) : c.wp P Q ⟨T.toArray, ds⟩ w := by
  by_cases hi : i < T.length
  · have h := k T[i]
    rw [List.set_getElem_self] at h; exact h
  · have h := k (.bool false)
    rw [List.set_eq_of_length_le (by omega)] at h; exact h
end Go.Proofs.YtlednchfifphgabGreatDoor
end

section
namespace Go.Proofs.YtlednchfifphgabGreatDoor
open Go Go.RowKit Go.Proofs
set_option linter.unusedVariables false
set_option linter.unusedSimpArgs false
attribute [local go_sem] imax2 imin2

theorem mostP_take (p : Pc) {k : Nat} (h : k < p.ms.length) : (mostP p).take (k + 1) = (mostP p).take k ++ [(gm (provedF p) k).2] := by
  have hk : k < (mostP p).length := by rw [mostP_len]; exact h
  rw [take_step _ _ hk, ← gi_get _ _ hk, mostP_at p k h]
theorem rows_one {l : List Int} (h1 : l.length ≤ 6) (h2 : ∀ j, j < l.length → 0 ≤ gi l j ∧ gi l j ≤ 100) : RowsOk [l] := fun i hi => by
  have hi' : i < 1 := hi; obtain rfl : i = 0 := by omega
  exact ⟨h1, h2⟩
theorem rdls_one {w : World} {b : Nat} {l : List Int} {q : Option Addr} {c : Nat} (h : w.cell? ⟨b, 0, none⟩ = some (.slice q l.length c)) (hr : RdI w q l) : RdLs w (some ⟨b, 0, none⟩) [l] := .inr ⟨b, 0, rfl, fun i hi => by
  have hi' : i < 1 := hi; obtain rfl : i = 0 := by omega
  exact ⟨q, c, h, hr⟩⟩
theorem cells1 {w : World} {B : Nat} {t : TypeId} {a : Value} (h : w.heap[B]? = some (.cells #[a] t)) : w.cell? ⟨B, 0, none⟩ = some a := by rw [cell_of_row _ _ _ _ _ _ h]; rfl
def RenPostN (n : Nat) (ms : List (Int × Int)) (w : World) (e : Ending) (w' : World) : Prop := ∃ pm cm, e = .returned (.agg #[.slice pm n cm, .slice none 0 0, .slice none 0 0]) ∧ RdS w' pm ms ∧ Below w.heap.size w w'
theorem ren_n {n : Nat} {ms : List (Int × Int)} {w w' : World} {e : Ending} (h : ms.length = n) (hr : RenPost ms w e w') : RenPostN n ms w e w' := by subst h; exact hr
def OnPostN (n : Nat) (pm : Option Addr) (cm : Nat) (q : Pc) (w : World) (e : Ending) (w' : World) : Prop := ∃ pv cv, e = .returned (.agg #[.slice pm n cm, .slice pv 1 cv, .slice none 0 0]) ∧ RdP w' pm pv none q ∧ Below w.heap.size w w'
theorem renewed_ms (p : Pc) (l : List Int) : (renewedF p l).ms.length = p.ms.length := by show (goneL (provedF p) l).length = _; rw [gone_len, provedF_len]
theorem renewed_on (p : Pc) (l : List Int) (pm : Option Addr) (cm b : Nat) (W : World) (hr : RdS W pm (goneL (provedF p) l)) (hc : W.cell? ⟨b, 0, none⟩ = some (.int .i64 300)) :
    Calls Tryz.prog 49 #[.agg #[.slice pm p.ms.length cm, .slice none 0 0, .slice none 0 0], .slice (some ⟨b, 0, none⟩) 1 1] W (OnPostN p.ms.length pm cm (onF (renewedF p l) [300]) W) := by
  have h := r_On pm none none cm 0 0 (renewedF p l) (some ⟨b, 0, none⟩) 1 [300] W ⟨hr, .inl rfl, .inl rfl⟩ (.inr ⟨b, 0, rfl, fun i hi => by
    have hi' : i < 1 := hi; obtain rfl : i = 0 := by omega
    exact hc⟩) (Nat.zero_le _) (by simp)
  unfold OnPost at h; rw [renewed_ms] at h; exact h
theorem renewed_lost {p : Pc} (hpo : PieceOk p) (ht : truthsF p ≠ []) (h0 : p.rs = []) {l : List Int} {lim : Int} (hl : ∀ pl ∈ truthsF p, restF pl l ≤ lim) (h1 : 1 ≤ p.ms.length) (pm pv : Option Addr) (cm cv : Nat) (W : World) (hr : RdP W pm pv none (onF (renewedF p l) [300])) :
    Calls Tryz.prog 48 #[.agg #[.slice pm p.ms.length cm, .slice pv 1 cv, .slice none 0 0], .int .i64 (p.ms.length : Int)] W fun e w' => e = .returned (.tuple #[.agg #[.int .i64 0, .int .i64 0], .agg #[.int .i64 (lostBack (onF (renewedF p l) [300]) p.ms.length).1, .int .i64 (lostBack (onF (renewedF p l) [300]) p.ms.length).2], .int .i64 0]) ∧ Below W.heap.size W w' := by
  obtain ⟨g1, g2, g3⟩ := renewed_law hpo ht h0 hl; have hok := renewed_piece hpo ht l; have hms : (onF (renewedF p l) [300]).ms.length = p.ms.length := renewed_ms p l
  have h := c_Lost pm pv none cm cv 0 (onF (renewedF p l) [300]) (p.ms.length : Int) W hr (by
    have h1 := hok.n4; have h2 := hok.m8; have h3 := hok.r6; exact ⟨by omega, by omega, by omega⟩)
  unfold LostPost at h; rw [hms] at h; have hin : inB (p.ms.length : Int) 1 p.ms.length = true := inB_iff.2 ⟨by omega, by omega⟩; have he : errF (onF (renewedF p l) [300]) (inB (p.ms.length : Int) 1 p.ms.length) = 0 := err_good (pieceB_iff.2 hok) hin g1; have htn : ((p.ms.length : Int)).toNat = p.ms.length := by simp
  unfold okI at h; rw [htn] at h; simp only [if_pos he, he, g2] at h; exact h
set_option maxHeartbeats 12800000 in
set_option maxRecDepth 100000 in
theorem law_Cheaper (pm pv pr : Option Addr) (cm cv cr : Nat) (p : Pc) (pq : Option Addr) (cq : Nat) (prices : List Int) (lim : Int) (q : Option Addr) (c : Nat) (pl : List Int) (qo : Option Addr) (co : Nat) (ot : List Int) (m : Int) (w : World) (hp : RdP w pm pv pr p) (hq : RdI w pq prices) (hg : RdI w q pl) (ho : RdI w qo ot) (hm : MaxL m w) (hi : ItoaG w) :
    Calls Tryz.prog 10 #[.agg #[.slice pm p.ms.length cm, .slice pv p.mv.length cv, .slice pr p.rs.length cr], .slice pq prices.length cq, .int .i64 lim, .slice q pl.length c, .slice qo ot.length co] w (LawPost w) := by
  obtain ⟨i0, hi0, hz0, hz1, hz2⟩ := info_parts infI; obtain ⟨w1, e1, HS1, k0, k1, k2, b1⟩ := box3 w (.slice pm p.ms.length cm) (.slice pv p.mv.length cv) (.slice pr p.rs.length cr) 26; have HP := Lib.hid (hp.below b1); have HQ := Lib.hid (hq.below b1); have HG := Lib.hid (hg.below b1); have HO := Lib.hid (ho.below b1); have HM := Lib.hid hm; have HI := Lib.hid hi; have HB := Lib.hid b1; clear hp hq hg ho hm hi b1
  go_enter Tryz.func10, Tryz.ntmps10
  (go_wp2_with fail); refine (c_short pm pv pr cm cv cr p _).mono ?_
  clear e1
  rcases hs : shortB p with _ | _
  · rintro e wn ⟨rfl, bq⟩; replace HB := Lib.hid (HB.out.trans (bq.mono HB.out.size)); clear bq
    (go_wp2_with fail); refine (c_known m _ (HM.out.below HB.out) (HI.out.below HB.out)).mono ?_; rintro e wn ⟨rfl, bq⟩; have HFK := Lib.hid (HB.out.trans (bq.mono HB.out.size)); clear bq; go_wp2; go_ret; exact ⟨rfl, HFK.out⟩
  rintro e wn ⟨rfl, bq⟩; replace HB := Lib.hid (HB.out.trans (bq.mono HB.out.size)); replace HP := Lib.hid (HP.out.below bq); replace HQ := Lib.hid (HQ.out.below bq); replace HG := Lib.hid (HG.out.below bq); replace HO := Lib.hid (HO.out.below bq); have k0 := (bq.cell (lt_of_cellq k0)).trans k0; have k1 := (bq.cell (lt_of_cellq k1)).trans k1; have k2 := (bq.cell (lt_of_cellq k2)).trans k2; clear bq; have HLN := Lib.hid (short_len hs); clear hs
  by_cases h6 : prices.length ≤ 6
  case neg =>
    have h6' : (prices.length : Int) > 6 := by omega
    (go_wp2_with fail); refine (c_known m _ (HM.out.below HB.out) (HI.out.below HB.out)).mono ?_; rintro e wn ⟨rfl, bq⟩; have HFK := Lib.hid (HB.out.trans (bq.mono HB.out.size)); clear bq; go_wp2; go_ret; exact ⟨rfl, HFK.out⟩
  have h6' : decide ((prices.length : Int) > 6) = false := decide_eq_false (by omega)
  by_cases h7 : pl.length ≤ 6
  case neg =>
    have h7' : (pl.length : Int) > 6 := by omega
    (go_wp2_with fail); refine (c_known m _ (HM.out.below HB.out) (HI.out.below HB.out)).mono ?_; rintro e wn ⟨rfl, bq⟩; have HFK := Lib.hid (HB.out.trans (bq.mono HB.out.size)); clear bq; go_wp2; go_ret; exact ⟨rfl, HFK.out⟩
  have h7' : decide ((pl.length : Int) > 6) = false := decide_eq_false (by omega)
  by_cases h8 : ot.length ≤ 6
  case neg =>
    have h8' : (ot.length : Int) > 6 := by omega
    (go_wp2_with fail); refine (c_known m _ (HM.out.below HB.out) (HI.out.below HB.out)).mono ?_; rintro e wn ⟨rfl, bq⟩; have HFK := Lib.hid (HB.out.trans (bq.mono HB.out.size)); clear bq; go_wp2; go_ret; exact ⟨rfl, HFK.out⟩
  have h8' : decide ((ot.length : Int) > 6) = false := decide_eq_false (by omega)
  (go_wp2_with fail); refine (r_Piece pm pv pr cm cv cr p _ HP.out HLN.out).mono ?_
  rcases h1 : pieceB p with _ | _
  · rintro e wn ⟨rfl, bq⟩; replace HB := Lib.hid (HB.out.trans (bq.mono HB.out.size)); clear bq
    (go_wp2_with fail); refine (c_known m _ (HM.out.below HB.out) (HI.out.below HB.out)).mono ?_; rintro e wn ⟨rfl, bq⟩; have HFK := Lib.hid (HB.out.trans (bq.mono HB.out.size)); clear bq; go_wp2; go_ret; exact ⟨rfl, HFK.out⟩
  rintro e wn ⟨rfl, bq⟩; replace HB := Lib.hid (HB.out.trans (bq.mono HB.out.size)); replace HP := Lib.hid (HP.out.below bq); replace HQ := Lib.hid (HQ.out.below bq); replace HG := Lib.hid (HG.out.below bq); replace HO := Lib.hid (HO.out.below bq); have k0 := (bq.cell (lt_of_cellq k0)).trans k0; have k1 := (bq.cell (lt_of_cellq k1)).trans k1; have k2 := (bq.cell (lt_of_cellq k2)).trans k2; clear bq
  (go_wp2_with fail); refine (r_Prices pm pv pr cm cv cr p pq cq prices _ HQ.out (by omega)).mono ?_
  rcases h2 : pricesB p prices with _ | _
  · rintro e wn ⟨rfl, bq⟩; replace HB := Lib.hid (HB.out.trans (bq.mono HB.out.size)); clear bq
    (go_wp2_with fail); refine (c_known m _ (HM.out.below HB.out) (HI.out.below HB.out)).mono ?_; rintro e wn ⟨rfl, bq⟩; have HFK := Lib.hid (HB.out.trans (bq.mono HB.out.size)); clear bq; go_wp2; go_ret; exact ⟨rfl, HFK.out⟩
  rintro e wn ⟨rfl, bq⟩; replace HB := Lib.hid (HB.out.trans (bq.mono HB.out.size)); replace HP := Lib.hid (HP.out.below bq); replace HQ := Lib.hid (HQ.out.below bq); replace HG := Lib.hid (HG.out.below bq); replace HO := Lib.hid (HO.out.below bq); have k0 := (bq.cell (lt_of_cellq k0)).trans k0; have k1 := (bq.cell (lt_of_cellq k1)).trans k1; have k2 := (bq.cell (lt_of_cellq k2)).trans k2; clear bq
  (go_wp2_with fail); refine (r_Limit lim _).mono ?_
  rcases h3 : inB lim 0 5000 with _ | _
  · rintro e wn ⟨rfl, bq⟩; replace HB := Lib.hid (HB.out.trans (bq.mono HB.out.size)); clear bq
    (go_wp2_with fail); refine (c_known m _ (HM.out.below HB.out) (HI.out.below HB.out)).mono ?_; rintro e wn ⟨rfl, bq⟩; have HFK := Lib.hid (HB.out.trans (bq.mono HB.out.size)); clear bq; go_wp2; go_ret; exact ⟨rfl, HFK.out⟩
  rintro e wn ⟨rfl, bq⟩; replace HB := Lib.hid (HB.out.trans (bq.mono HB.out.size)); replace HP := Lib.hid (HP.out.below bq); replace HQ := Lib.hid (HQ.out.below bq); replace HG := Lib.hid (HG.out.below bq); replace HO := Lib.hid (HO.out.below bq); have k0 := (bq.cell (lt_of_cellq k0)).trans k0; have k1 := (bq.cell (lt_of_cellq k1)).trans k1; have k2 := (bq.cell (lt_of_cellq k2)).trans k2; clear bq
  (go_wp2_with fail); refine (r_Plays pm pv pr cm cv cr p q c pl _ HG.out (by omega)).mono ?_
  rcases h4 : playsB p pl with _ | _
  · rintro e wn ⟨rfl, bq⟩; replace HB := Lib.hid (HB.out.trans (bq.mono HB.out.size)); clear bq
    (go_wp2_with fail); refine (c_known m _ (HM.out.below HB.out) (HI.out.below HB.out)).mono ?_; rintro e wn ⟨rfl, bq⟩; have HFK := Lib.hid (HB.out.trans (bq.mono HB.out.size)); clear bq; go_wp2; go_ret; exact ⟨rfl, HFK.out⟩
  rintro e wn ⟨rfl, bq⟩; replace HB := Lib.hid (HB.out.trans (bq.mono HB.out.size)); replace HP := Lib.hid (HP.out.below bq); replace HQ := Lib.hid (HQ.out.below bq); replace HG := Lib.hid (HG.out.below bq); replace HO := Lib.hid (HO.out.below bq); have k0 := (bq.cell (lt_of_cellq k0)).trans k0; have k1 := (bq.cell (lt_of_cellq k1)).trans k1; have k2 := (bq.cell (lt_of_cellq k2)).trans k2; clear bq; have HPO := Lib.hid (pieceB_iff.1 h1); have HPL := Lib.hid (playsB_iff.1 h4)
  (go_wp2_with fail); refine (r_Fits pm pv pr cm cv cr p q c pl _ HP.out HG.out HPO.out HPL.out).mono ?_
  rcases h5 : fitsB p pl with _ | _
  · rintro e wn ⟨rfl, bq⟩; replace HB := Lib.hid (HB.out.trans (bq.mono HB.out.size)); clear bq
    (go_wp2_with fail); refine (c_known m _ (HM.out.below HB.out) (HI.out.below HB.out)).mono ?_; rintro e wn ⟨rfl, bq⟩; have HFK := Lib.hid (HB.out.trans (bq.mono HB.out.size)); clear bq; go_wp2; go_ret; exact ⟨rfl, HFK.out⟩
  rintro e wn ⟨rfl, bq⟩; replace HB := Lib.hid (HB.out.trans (bq.mono HB.out.size)); replace HP := Lib.hid (HP.out.below bq); replace HQ := Lib.hid (HQ.out.below bq); replace HG := Lib.hid (HG.out.below bq); replace HO := Lib.hid (HO.out.below bq); have k0 := (bq.cell (lt_of_cellq k0)).trans k0; have k1 := (bq.cell (lt_of_cellq k1)).trans k1; have k2 := (bq.cell (lt_of_cellq k2)).trans k2; clear bq; have hn4 := HPO.out.n4
  (go_wp2_with fail); refine (l_rising pm p.ms.length cm _ _ qo co ot _ HO.out (by omega) (by omega)).mono ?_
  rcases hr : risesB ot p.ms.length with _ | _
  · rintro e wn ⟨rfl, bq⟩; replace HB := Lib.hid (HB.out.trans (bq.mono HB.out.size)); clear bq
    (go_wp2_with fail); refine (c_known m _ (HM.out.below HB.out) (HI.out.below HB.out)).mono ?_; rintro e wn ⟨rfl, bq⟩; have HFK := Lib.hid (HB.out.trans (bq.mono HB.out.size)); clear bq; go_wp2; go_ret; exact ⟨rfl, HFK.out⟩
  rintro e wn ⟨rfl, bq⟩; replace HB := Lib.hid (HB.out.trans (bq.mono HB.out.size)); replace HP := Lib.hid (HP.out.below bq); replace HQ := Lib.hid (HQ.out.below bq); replace HG := Lib.hid (HG.out.below bq); replace HO := Lib.hid (HO.out.below bq); have k0 := (bq.cell (lt_of_cellq k0)).trans k0; have k1 := (bq.cell (lt_of_cellq k1)).trans k1; have k2 := (bq.cell (lt_of_cellq k2)).trans k2; clear bq; have HMT := Lib.hid (show pl ∈ truthsF p from mem_truthsF.2 ⟨HPL.out.len, h5⟩); have HT := Lib.hid (ne_of_mem HMT.out); have HPB := Lib.hid (pricesB_iff.1 h2); have HFN := Lib.hid (show (pricesB p prices && inB lim 0 5000) = true by rw [h2, h3]; rfl); have HLM := Lib.hid (show 0 ≤ lim from (inB_iff.1 h3).1); have HRO := Lib.hid (risesB_iff.1 hr); have HP1 := Lib.hid h1; clear h1 h2 h3 h4 h5 hr
  have HK1 := Lib.hid (fun W (h : RdP W pm pv pr p) (hq : RdI W pq prices) => show Calls Tryz.prog 38 #[.agg #[.slice pm p.ms.length cm, .slice pv p.mv.length cv, .slice pr p.rs.length cr], .slice pq prices.length cq, .int .i64 lim] W (RenOk p prices lim W) from
    (c_Renew pm pv pr cm cv cr p pq cq prices lim W h HLN.out hq (by omega)).mono fun e w' g => renew_yes (by rw [HFN.out]; exact err_good HP1.out rfl HT.out) g)
  have HK2 := Lib.hid (fun W (h : RdP W pm pv pr p) => show Calls Tryz.prog 44 #[.agg #[.slice pm p.ms.length cm, .slice pv p.mv.length cv, .slice pr p.rs.length cr]] W (SpOk (provedF p) W) from
    (c_Plays pm pv pr cm cv cr p W h HLN.out).mono fun e w' g => spans_ok HP1.out HT.out g)
  obtain ⟨hc1, hc2, hc3⟩ := cheaper_law HPO.out (prices := prices) HLM.out; have hpn := HPB.out.1; have hLl := rises_len hc1; have HRL := Lib.hid hc1
  have HEN := Lib.hid (fun b W (h : RdLs W (some ⟨b, 0, none⟩) [pl]) ql cl (hl : RdI W ql (renewF p prices lim)) => show Calls Tryz.prog 46 #[.slice (some ⟨b, 0, none⟩) 1 1, .slice ql (renewF p prices lim).length cl, .int .i64 lim] W fun e w' => e = .returned (.bool true) ∧ Below W.heap.size W w' by
    have hh := r_Enough (some ⟨b, 0, none⟩) 1 [pl] ql cl (renewF p prices lim) lim W h hl (rows_one h7 HPL.out.in') (by simp) (by omega)
    have e : enoughL [pl] lim (renewF p prices lim) = true := by
      unfold enoughL; simp only [List.all_cons, List.all_nil, Bool.and_true, decide_eq_true_eq]; exact hc2 pl HMT.out
    rw [e] at hh; exact hh)
  have HEM := Lib.hid (fun b W (h : RdLs W (some ⟨b, 0, none⟩) [mostP p]) (hl : RdI W qo ot) => show Calls Tryz.prog 46 #[.slice (some ⟨b, 0, none⟩) 1 1, .slice qo ot.length co, .int .i64 lim] W fun e w' => e = .returned (.bool (enoughL [mostP p] lim ot)) ∧ Below W.heap.size W w' from
    r_Enough (some ⟨b, 0, none⟩) 1 [mostP p] qo co ot lim W h hl (rows_one (by rw [mostP_len]; omega) (fun j hj => by
      rw [mostP_len] at hj; rw [mostP_at p j hj]; have := proved_plain HPO.out HT.out j hj; omega)) (by simp) (by omega))
  have HNO := Lib.hid (show enoughL [mostP p] lim ot = true → keyB prices ot (renewF p prices lim) = false from fun h => hc3 ot HRO.out ⟨mostP p, mostP_len p, fun x hx i hi => by
    rw [mostP_at p i hi]; exact (proved_true hx i hi).2, by
    unfold enoughL at h; simp only [List.all_cons, List.all_nil, Bool.and_true, decide_eq_true_eq] at h; exact h⟩)
  have HRS := Lib.hid (fun ql cl W (hl : RdI W ql (renewF p prices lim)) => show Calls Tryz.prog 43 #[.agg #[.slice pm p.ms.length cm, .slice pv p.mv.length cv, .slice pr p.rs.length cr], .slice ql (renewF p prices lim).length cl] W fun e w' => e = .returned (.bool true) ∧ Below W.heap.size W w' by
    have hh := l_rising pm p.ms.length cm (.slice pv p.mv.length cv) (.slice pr p.rs.length cr) ql cl (renewF p prices lim) W hl (by omega) (by omega); rw [risesB_iff.2 HRL.out] at hh; exact hh)
  have HPC := Lib.hid (fun ql cl W (hq : RdI W pq prices) (hl : RdI W ql (renewF p prices lim)) => r_Price pq cq prices ql cl (renewF p prices lim) W hq hl (by omega) HPB.out.2 (fun i hi => by
    have := (HRL.out i hi).1; omega))
  have HCH := Lib.hid (fun ql cl W (hq : RdI W pq prices) (ho : RdI W qo ot) (hl : RdI W ql (renewF p prices lim)) => r_Cheaper pq cq prices qo co ot ql cl (renewF p prices lim) W hq ho hl (by omega) (by omega) HPB.out.2 (fun i hi => by
    have := (HRO.out i hi).1; omega) (fun i hi => by
    have := (HRL.out i hi).1; omega))
  have HRN := Lib.hid (fun qs cs ql cl W (hs : RdS W qs (provedF p)) (hl : RdI W ql (renewF p prices lim)) => show Calls Tryz.prog 50 #[.agg #[.slice pm p.ms.length cm, .slice pv p.mv.length cv, .slice pr p.rs.length cr], .slice qs p.ms.length cs, .slice ql (renewF p prices lim).length cl] W (RenPostN p.ms.length (goneL (provedF p) (renewF p prices lim)) W) by
    have hh := l_renewed (.slice pm p.ms.length cm) (.slice pv p.mv.length cv) (.slice pr p.rs.length cr) qs cs (provedF p) ql cl (renewF p prices lim) W hs hl (by rw [provedF_len]; omega) (by omega) (fun i hi => by
      rw [provedF_len]; exact (HRL.out i hi).1)
    rw [provedF_len] at hh; exact hh.mono fun e w' g => ren_n (by rw [gone_len, provedF_len]) g)
  have HON := Lib.hid (fun pm2 cm2 b W h1 h2 => renewed_on p (renewF p prices lim) pm2 cm2 b W h1 h2); have HLT := Lib.hid (fun h0 pm2 pv2 cm2 cv2 W h => renewed_lost HPO.out HT.out h0 hc2 HPO.out.n1 pm2 pv2 cm2 cv2 W h); have HLB := Lib.hid (fun h0 => (renewed_law HPO.out HT.out h0 hc2).2.2)
  have HPP := Lib.hid (show ∀ i, i < (provedF p).length → -5000 ≤ (gm (provedF p) i).1 ∧ (gm (provedF p) i).1 ≤ (gm (provedF p) i).2 ∧ (gm (provedF p) i).2 ≤ 5000 from fun i hi => by
    rw [provedF_len] at hi; have := proved_plain HPO.out HT.out i hi; omega)
  unfold OnPostN at HON; unfold RenPostN at HRN; clear hc1 hc2 hc3; obtain ⟨L, hL⟩ : ∃ L, renewF p prices lim = L := ⟨_, rfl⟩; have hgt : decide ((L.length : Int) > (p.ms.length : Int)) = false := decide_eq_false (by rw [← hL]; omega); have hgtb : decide ((p.ms.length : Int) < (L.length : Int)) = false := decide_eq_false (by rw [← hL]; omega); have hgn : L.length ≤ p.ms.length := by rw [← hL]; exact hLl
  have hgm : decide (p.ms.length < L.length) = false := decide_eq_false (by omega); unfold RenOk at HK1; rw [hL] at HK1 HEN HNO HRS HPC HCH HRN HON HLT HLB; obtain ⟨PR, hPR⟩ : ∃ x, priceF prices L = x := ⟨_, rfl⟩; rw [hPR] at HK1 HPC; have t3 : (PR != PR) = false := by simp
  clear hPR hL hLl hpn HRL HRO
  (go_wp2_with fail); refine (HK1.out _ HP.out HQ.out).mono ?_
  rintro e wn ⟨ql, cl, rfl, hl, bq⟩; have HL := Lib.hid hl; clear hl
  skip; replace HB := Lib.hid (HB.out.trans (bq.mono HB.out.size)); replace HP := Lib.hid (HP.out.below bq); replace HQ := Lib.hid (HQ.out.below bq); replace HG := Lib.hid (HG.out.below bq); replace HO := Lib.hid (HO.out.below bq); have k0 := (bq.cell (lt_of_cellq k0)).trans k0; have k1 := (bq.cell (lt_of_cellq k1)).trans k1; have k2 := (bq.cell (lt_of_cellq k2)).trans k2; clear bq
  (go_wp2_with fail); refine (HK2.out _ HP.out).mono ?_
  rintro e wn ⟨qs, cs, rfl, hl, bq⟩; have HS := Lib.hid hl; rw [provedF_len]; clear hl
  skip; replace HB := Lib.hid (HB.out.trans (bq.mono HB.out.size)); replace HP := Lib.hid (HP.out.below bq); replace HQ := Lib.hid (HQ.out.below bq); replace HG := Lib.hid (HG.out.below bq); replace HO := Lib.hid (HO.out.below bq); replace HL := Lib.hid (HL.out.below bq); have k0 := (bq.cell (lt_of_cellq k0)).trans k0; have k1 := (bq.cell (lt_of_cellq k1)).trans k1; have k2 := (bq.cell (lt_of_cellq k2)).trans k2; clear bq
  (go_wp2_with fail); refine (HRS.out _ _ _ HL.out).mono ?_
  rintro e wn ⟨rfl, bq⟩; replace HB := Lib.hid (HB.out.trans (bq.mono HB.out.size)); replace HP := Lib.hid (HP.out.below bq); replace HQ := Lib.hid (HQ.out.below bq); replace HG := Lib.hid (HG.out.below bq); replace HO := Lib.hid (HO.out.below bq); replace HL := Lib.hid (HL.out.below bq); replace HS := Lib.hid (HS.out.below bq); have k0 := (bq.cell (lt_of_cellq k0)).trans k0; have k1 := (bq.cell (lt_of_cellq k1)).trans k1; have k2 := (bq.cell (lt_of_cellq k2)).trans k2; clear bq
  (go_wp2_with fail); refine (l_plain qs cs (provedF p) _ p.ms.length _ (provedF_len p) (by omega) HS.out HPP.out rfl).mono ?_
  rintro e wn ⟨rfl, bq⟩; replace HB := Lib.hid (HB.out.trans (bq.mono HB.out.size)); replace HP := Lib.hid (HP.out.below bq); replace HQ := Lib.hid (HQ.out.below bq); replace HG := Lib.hid (HG.out.below bq); replace HO := Lib.hid (HO.out.below bq); replace HL := Lib.hid (HL.out.below bq); replace HS := Lib.hid (HS.out.below bq); have k0 := (bq.cell (lt_of_cellq k0)).trans k0; have k1 := (bq.cell (lt_of_cellq k1)).trans k1; have k2 := (bq.cell (lt_of_cellq k2)).trans k2; clear bq
  (go_wp2_with fail); refine (HPC.out _ _ _ HQ.out HL.out).mono ?_
  rintro e wn ⟨rfl, bq⟩; replace HB := Lib.hid (HB.out.trans (bq.mono HB.out.size)); replace HP := Lib.hid (HP.out.below bq); replace HQ := Lib.hid (HQ.out.below bq); replace HG := Lib.hid (HG.out.below bq); replace HO := Lib.hid (HO.out.below bq); replace HL := Lib.hid (HL.out.below bq); replace HS := Lib.hid (HS.out.below bq); have k0 := (bq.cell (lt_of_cellq k0)).trans k0; have k1 := (bq.cell (lt_of_cellq k1)).trans k1; have k2 := (bq.cell (lt_of_cellq k2)).trans k2; clear bq; obtain ⟨wx, ex, HSx, s0, _, bq⟩ := box1 wn (.slice q pl.length c) 23; have HEN' := Lib.hid (HEN.out wn.heap.size wx (rdls_one s0 (HG.out.below bq)) ql cl (HL.out.below bq))
  skip; replace HB := Lib.hid (HB.out.trans (bq.mono HB.out.size)); replace HP := Lib.hid (HP.out.below bq); replace HQ := Lib.hid (HQ.out.below bq); replace HG := Lib.hid (HG.out.below bq); replace HO := Lib.hid (HO.out.below bq); replace HL := Lib.hid (HL.out.below bq); replace HS := Lib.hid (HS.out.below bq); have k0 := (bq.cell (lt_of_cellq k0)).trans k0; have k1 := (bq.cell (lt_of_cellq k1)).trans k1; have k2 := (bq.cell (lt_of_cellq k2)).trans k2; clear bq
  (go_wp2_with fail); refine HEN'.out.mono ?_
  clear ex s0 HEN'; rintro e wn ⟨rfl, bq⟩; replace HB := Lib.hid (HB.out.trans (bq.mono HB.out.size)); replace HP := Lib.hid (HP.out.below bq); replace HQ := Lib.hid (HQ.out.below bq); replace HG := Lib.hid (HG.out.below bq); replace HO := Lib.hid (HO.out.below bq); replace HL := Lib.hid (HL.out.below bq); replace HS := Lib.hid (HS.out.below bq); have k0 := (bq.cell (lt_of_cellq k0)).trans k0; have k1 := (bq.cell (lt_of_cellq k1)).trans k1; have k2 := (bq.cell (lt_of_cellq k2)).trans k2; clear bq; go_wp2
  go_loopw [16, 17] (fun v i wr => ∃ k : Nat, k ≤ p.ms.length ∧ i = .int .i64 k ∧ Hid (wr.ownsRow wn.heap.size 3 1 v k (inV ((mostP p).take k))) ∧ Hid (Below wn.heap.size wn wr)) (fun _ i _ => p.ms.length - (intOf i).toNat)
  case atStart => exact ⟨0, Nat.zero_le _, rfl, Lib.hid (World.ownsRow_nil _ _ _ _), Lib.hid (Below.refl _ _)⟩
  case round =>
    obtain ⟨k, hk, rfl, HV, HN⟩ := hrel
    by_cases hlt : k < p.ms.length
    · have hki : (k : Int) < (p.ms.length : Int) := by omega
      have h0k : (0 : Int) ≤ (k : Int) := by omega
      obtain ⟨b, off, rfl, hc⟩ := HS.out.at (i := k) (by rw [provedF_len]; exact hlt); obtain ⟨d0, d1⟩ := hc k (by rw [provedF_len]; exact hlt); have d1 := (HN.out.cell (lt_of_cellq d1)).trans d1; have HTK := Lib.hid (mostP_take p hlt); obtain ⟨x, hx⟩ : ∃ x, (gm (provedF p) k).2 = x := ⟨_, rfl⟩; rw [hx] at d1 HTK; have hwk : IntKind.i64.wrap ((k : Int) + 1) = (k : Int) + 1 := w64 _ (by omega) (by omega); clear hc d0 hx; go_wp2_with (at_builtin; refine wpList_append_own _ rfl _ _ 23 rfl wn.heap.size 3 i0 _ 1 8 Tryz.underlying23 hi0 hz0 hz1 hz2 rfl (by decide) _ _ _ rfl (HV.out.alloc _) ⟨wr.heap.size, 0, none⟩ 1 1 [.int .i64 x] rfl rfl (news_of _ _ _) ?_ ?_ ?_ ?_ ?_)
      · intro u hu; simp at hu; subst hu; rfl
      · unfold maxLen; omega
      · omega
      · have := HN.out.size; simp; omega
      intro v' wa hown hgrow _; have HV' := Lib.hid (show wa.ownsRow wn.heap.size 3 1 v' (k + 1) (inV ((mostP p).take (k + 1))) by rw [HTK.out, inV_append]; exact hown); have HN' := Lib.hid ((HN.out.alloc HN.out.size _).grown hgrow (by have := HN.out.size; simp; omega) (fun j hj => (HV.out.lt j hj).1)); clear hown hgrow; go_wp2; go_roundw
      case rel => exact ⟨k + 1, by omega, by go_num, HV', HN'⟩
      case measure => simp [intOf]; omega
    · obtain rfl : k = p.ms.length := by omega
      have hki : ¬ ((p.ms.length : Nat) : Int) < (p.ms.length : Int) := by omega
      have hv := HV.out; rw [show (mostP p).take p.ms.length = mostP p by rw [← mostP_len p, List.take_length]] at hv; obtain ⟨qm, cm', hvv, hmr⟩ := rd_of_own (xs := mostP p) (by rw [mostP_len]; exact hv); rw [mostP_len] at hvv; subst hvv; have HMR := Lib.hid hmr; clear hv hmr hlt HV; have bq := HN.out
      skip; replace HB := Lib.hid (HB.out.trans (bq.mono HB.out.size)); replace HP := Lib.hid (HP.out.below bq); replace HQ := Lib.hid (HQ.out.below bq); replace HG := Lib.hid (HG.out.below bq); replace HO := Lib.hid (HO.out.below bq); replace HL := Lib.hid (HL.out.below bq); replace HS := Lib.hid (HS.out.below bq); have k0 := (bq.cell (lt_of_cellq k0)).trans k0; have k1 := (bq.cell (lt_of_cellq k1)).trans k1; have k2 := (bq.cell (lt_of_cellq k2)).trans k2; clear bq
      clear HN; obtain ⟨wx, ex, HSx, s0, _, bq⟩ := box1 wr (.slice qm p.ms.length cm') 23; have HEM' := Lib.hid (HEM.out wr.heap.size wx (rdls_one (q := qm) (c := cm') (by rw [mostP_len]; exact s0) (HMR.out.below bq)) (HO.out.below bq))
      skip; replace HB := Lib.hid (HB.out.trans (bq.mono HB.out.size)); replace HP := Lib.hid (HP.out.below bq); replace HQ := Lib.hid (HQ.out.below bq); replace HG := Lib.hid (HG.out.below bq); replace HO := Lib.hid (HO.out.below bq); replace HL := Lib.hid (HL.out.below bq); replace HS := Lib.hid (HS.out.below bq); have k0 := (bq.cell (lt_of_cellq k0)).trans k0; have k1 := (bq.cell (lt_of_cellq k1)).trans k1; have k2 := (bq.cell (lt_of_cellq k2)).trans k2; clear bq
      (go_wp2_with fail); refine HEM'.out.mono ?_
      clear ex s0 HEM' HMR HSx; apply mrgH
      rotate_left
      intro keyT
      rcases hE : enoughL [mostP p] lim ot with _ | _
      · rintro e wn ⟨rfl, bq⟩; replace HB := Lib.hid (HB.out.trans (bq.mono HB.out.size)); replace HP := Lib.hid (HP.out.below bq); replace HQ := Lib.hid (HQ.out.below bq); replace HG := Lib.hid (HG.out.below bq); replace HO := Lib.hid (HO.out.below bq); replace HL := Lib.hid (HL.out.below bq); replace HS := Lib.hid (HS.out.below bq); have k0 := (bq.cell (lt_of_cellq k0)).trans k0; have k1 := (bq.cell (lt_of_cellq k1)).trans k1; have k2 := (bq.cell (lt_of_cellq k2)).trans k2; clear bq
        clear hE; go_upto_region 14 with (fail)
        rename_i K1 h1 K2 h2
        refine gen1 148 (fun x5 => ?_); simp only [ptL]; refine gen1 149 (fun x0 => ?_); simp only [ptL]; refine gen1 150 (fun x1 => ?_); simp only [ptL]; refine gen1 151 (fun x2 => ?_); simp only [ptL]; refine gen1 152 (fun x3 => ?_); simp only [ptL]; refine gen1 153 (fun x4 => ?_); simp only [ptL]
        revert x5; revert x4; revert x3; revert x2; revert x1; revert x0; revert k2; revert k1; revert k0; revert HS; revert HL; revert HO; revert HG; revert HQ; revert HP; revert HB; revert wn; revert h2; revert K2; revert h1; revert K1; exact keyT.out
      · rintro e wn ⟨rfl, bq⟩; replace HB := Lib.hid (HB.out.trans (bq.mono HB.out.size)); replace HP := Lib.hid (HP.out.below bq); replace HQ := Lib.hid (HQ.out.below bq); replace HG := Lib.hid (HG.out.below bq); replace HO := Lib.hid (HO.out.below bq); replace HL := Lib.hid (HL.out.below bq); replace HS := Lib.hid (HS.out.below bq); have k0 := (bq.cell (lt_of_cellq k0)).trans k0; have k1 := (bq.cell (lt_of_cellq k1)).trans k1; have k2 := (bq.cell (lt_of_cellq k2)).trans k2; clear bq
        have HCQ := Lib.hid (HCH.out ql cl wn HQ.out HO.out HL.out); rw [HNO.out hE] at HCQ
        (go_wp2_with fail); refine HCQ.out.mono ?_
        clear HCQ hE; rintro e wn ⟨rfl, bq⟩; replace HB := Lib.hid (HB.out.trans (bq.mono HB.out.size)); replace HP := Lib.hid (HP.out.below bq); replace HQ := Lib.hid (HQ.out.below bq); replace HG := Lib.hid (HG.out.below bq); replace HO := Lib.hid (HO.out.below bq); replace HL := Lib.hid (HL.out.below bq); replace HS := Lib.hid (HS.out.below bq); have k0 := (bq.cell (lt_of_cellq k0)).trans k0; have k1 := (bq.cell (lt_of_cellq k1)).trans k1; have k2 := (bq.cell (lt_of_cellq k2)).trans k2; clear bq; go_upto_region 14 with (fail)
        rename_i K1 h1 K2 h2
        refine gen1 148 (fun x5 => ?_); simp only [ptL]; refine gen1 149 (fun x0 => ?_); simp only [ptL]; refine gen1 150 (fun x1 => ?_); simp only [ptL]; refine gen1 151 (fun x2 => ?_); simp only [ptL]; refine gen1 152 (fun x3 => ?_); simp only [ptL]; refine gen1 153 (fun x4 => ?_); simp only [ptL]
        revert x5; revert x4; revert x3; revert x2; revert x1; revert x0; revert k2; revert k1; revert k0; revert HS; revert HL; revert HO; revert HG; revert HQ; revert HP; revert HB; revert wn; revert h2; revert K2; revert h1; revert K1; exact keyT.out
      rotate_right
      · intro K1 h1 K2 h2 wn HB HP HQ HG HO HL HS k0 k1 k2 x0 x1 x2 x3 x4 x5
        by_cases h0 : p.rs = []
        case neg =>
          have h0' : (p.rs.length : Int) > 0 := by have := List.length_pos_iff.2 h0; omega
          have h0b : 0 < p.rs.length := List.length_pos_iff.2 h0
          (go_wp2_with fail); refine (c_known m _ (HM.out.below HB.out) (HI.out.below HB.out)).mono ?_; rintro e wn ⟨rfl, bq⟩; have HFK := Lib.hid (HB.out.trans (bq.mono HB.out.size)); clear bq; go_wp2; go_ret; exact ⟨rfl, HFK.out⟩
        have h0' : decide ((p.rs.length : Int) > 0) = false := decide_eq_false (by rw [h0]; simp); have h0b : decide (0 < p.rs.length) = false := decide_eq_false (by rw [h0]; simp); have HLX := Lib.hid (HLT.out h0); have hlb := HLB.out h0; obtain ⟨BA, hBA⟩ : ∃ x, (lostBack (onF (renewedF p L) [300]) p.ms.length).1 = x := ⟨_, rfl⟩; obtain ⟨BB, hBB⟩ : ∃ x, (lostBack (onF (renewedF p L) [300]) p.ms.length).2 = x := ⟨_, rfl⟩; rw [hBA, hBB] at HLX; rw [hBB] at hlb; have hle : decide (BB ≤ lim) = true := decide_eq_true hlb; have HBO := HB; clear hBA hBB HB h0; go_wp2; have HSB := Lib.hid (cl3 k0 k1 k2); apply mrgH; rotate_left; intro key23; apply mrgH; rotate_left; intro key22; apply mrgH; rotate_left; intro key21; apply mrgH; rotate_left; intro key20; apply mrgH; rotate_left; intro key19; apply mrgH; rotate_left; intro key18; apply mrgH; rotate_left; intro key17; apply mrgH; rotate_left; intro key16
        apply mrgH; rotate_left; intro key15; apply mrgH; rotate_left; intro key14; apply mrgH; rotate_left; intro key13; apply mrgH; rotate_left; intro key12; apply mrgH; rotate_left; intro key11; apply mrgH; rotate_left; intro key10; apply mrgH; rotate_left; intro key9; apply mrgH; rotate_left; intro key8; apply mrgH; rotate_left; intro key7; apply mrgH; rotate_left; intro key6; apply mrgH; rotate_left; intro key5; apply mrgH; rotate_left; intro key4; apply mrgH; rotate_left; intro key3; apply mrgH; rotate_left; intro key2; apply mrgH; rotate_left; intro key1
        · refine held3 k0 k1 k2 (fun W HB => ?_)
          refine tk 0 rfl (by exact HSB.out _ HB) ?_; (try simp only [Act.put, ptL]); refine tk 1 rfl (by exact HSB.out _ HB) ?_; (try simp only [Act.put, ptL]); refine tk 2 rfl (by exact HSB.out _ HB) ?_; (try simp only [Act.put, ptL]); refine tk 6 rfl (by exact HSB.out _ HB) ?_; (try simp only [Act.put, ptL]); refine tk 7 rfl (by exact HSB.out _ HB) ?_; (try simp only [Act.put, ptL]); refine tk 8 rfl (by exact HSB.out _ HB) ?_; (try simp only [Act.put, ptL]); refine wpAnyH_ready (rs := [3, 4, 14, 15]) (by kernel_rfl) (by simp) ?_; refine AllReadyH.cons rfl ?_ (AllReadyH.cons rfl ?_ (AllReadyH.cons rfl ?_ (AllReadyH.cons rfl ?_ AllReadyH.nil)))
          · intro K hK
            go_simp; refine (HRN.out qs cs ql cl W (HS.out.below HB) (HL.out.below HB)).mono ?_; rintro e WN ⟨pm2, cm2, rfl, hrr, hbn⟩; have HRR := Lib.hid hrr; clear hrr; have HBN : Below wn.heap.size wn WN := HB.trans (hbn.mono HB.size); clear hbn HB; refine kz hK (by exact HSB.out _ HBN) ?_; clear hK K; (try simp only [Act.put, ptL]); refine nrm (bts 19 463) ?_; have HB := HBN; clear HBN
            revert HRR; revert cm2; revert pm2; revert HB; revert WN; exact key1.out
          · intro K hK
            go_simp; refine kz hK (by exact HSB.out _ (HB.alloc HB.size _)) ?_; clear hK K; (try simp only [Act.put, ptL]); refine wpAnyH_gen (fun WN hWn => ?_); have hbn : Below W.heap.size W WN := by rw [hWn]; exact below_alloc1 _ _
            have hx_l : WN.heap[W.heap.size]? = some (.cells #[.int .i64 300] 3) := by rw [hWn]; exact alloc_new _ _
            have hl_l : wn.heap.size ≤ W.heap.size := HB.size; have HBN : Below wn.heap.size wn WN := HB.trans (hbn.mono HB.size); clear hbn HB hWn; obtain ⟨b_l, hb_l⟩ : ∃ b, W.heap.size = b := ⟨_, rfl⟩; rw [hb_l] at hx_l hl_l  ⊢; clear hb_l; refine nrm (bts 19 471) ?_; have HB := HBN; clear HBN
            revert hl_l; revert hx_l; revert b_l; revert HB; revert WN; exact key2.out
          · intro K hK
            go_simp; refine kz hK (by exact HSB.out _ (HB.alloc HB.size _)) ?_; clear hK K; (try simp only [Act.put, ptL]); refine wpAnyH_gen (fun WN hWn => ?_); have hbn : Below W.heap.size W WN := by rw [hWn]; exact below_alloc1 _ _
            have hx_s : WN.heap[W.heap.size]? = some (.cells #[.int .i64 0, .int .i64 0] 36) := by rw [hWn]; exact alloc_new _ _
            have hl_s : wn.heap.size ≤ W.heap.size := HB.size; have HBN : Below wn.heap.size wn WN := HB.trans (hbn.mono HB.size); clear hbn HB hWn; obtain ⟨b_s, hb_s⟩ : ∃ b, W.heap.size = b := ⟨_, rfl⟩; rw [hb_s] at hx_s hl_s  ⊢; clear hb_s; refine nrm (bts 19 16839) ?_; have HB := HBN; clear HBN
            revert hl_s; revert hx_s; revert b_s; revert HB; revert WN; exact key3.out
          · intro K hK
            go_simp; refine kz hK (by exact HSB.out _ (HB.alloc HB.size _)) ?_; clear hK K; (try simp only [Act.put, ptL]); refine wpAnyH_gen (fun WN hWn => ?_); have hbn : Below W.heap.size W WN := by rw [hWn]; exact below_alloc1 _ _
            have hx_t : WN.heap[W.heap.size]? = some (.cells #[.int .i64 0, .int .i64 0] 36) := by rw [hWn]; exact alloc_new _ _
            have hl_t : wn.heap.size ≤ W.heap.size := HB.size; have HBN : Below wn.heap.size wn WN := HB.trans (hbn.mono HB.size); clear hbn HB hWn; obtain ⟨b_t, hb_t⟩ : ∃ b, W.heap.size = b := ⟨_, rfl⟩; rw [hb_t] at hx_t hl_t  ⊢; clear hb_t; refine nrm (bts 19 33223) ?_; have HB := HBN; clear HBN
            revert hl_t; revert hx_t; revert b_t; revert HB; revert WN; exact key4.out
        rotate_right
        · intro W HB pm2 cm2 HRR
          refine rz3 4 14 15 rfl rfl rfl ?_ ?_ ?_
          · intro K hK
            go_simp; refine kz hK (by exact HSB.out _ (HB.alloc HB.size _)) ?_; clear hK K; (try simp only [Act.put, ptL]); refine wpAnyH_gen (fun WN hWn => ?_); have hbn : Below W.heap.size W WN := by rw [hWn]; exact below_alloc1 _ _
            have hx_l : WN.heap[W.heap.size]? = some (.cells #[.int .i64 300] 3) := by rw [hWn]; exact alloc_new _ _
            have hl_l : wn.heap.size ≤ W.heap.size := HB.size; have HBN : Below wn.heap.size wn WN := HB.trans (hbn.mono HB.size); replace HRR := Lib.hid (HRR.out.below hbn); clear hbn HB hWn; obtain ⟨b_l, hb_l⟩ : ∃ b, W.heap.size = b := ⟨_, rfl⟩; rw [hb_l] at hx_l hl_l  ⊢; clear hb_l; refine nrm (bts 19 479) ?_; have HB := HBN; clear HBN
            revert hl_l; revert hx_l; revert HRR; revert b_l; revert cm2; revert pm2; revert HB; revert WN; exact key5.out
          · intro K hK
            go_simp; refine kz hK (by exact HSB.out _ (HB.alloc HB.size _)) ?_; clear hK K; (try simp only [Act.put, ptL]); refine wpAnyH_gen (fun WN hWn => ?_); have hbn : Below W.heap.size W WN := by rw [hWn]; exact below_alloc1 _ _
            have hx_s : WN.heap[W.heap.size]? = some (.cells #[.int .i64 0, .int .i64 0] 36) := by rw [hWn]; exact alloc_new _ _
            have hl_s : wn.heap.size ≤ W.heap.size := HB.size; have HBN : Below wn.heap.size wn WN := HB.trans (hbn.mono HB.size); replace HRR := Lib.hid (HRR.out.below hbn); clear hbn HB hWn; obtain ⟨b_s, hb_s⟩ : ∃ b, W.heap.size = b := ⟨_, rfl⟩; rw [hb_s] at hx_s hl_s  ⊢; clear hb_s; refine nrm (bts 19 16847) ?_; have HB := HBN; clear HBN
            revert hl_s; revert hx_s; revert HRR; revert b_s; revert cm2; revert pm2; revert HB; revert WN; exact key6.out
          · intro K hK
            go_simp; refine kz hK (by exact HSB.out _ (HB.alloc HB.size _)) ?_; clear hK K; (try simp only [Act.put, ptL]); refine wpAnyH_gen (fun WN hWn => ?_); have hbn : Below W.heap.size W WN := by rw [hWn]; exact below_alloc1 _ _
            have hx_t : WN.heap[W.heap.size]? = some (.cells #[.int .i64 0, .int .i64 0] 36) := by rw [hWn]; exact alloc_new _ _
            have hl_t : wn.heap.size ≤ W.heap.size := HB.size; have HBN : Below wn.heap.size wn WN := HB.trans (hbn.mono HB.size); replace HRR := Lib.hid (HRR.out.below hbn); clear hbn HB hWn; obtain ⟨b_t, hb_t⟩ : ∃ b, W.heap.size = b := ⟨_, rfl⟩; rw [hb_t] at hx_t hl_t  ⊢; clear hb_t; refine nrm (bts 19 33231) ?_; have HB := HBN; clear HBN
            revert hl_t; revert hx_t; revert HRR; revert b_t; revert cm2; revert pm2; revert HB; revert WN; exact key7.out
        rotate_right
        · intro W HB b_l hx_l hl_l
          refine rz3 3 14 15 rfl rfl rfl ?_ ?_ ?_
          · intro K hK
            go_simp; refine (HRN.out qs cs ql cl W (HS.out.below HB) (HL.out.below HB)).mono ?_; rintro e WN ⟨pm2, cm2, rfl, hrr, hbn⟩; have HRR := Lib.hid hrr; clear hrr; have HBN : Below wn.heap.size wn WN := HB.trans (hbn.mono HB.size); replace hx_l := (hbn.block _ (block_lt hx_l)).trans hx_l; clear hbn HB; refine kz hK (by exact HSB.out _ HBN) ?_; clear hK K; (try simp only [Act.put, ptL]); refine nrm (bts 19 479) ?_; have HB := HBN; clear HBN
            revert hl_l; revert hx_l; revert HRR; revert b_l; revert cm2; revert pm2; revert HB; revert WN; exact key5.out
          · intro K hK
            go_simp; refine kz hK (by exact HSB.out _ (HB.alloc HB.size _)) ?_; clear hK K; (try simp only [Act.put, ptL]); refine wpAnyH_gen (fun WN hWn => ?_); have hbn : Below W.heap.size W WN := by rw [hWn]; exact below_alloc1 _ _
            have hx_s : WN.heap[W.heap.size]? = some (.cells #[.int .i64 0, .int .i64 0] 36) := by rw [hWn]; exact alloc_new _ _
            have hl_s : wn.heap.size ≤ W.heap.size := HB.size; have hn_l_s : b_l ≠ W.heap.size := by have := block_lt hx_l; omega
            have HBN : Below wn.heap.size wn WN := HB.trans (hbn.mono HB.size); replace hx_l := (hbn.block _ (block_lt hx_l)).trans hx_l; clear hbn HB hWn; obtain ⟨b_s, hb_s⟩ : ∃ b, W.heap.size = b := ⟨_, rfl⟩; rw [hb_s] at hx_s hl_s hn_l_s ⊢; clear hb_s; refine nrm (bts 19 16855) ?_; have HB := HBN; clear HBN
            revert hn_l_s; revert hl_s; revert hx_s; revert hl_l; revert hx_l; revert b_s; revert b_l; revert HB; revert WN; exact key8.out
          · intro K hK
            go_simp; refine kz hK (by exact HSB.out _ (HB.alloc HB.size _)) ?_; clear hK K; (try simp only [Act.put, ptL]); refine wpAnyH_gen (fun WN hWn => ?_); have hbn : Below W.heap.size W WN := by rw [hWn]; exact below_alloc1 _ _
            have hx_t : WN.heap[W.heap.size]? = some (.cells #[.int .i64 0, .int .i64 0] 36) := by rw [hWn]; exact alloc_new _ _
            have hl_t : wn.heap.size ≤ W.heap.size := HB.size; have hn_l_t : b_l ≠ W.heap.size := by have := block_lt hx_l; omega
            have HBN : Below wn.heap.size wn WN := HB.trans (hbn.mono HB.size); replace hx_l := (hbn.block _ (block_lt hx_l)).trans hx_l; clear hbn HB hWn; obtain ⟨b_t, hb_t⟩ : ∃ b, W.heap.size = b := ⟨_, rfl⟩; rw [hb_t] at hx_t hl_t hn_l_t ⊢; clear hb_t; refine nrm (bts 19 33239) ?_; have HB := HBN; clear HBN
            revert hn_l_t; revert hl_t; revert hx_t; revert hl_l; revert hx_l; revert b_t; revert b_l; revert HB; revert WN; exact key9.out
        rotate_right
        · intro W HB b_s hx_s hl_s
          refine rz3 3 4 15 rfl rfl rfl ?_ ?_ ?_
          · intro K hK
            go_simp; refine (HRN.out qs cs ql cl W (HS.out.below HB) (HL.out.below HB)).mono ?_; rintro e WN ⟨pm2, cm2, rfl, hrr, hbn⟩; have HRR := Lib.hid hrr; clear hrr; have HBN : Below wn.heap.size wn WN := HB.trans (hbn.mono HB.size); replace hx_s := (hbn.block _ (block_lt hx_s)).trans hx_s; clear hbn HB; refine kz hK (by exact HSB.out _ HBN) ?_; clear hK K; (try simp only [Act.put, ptL]); refine nrm (bts 19 16847) ?_; have HB := HBN; clear HBN
            revert hl_s; revert hx_s; revert HRR; revert b_s; revert cm2; revert pm2; revert HB; revert WN; exact key6.out
          · intro K hK
            go_simp; refine kz hK (by exact HSB.out _ (HB.alloc HB.size _)) ?_; clear hK K; (try simp only [Act.put, ptL]); refine wpAnyH_gen (fun WN hWn => ?_); have hbn : Below W.heap.size W WN := by rw [hWn]; exact below_alloc1 _ _
            have hx_l : WN.heap[W.heap.size]? = some (.cells #[.int .i64 300] 3) := by rw [hWn]; exact alloc_new _ _
            have hl_l : wn.heap.size ≤ W.heap.size := HB.size; have hn_l_s : W.heap.size ≠ b_s := by have := block_lt hx_s; omega
            have HBN : Below wn.heap.size wn WN := HB.trans (hbn.mono HB.size); replace hx_s := (hbn.block _ (block_lt hx_s)).trans hx_s; clear hbn HB hWn; obtain ⟨b_l, hb_l⟩ : ∃ b, W.heap.size = b := ⟨_, rfl⟩; rw [hb_l] at hx_l hl_l hn_l_s ⊢; clear hb_l; refine nrm (bts 19 16855) ?_; have HB := HBN; clear HBN
            revert hn_l_s; revert hl_s; revert hx_s; revert hl_l; revert hx_l; revert b_s; revert b_l; revert HB; revert WN; exact key8.out
          · intro K hK
            go_simp; refine kz hK (by exact HSB.out _ (HB.alloc HB.size _)) ?_; clear hK K; (try simp only [Act.put, ptL]); refine wpAnyH_gen (fun WN hWn => ?_); have hbn : Below W.heap.size W WN := by rw [hWn]; exact below_alloc1 _ _
            have hx_t : WN.heap[W.heap.size]? = some (.cells #[.int .i64 0, .int .i64 0] 36) := by rw [hWn]; exact alloc_new _ _
            have hl_t : wn.heap.size ≤ W.heap.size := HB.size; have hn_s_t : b_s ≠ W.heap.size := by have := block_lt hx_s; omega
            have HBN : Below wn.heap.size wn WN := HB.trans (hbn.mono HB.size); replace hx_s := (hbn.block _ (block_lt hx_s)).trans hx_s; clear hbn HB hWn; obtain ⟨b_t, hb_t⟩ : ∃ b, W.heap.size = b := ⟨_, rfl⟩; rw [hb_t] at hx_t hl_t hn_s_t ⊢; clear hb_t; refine nrm (bts 19 49607) ?_; have HB := HBN; clear HBN
            revert hn_s_t; revert hl_t; revert hx_t; revert hl_s; revert hx_s; revert b_t; revert b_s; revert HB; revert WN; exact key10.out
        rotate_right
        · intro W HB b_t hx_t hl_t
          refine rz3 3 4 14 rfl rfl rfl ?_ ?_ ?_
          · intro K hK
            go_simp; refine (HRN.out qs cs ql cl W (HS.out.below HB) (HL.out.below HB)).mono ?_; rintro e WN ⟨pm2, cm2, rfl, hrr, hbn⟩; have HRR := Lib.hid hrr; clear hrr; have HBN : Below wn.heap.size wn WN := HB.trans (hbn.mono HB.size); replace hx_t := (hbn.block _ (block_lt hx_t)).trans hx_t; clear hbn HB; refine kz hK (by exact HSB.out _ HBN) ?_; clear hK K; (try simp only [Act.put, ptL]); refine nrm (bts 19 33231) ?_; have HB := HBN; clear HBN
            revert hl_t; revert hx_t; revert HRR; revert b_t; revert cm2; revert pm2; revert HB; revert WN; exact key7.out
          · intro K hK
            go_simp; refine kz hK (by exact HSB.out _ (HB.alloc HB.size _)) ?_; clear hK K; (try simp only [Act.put, ptL]); refine wpAnyH_gen (fun WN hWn => ?_); have hbn : Below W.heap.size W WN := by rw [hWn]; exact below_alloc1 _ _
            have hx_l : WN.heap[W.heap.size]? = some (.cells #[.int .i64 300] 3) := by rw [hWn]; exact alloc_new _ _
            have hl_l : wn.heap.size ≤ W.heap.size := HB.size; have hn_l_t : W.heap.size ≠ b_t := by have := block_lt hx_t; omega
            have HBN : Below wn.heap.size wn WN := HB.trans (hbn.mono HB.size); replace hx_t := (hbn.block _ (block_lt hx_t)).trans hx_t; clear hbn HB hWn; obtain ⟨b_l, hb_l⟩ : ∃ b, W.heap.size = b := ⟨_, rfl⟩; rw [hb_l] at hx_l hl_l hn_l_t ⊢; clear hb_l; refine nrm (bts 19 33239) ?_; have HB := HBN; clear HBN
            revert hn_l_t; revert hl_t; revert hx_t; revert hl_l; revert hx_l; revert b_t; revert b_l; revert HB; revert WN; exact key9.out
          · intro K hK
            go_simp; refine kz hK (by exact HSB.out _ (HB.alloc HB.size _)) ?_; clear hK K; (try simp only [Act.put, ptL]); refine wpAnyH_gen (fun WN hWn => ?_); have hbn : Below W.heap.size W WN := by rw [hWn]; exact below_alloc1 _ _
            have hx_s : WN.heap[W.heap.size]? = some (.cells #[.int .i64 0, .int .i64 0] 36) := by rw [hWn]; exact alloc_new _ _
            have hl_s : wn.heap.size ≤ W.heap.size := HB.size; have hn_s_t : W.heap.size ≠ b_t := by have := block_lt hx_t; omega
            have HBN : Below wn.heap.size wn WN := HB.trans (hbn.mono HB.size); replace hx_t := (hbn.block _ (block_lt hx_t)).trans hx_t; clear hbn HB hWn; obtain ⟨b_s, hb_s⟩ : ∃ b, W.heap.size = b := ⟨_, rfl⟩; rw [hb_s] at hx_s hl_s hn_s_t ⊢; clear hb_s; refine nrm (bts 19 49607) ?_; have HB := HBN; clear HBN
            revert hn_s_t; revert hl_t; revert hx_t; revert hl_s; revert hx_s; revert b_t; revert b_s; revert HB; revert WN; exact key10.out
        rotate_right
        · intro W HB pm2 cm2 b_l HRR hx_l hl_l
          refine rz3 5 14 15 rfl rfl rfl ?_ ?_ ?_
          · intro K hK
            go_simp; refine (HON.out pm2 cm2 b_l W HRR.out (cells1 hx_l)).mono ?_; rintro e WN ⟨pv2, cv2, rfl, hro, hbn⟩; have HRO := Lib.hid hro; clear hro; have HBN : Below wn.heap.size wn WN := HB.trans (hbn.mono HB.size); replace HRR := Lib.hid (HRR.out.below hbn); replace hx_l := (hbn.block _ (block_lt hx_l)).trans hx_l; clear hbn HB; refine kz hK (by exact HSB.out _ HBN) ?_; clear hK K; (try simp only [Act.put, ptL]); refine nrm (bts 19 511) ?_; have HB := HBN; clear HBN
            revert hl_l; revert hx_l; revert HRO; revert HRR; revert b_l; revert cv2; revert pv2; revert cm2; revert pm2; revert HB; revert WN; exact key11.out
          · intro K hK
            go_simp; refine kz hK (by exact HSB.out _ (HB.alloc HB.size _)) ?_; clear hK K; (try simp only [Act.put, ptL]); refine wpAnyH_gen (fun WN hWn => ?_); have hbn : Below W.heap.size W WN := by rw [hWn]; exact below_alloc1 _ _
            have hx_s : WN.heap[W.heap.size]? = some (.cells #[.int .i64 0, .int .i64 0] 36) := by rw [hWn]; exact alloc_new _ _
            have hl_s : wn.heap.size ≤ W.heap.size := HB.size; have hn_l_s : b_l ≠ W.heap.size := by have := block_lt hx_l; omega
            have HBN : Below wn.heap.size wn WN := HB.trans (hbn.mono HB.size); replace HRR := Lib.hid (HRR.out.below hbn); replace hx_l := (hbn.block _ (block_lt hx_l)).trans hx_l; clear hbn HB hWn; obtain ⟨b_s, hb_s⟩ : ∃ b, W.heap.size = b := ⟨_, rfl⟩; rw [hb_s] at hx_s hl_s hn_l_s ⊢; clear hb_s; refine nrm (bts 19 16863) ?_; have HB := HBN; clear HBN
            revert hn_l_s; revert hl_s; revert hx_s; revert hl_l; revert hx_l; revert HRR; revert b_s; revert b_l; revert cm2; revert pm2; revert HB; revert WN; exact key12.out
          · intro K hK
            go_simp; refine kz hK (by exact HSB.out _ (HB.alloc HB.size _)) ?_; clear hK K; (try simp only [Act.put, ptL]); refine wpAnyH_gen (fun WN hWn => ?_); have hbn : Below W.heap.size W WN := by rw [hWn]; exact below_alloc1 _ _
            have hx_t : WN.heap[W.heap.size]? = some (.cells #[.int .i64 0, .int .i64 0] 36) := by rw [hWn]; exact alloc_new _ _
            have hl_t : wn.heap.size ≤ W.heap.size := HB.size; have hn_l_t : b_l ≠ W.heap.size := by have := block_lt hx_l; omega
            have HBN : Below wn.heap.size wn WN := HB.trans (hbn.mono HB.size); replace HRR := Lib.hid (HRR.out.below hbn); replace hx_l := (hbn.block _ (block_lt hx_l)).trans hx_l; clear hbn HB hWn; obtain ⟨b_t, hb_t⟩ : ∃ b, W.heap.size = b := ⟨_, rfl⟩; rw [hb_t] at hx_t hl_t hn_l_t ⊢; clear hb_t; refine nrm (bts 19 33247) ?_; have HB := HBN; clear HBN
            revert hn_l_t; revert hl_t; revert hx_t; revert hl_l; revert hx_l; revert HRR; revert b_t; revert b_l; revert cm2; revert pm2; revert HB; revert WN; exact key13.out
        rotate_right
        · intro W HB pm2 cm2 b_s HRR hx_s hl_s
          refine rz2 4 15 rfl rfl ?_ ?_
          · intro K hK
            go_simp; refine kz hK (by exact HSB.out _ (HB.alloc HB.size _)) ?_; clear hK K; (try simp only [Act.put, ptL]); refine wpAnyH_gen (fun WN hWn => ?_); have hbn : Below W.heap.size W WN := by rw [hWn]; exact below_alloc1 _ _
            have hx_l : WN.heap[W.heap.size]? = some (.cells #[.int .i64 300] 3) := by rw [hWn]; exact alloc_new _ _
            have hl_l : wn.heap.size ≤ W.heap.size := HB.size; have hn_l_s : W.heap.size ≠ b_s := by have := block_lt hx_s; omega
            have HBN : Below wn.heap.size wn WN := HB.trans (hbn.mono HB.size); replace HRR := Lib.hid (HRR.out.below hbn); replace hx_s := (hbn.block _ (block_lt hx_s)).trans hx_s; clear hbn HB hWn; obtain ⟨b_l, hb_l⟩ : ∃ b, W.heap.size = b := ⟨_, rfl⟩; rw [hb_l] at hx_l hl_l hn_l_s ⊢; clear hb_l; refine nrm (bts 19 16863) ?_; have HB := HBN; clear HBN
            revert hn_l_s; revert hl_s; revert hx_s; revert hl_l; revert hx_l; revert HRR; revert b_s; revert b_l; revert cm2; revert pm2; revert HB; revert WN; exact key12.out
          · intro K hK
            go_simp; refine kz hK (by exact HSB.out _ (HB.alloc HB.size _)) ?_; clear hK K; (try simp only [Act.put, ptL]); refine wpAnyH_gen (fun WN hWn => ?_); have hbn : Below W.heap.size W WN := by rw [hWn]; exact below_alloc1 _ _
            have hx_t : WN.heap[W.heap.size]? = some (.cells #[.int .i64 0, .int .i64 0] 36) := by rw [hWn]; exact alloc_new _ _
            have hl_t : wn.heap.size ≤ W.heap.size := HB.size; have hn_s_t : b_s ≠ W.heap.size := by have := block_lt hx_s; omega
            have HBN : Below wn.heap.size wn WN := HB.trans (hbn.mono HB.size); replace HRR := Lib.hid (HRR.out.below hbn); replace hx_s := (hbn.block _ (block_lt hx_s)).trans hx_s; clear hbn HB hWn; obtain ⟨b_t, hb_t⟩ : ∃ b, W.heap.size = b := ⟨_, rfl⟩; rw [hb_t] at hx_t hl_t hn_s_t ⊢; clear hb_t; refine nrm (bts 19 49615) ?_; have HB := HBN; clear HBN
            revert hn_s_t; revert hl_t; revert hx_t; revert hl_s; revert hx_s; revert HRR; revert b_t; revert b_s; revert cm2; revert pm2; revert HB; revert WN; exact key14.out
        rotate_right
        · intro W HB pm2 cm2 b_t HRR hx_t hl_t
          refine rz2 4 14 rfl rfl ?_ ?_
          · intro K hK
            go_simp; refine kz hK (by exact HSB.out _ (HB.alloc HB.size _)) ?_; clear hK K; (try simp only [Act.put, ptL]); refine wpAnyH_gen (fun WN hWn => ?_); have hbn : Below W.heap.size W WN := by rw [hWn]; exact below_alloc1 _ _
            have hx_l : WN.heap[W.heap.size]? = some (.cells #[.int .i64 300] 3) := by rw [hWn]; exact alloc_new _ _
            have hl_l : wn.heap.size ≤ W.heap.size := HB.size; have hn_l_t : W.heap.size ≠ b_t := by have := block_lt hx_t; omega
            have HBN : Below wn.heap.size wn WN := HB.trans (hbn.mono HB.size); replace HRR := Lib.hid (HRR.out.below hbn); replace hx_t := (hbn.block _ (block_lt hx_t)).trans hx_t; clear hbn HB hWn; obtain ⟨b_l, hb_l⟩ : ∃ b, W.heap.size = b := ⟨_, rfl⟩; rw [hb_l] at hx_l hl_l hn_l_t ⊢; clear hb_l; refine nrm (bts 19 33247) ?_; have HB := HBN; clear HBN
            revert hn_l_t; revert hl_t; revert hx_t; revert hl_l; revert hx_l; revert HRR; revert b_t; revert b_l; revert cm2; revert pm2; revert HB; revert WN; exact key13.out
          · intro K hK
            go_simp; refine kz hK (by exact HSB.out _ (HB.alloc HB.size _)) ?_; clear hK K; (try simp only [Act.put, ptL]); refine wpAnyH_gen (fun WN hWn => ?_); have hbn : Below W.heap.size W WN := by rw [hWn]; exact below_alloc1 _ _
            have hx_s : WN.heap[W.heap.size]? = some (.cells #[.int .i64 0, .int .i64 0] 36) := by rw [hWn]; exact alloc_new _ _
            have hl_s : wn.heap.size ≤ W.heap.size := HB.size; have hn_s_t : W.heap.size ≠ b_t := by have := block_lt hx_t; omega
            have HBN : Below wn.heap.size wn WN := HB.trans (hbn.mono HB.size); replace HRR := Lib.hid (HRR.out.below hbn); replace hx_t := (hbn.block _ (block_lt hx_t)).trans hx_t; clear hbn HB hWn; obtain ⟨b_s, hb_s⟩ : ∃ b, W.heap.size = b := ⟨_, rfl⟩; rw [hb_s] at hx_s hl_s hn_s_t ⊢; clear hb_s; refine nrm (bts 19 49615) ?_; have HB := HBN; clear HBN
            revert hn_s_t; revert hl_t; revert hx_t; revert hl_s; revert hx_s; revert HRR; revert b_t; revert b_s; revert cm2; revert pm2; revert HB; revert WN; exact key14.out
        rotate_right
        · intro W HB b_l b_s hx_l hl_l hx_s hl_s hn_l_s
          refine rz2 3 15 rfl rfl ?_ ?_
          · intro K hK
            go_simp; refine (HRN.out qs cs ql cl W (HS.out.below HB) (HL.out.below HB)).mono ?_; rintro e WN ⟨pm2, cm2, rfl, hrr, hbn⟩; have HRR := Lib.hid hrr; clear hrr; have HBN : Below wn.heap.size wn WN := HB.trans (hbn.mono HB.size); replace hx_l := (hbn.block _ (block_lt hx_l)).trans hx_l; replace hx_s := (hbn.block _ (block_lt hx_s)).trans hx_s; clear hbn HB; refine kz hK (by exact HSB.out _ HBN) ?_; clear hK K; (try simp only [Act.put, ptL]); refine nrm (bts 19 16863) ?_; have HB := HBN; clear HBN
            revert hn_l_s; revert hl_s; revert hx_s; revert hl_l; revert hx_l; revert HRR; revert b_s; revert b_l; revert cm2; revert pm2; revert HB; revert WN; exact key12.out
          · intro K hK
            go_simp; refine kz hK (by exact HSB.out _ (HB.alloc HB.size _)) ?_; clear hK K; (try simp only [Act.put, ptL]); refine wpAnyH_gen (fun WN hWn => ?_); have hbn : Below W.heap.size W WN := by rw [hWn]; exact below_alloc1 _ _
            have hx_t : WN.heap[W.heap.size]? = some (.cells #[.int .i64 0, .int .i64 0] 36) := by rw [hWn]; exact alloc_new _ _
            have hl_t : wn.heap.size ≤ W.heap.size := HB.size; have hn_l_t : b_l ≠ W.heap.size := by have := block_lt hx_l; omega
            have hn_s_t : b_s ≠ W.heap.size := by have := block_lt hx_s; omega
            have HBN : Below wn.heap.size wn WN := HB.trans (hbn.mono HB.size); replace hx_l := (hbn.block _ (block_lt hx_l)).trans hx_l; replace hx_s := (hbn.block _ (block_lt hx_s)).trans hx_s; clear hbn HB hWn; obtain ⟨b_t, hb_t⟩ : ∃ b, W.heap.size = b := ⟨_, rfl⟩; rw [hb_t] at hx_t hl_t hn_l_t hn_s_t ⊢; clear hb_t; refine nrm (bts 19 49623) ?_; have HB := HBN; clear HBN
            revert hn_s_t; revert hn_l_t; revert hn_l_s; revert hl_t; revert hx_t; revert hl_s; revert hx_s; revert hl_l; revert hx_l; revert b_t; revert b_s; revert b_l; revert HB; revert WN; exact key15.out
        rotate_right
        · intro W HB b_l b_t hx_l hl_l hx_t hl_t hn_l_t
          refine rz2 3 14 rfl rfl ?_ ?_
          · intro K hK
            go_simp; refine (HRN.out qs cs ql cl W (HS.out.below HB) (HL.out.below HB)).mono ?_; rintro e WN ⟨pm2, cm2, rfl, hrr, hbn⟩; have HRR := Lib.hid hrr; clear hrr; have HBN : Below wn.heap.size wn WN := HB.trans (hbn.mono HB.size); replace hx_l := (hbn.block _ (block_lt hx_l)).trans hx_l; replace hx_t := (hbn.block _ (block_lt hx_t)).trans hx_t; clear hbn HB; refine kz hK (by exact HSB.out _ HBN) ?_; clear hK K; (try simp only [Act.put, ptL]); refine nrm (bts 19 33247) ?_; have HB := HBN; clear HBN
            revert hn_l_t; revert hl_t; revert hx_t; revert hl_l; revert hx_l; revert HRR; revert b_t; revert b_l; revert cm2; revert pm2; revert HB; revert WN; exact key13.out
          · intro K hK
            go_simp; refine kz hK (by exact HSB.out _ (HB.alloc HB.size _)) ?_; clear hK K; (try simp only [Act.put, ptL]); refine wpAnyH_gen (fun WN hWn => ?_); have hbn : Below W.heap.size W WN := by rw [hWn]; exact below_alloc1 _ _
            have hx_s : WN.heap[W.heap.size]? = some (.cells #[.int .i64 0, .int .i64 0] 36) := by rw [hWn]; exact alloc_new _ _
            have hl_s : wn.heap.size ≤ W.heap.size := HB.size; have hn_l_s : b_l ≠ W.heap.size := by have := block_lt hx_l; omega
            have hn_s_t : W.heap.size ≠ b_t := by have := block_lt hx_t; omega
            have HBN : Below wn.heap.size wn WN := HB.trans (hbn.mono HB.size); replace hx_l := (hbn.block _ (block_lt hx_l)).trans hx_l; replace hx_t := (hbn.block _ (block_lt hx_t)).trans hx_t; clear hbn HB hWn; obtain ⟨b_s, hb_s⟩ : ∃ b, W.heap.size = b := ⟨_, rfl⟩; rw [hb_s] at hx_s hl_s hn_l_s hn_s_t ⊢; clear hb_s; refine nrm (bts 19 49623) ?_; have HB := HBN; clear HBN
            revert hn_s_t; revert hn_l_t; revert hn_l_s; revert hl_t; revert hx_t; revert hl_s; revert hx_s; revert hl_l; revert hx_l; revert b_t; revert b_s; revert b_l; revert HB; revert WN; exact key15.out
        rotate_right
        · intro W HB b_s b_t hx_s hl_s hx_t hl_t hn_s_t
          refine rz2 3 4 rfl rfl ?_ ?_
          · intro K hK
            go_simp; refine (HRN.out qs cs ql cl W (HS.out.below HB) (HL.out.below HB)).mono ?_; rintro e WN ⟨pm2, cm2, rfl, hrr, hbn⟩; have HRR := Lib.hid hrr; clear hrr; have HBN : Below wn.heap.size wn WN := HB.trans (hbn.mono HB.size); replace hx_s := (hbn.block _ (block_lt hx_s)).trans hx_s; replace hx_t := (hbn.block _ (block_lt hx_t)).trans hx_t; clear hbn HB; refine kz hK (by exact HSB.out _ HBN) ?_; clear hK K; (try simp only [Act.put, ptL]); refine nrm (bts 19 49615) ?_; have HB := HBN; clear HBN
            revert hn_s_t; revert hl_t; revert hx_t; revert hl_s; revert hx_s; revert HRR; revert b_t; revert b_s; revert cm2; revert pm2; revert HB; revert WN; exact key14.out
          · intro K hK
            go_simp; refine kz hK (by exact HSB.out _ (HB.alloc HB.size _)) ?_; clear hK K; (try simp only [Act.put, ptL]); refine wpAnyH_gen (fun WN hWn => ?_); have hbn : Below W.heap.size W WN := by rw [hWn]; exact below_alloc1 _ _
            have hx_l : WN.heap[W.heap.size]? = some (.cells #[.int .i64 300] 3) := by rw [hWn]; exact alloc_new _ _
            have hl_l : wn.heap.size ≤ W.heap.size := HB.size; have hn_l_s : W.heap.size ≠ b_s := by have := block_lt hx_s; omega
            have hn_l_t : W.heap.size ≠ b_t := by have := block_lt hx_t; omega
            have HBN : Below wn.heap.size wn WN := HB.trans (hbn.mono HB.size); replace hx_s := (hbn.block _ (block_lt hx_s)).trans hx_s; replace hx_t := (hbn.block _ (block_lt hx_t)).trans hx_t; clear hbn HB hWn; obtain ⟨b_l, hb_l⟩ : ∃ b, W.heap.size = b := ⟨_, rfl⟩; rw [hb_l] at hx_l hl_l hn_l_s hn_l_t ⊢; clear hb_l; refine nrm (bts 19 49623) ?_; have HB := HBN; clear HBN
            revert hn_s_t; revert hn_l_t; revert hn_l_s; revert hl_t; revert hx_t; revert hl_s; revert hx_s; revert hl_l; revert hx_l; revert b_t; revert b_s; revert b_l; revert HB; revert WN; exact key15.out
        rotate_right
        · intro W HB pm2 cm2 pv2 cv2 b_l HRR HRO hx_l hl_l
          refine rz3 9 14 15 rfl rfl rfl ?_ ?_ ?_
          · intro K hK
            go_simp; refine (HLX.out pm2 pv2 cm2 cv2 W HRO.out).mono ?_; rintro e WN ⟨rfl, hbn⟩; have HBN : Below wn.heap.size wn WN := HB.trans (hbn.mono HB.size); replace HRR := Lib.hid (HRR.out.below hbn); replace HRO := Lib.hid (HRO.out.below hbn); replace hx_l := (hbn.block _ (block_lt hx_l)).trans hx_l; clear hbn HB; refine kz hK (by exact HSB.out _ HBN) ?_; clear hK K; (try simp only [Act.put, ptL]); refine tk 10 rfl (by exact HSB.out _ HBN) ?_; (try simp only [Act.put, ptL]); refine tk 11 rfl (by exact HSB.out _ HBN) ?_; (try simp only [Act.put, ptL]); refine tk 12 rfl (by exact HSB.out _ HBN) ?_; (try simp only [Act.put, ptL]); refine tk 13 rfl (by exact HSB.out _ HBN) ?_; (try simp only [Act.put, ptL]); refine nrm (bts 19 16383) ?_; have HB := HBN; clear HBN
            revert hl_l; revert hx_l; revert HRO; revert HRR; revert b_l; revert cv2; revert pv2; revert cm2; revert pm2; revert HB; revert WN; exact key16.out
          · intro K hK
            go_simp; refine kz hK (by exact HSB.out _ (HB.alloc HB.size _)) ?_; clear hK K; (try simp only [Act.put, ptL]); refine wpAnyH_gen (fun WN hWn => ?_); have hbn : Below W.heap.size W WN := by rw [hWn]; exact below_alloc1 _ _
            have hx_s : WN.heap[W.heap.size]? = some (.cells #[.int .i64 0, .int .i64 0] 36) := by rw [hWn]; exact alloc_new _ _
            have hl_s : wn.heap.size ≤ W.heap.size := HB.size; have hn_l_s : b_l ≠ W.heap.size := by have := block_lt hx_l; omega
            have HBN : Below wn.heap.size wn WN := HB.trans (hbn.mono HB.size); replace HRR := Lib.hid (HRR.out.below hbn); replace HRO := Lib.hid (HRO.out.below hbn); replace hx_l := (hbn.block _ (block_lt hx_l)).trans hx_l; clear hbn HB hWn; obtain ⟨b_s, hb_s⟩ : ∃ b, W.heap.size = b := ⟨_, rfl⟩; rw [hb_s] at hx_s hl_s hn_l_s ⊢; clear hb_s; refine nrm (bts 19 16895) ?_; have HB := HBN; clear HBN
            revert hn_l_s; revert hl_s; revert hx_s; revert hl_l; revert hx_l; revert HRO; revert HRR; revert b_s; revert b_l; revert cv2; revert pv2; revert cm2; revert pm2; revert HB; revert WN; exact key17.out
          · intro K hK
            go_simp; refine kz hK (by exact HSB.out _ (HB.alloc HB.size _)) ?_; clear hK K; (try simp only [Act.put, ptL]); refine wpAnyH_gen (fun WN hWn => ?_); have hbn : Below W.heap.size W WN := by rw [hWn]; exact below_alloc1 _ _
            have hx_t : WN.heap[W.heap.size]? = some (.cells #[.int .i64 0, .int .i64 0] 36) := by rw [hWn]; exact alloc_new _ _
            have hl_t : wn.heap.size ≤ W.heap.size := HB.size; have hn_l_t : b_l ≠ W.heap.size := by have := block_lt hx_l; omega
            have HBN : Below wn.heap.size wn WN := HB.trans (hbn.mono HB.size); replace HRR := Lib.hid (HRR.out.below hbn); replace HRO := Lib.hid (HRO.out.below hbn); replace hx_l := (hbn.block _ (block_lt hx_l)).trans hx_l; clear hbn HB hWn; obtain ⟨b_t, hb_t⟩ : ∃ b, W.heap.size = b := ⟨_, rfl⟩; rw [hb_t] at hx_t hl_t hn_l_t ⊢; clear hb_t; refine nrm (bts 19 33279) ?_; have HB := HBN; clear HBN
            revert hn_l_t; revert hl_t; revert hx_t; revert hl_l; revert hx_l; revert HRO; revert HRR; revert b_t; revert b_l; revert cv2; revert pv2; revert cm2; revert pm2; revert HB; revert WN; exact key18.out
        rotate_right
        · intro W HB pm2 cm2 b_l b_s HRR hx_l hl_l hx_s hl_s hn_l_s
          refine rz2 5 15 rfl rfl ?_ ?_
          · intro K hK
            go_simp; refine (HON.out pm2 cm2 b_l W HRR.out (cells1 hx_l)).mono ?_; rintro e WN ⟨pv2, cv2, rfl, hro, hbn⟩; have HRO := Lib.hid hro; clear hro; have HBN : Below wn.heap.size wn WN := HB.trans (hbn.mono HB.size); replace HRR := Lib.hid (HRR.out.below hbn); replace hx_l := (hbn.block _ (block_lt hx_l)).trans hx_l; replace hx_s := (hbn.block _ (block_lt hx_s)).trans hx_s; clear hbn HB; refine kz hK (by exact HSB.out _ HBN) ?_; clear hK K; (try simp only [Act.put, ptL]); refine nrm (bts 19 16895) ?_; have HB := HBN; clear HBN
            revert hn_l_s; revert hl_s; revert hx_s; revert hl_l; revert hx_l; revert HRO; revert HRR; revert b_s; revert b_l; revert cv2; revert pv2; revert cm2; revert pm2; revert HB; revert WN; exact key17.out
          · intro K hK
            go_simp; refine kz hK (by exact HSB.out _ (HB.alloc HB.size _)) ?_; clear hK K; (try simp only [Act.put, ptL]); refine wpAnyH_gen (fun WN hWn => ?_); have hbn : Below W.heap.size W WN := by rw [hWn]; exact below_alloc1 _ _
            have hx_t : WN.heap[W.heap.size]? = some (.cells #[.int .i64 0, .int .i64 0] 36) := by rw [hWn]; exact alloc_new _ _
            have hl_t : wn.heap.size ≤ W.heap.size := HB.size; have hn_l_t : b_l ≠ W.heap.size := by have := block_lt hx_l; omega
            have hn_s_t : b_s ≠ W.heap.size := by have := block_lt hx_s; omega
            have HBN : Below wn.heap.size wn WN := HB.trans (hbn.mono HB.size); replace HRR := Lib.hid (HRR.out.below hbn); replace hx_l := (hbn.block _ (block_lt hx_l)).trans hx_l; replace hx_s := (hbn.block _ (block_lt hx_s)).trans hx_s; clear hbn HB hWn; obtain ⟨b_t, hb_t⟩ : ∃ b, W.heap.size = b := ⟨_, rfl⟩; rw [hb_t] at hx_t hl_t hn_l_t hn_s_t ⊢; clear hb_t; refine nrm (bts 19 49631) ?_; have HB := HBN; clear HBN
            revert hn_s_t; revert hn_l_t; revert hn_l_s; revert hl_t; revert hx_t; revert hl_s; revert hx_s; revert hl_l; revert hx_l; revert HRR; revert b_t; revert b_s; revert b_l; revert cm2; revert pm2; revert HB; revert WN; exact key19.out
        rotate_right
        · intro W HB pm2 cm2 b_l b_t HRR hx_l hl_l hx_t hl_t hn_l_t
          refine rz2 5 14 rfl rfl ?_ ?_
          · intro K hK
            go_simp; refine (HON.out pm2 cm2 b_l W HRR.out (cells1 hx_l)).mono ?_; rintro e WN ⟨pv2, cv2, rfl, hro, hbn⟩; have HRO := Lib.hid hro; clear hro; have HBN : Below wn.heap.size wn WN := HB.trans (hbn.mono HB.size); replace HRR := Lib.hid (HRR.out.below hbn); replace hx_l := (hbn.block _ (block_lt hx_l)).trans hx_l; replace hx_t := (hbn.block _ (block_lt hx_t)).trans hx_t; clear hbn HB; refine kz hK (by exact HSB.out _ HBN) ?_; clear hK K; (try simp only [Act.put, ptL]); refine nrm (bts 19 33279) ?_; have HB := HBN; clear HBN
            revert hn_l_t; revert hl_t; revert hx_t; revert hl_l; revert hx_l; revert HRO; revert HRR; revert b_t; revert b_l; revert cv2; revert pv2; revert cm2; revert pm2; revert HB; revert WN; exact key18.out
          · intro K hK
            go_simp; refine kz hK (by exact HSB.out _ (HB.alloc HB.size _)) ?_; clear hK K; (try simp only [Act.put, ptL]); refine wpAnyH_gen (fun WN hWn => ?_); have hbn : Below W.heap.size W WN := by rw [hWn]; exact below_alloc1 _ _
            have hx_s : WN.heap[W.heap.size]? = some (.cells #[.int .i64 0, .int .i64 0] 36) := by rw [hWn]; exact alloc_new _ _
            have hl_s : wn.heap.size ≤ W.heap.size := HB.size; have hn_l_s : b_l ≠ W.heap.size := by have := block_lt hx_l; omega
            have hn_s_t : W.heap.size ≠ b_t := by have := block_lt hx_t; omega
            have HBN : Below wn.heap.size wn WN := HB.trans (hbn.mono HB.size); replace HRR := Lib.hid (HRR.out.below hbn); replace hx_l := (hbn.block _ (block_lt hx_l)).trans hx_l; replace hx_t := (hbn.block _ (block_lt hx_t)).trans hx_t; clear hbn HB hWn; obtain ⟨b_s, hb_s⟩ : ∃ b, W.heap.size = b := ⟨_, rfl⟩; rw [hb_s] at hx_s hl_s hn_l_s hn_s_t ⊢; clear hb_s; refine nrm (bts 19 49631) ?_; have HB := HBN; clear HBN
            revert hn_s_t; revert hn_l_t; revert hn_l_s; revert hl_t; revert hx_t; revert hl_s; revert hx_s; revert hl_l; revert hx_l; revert HRR; revert b_t; revert b_s; revert b_l; revert cm2; revert pm2; revert HB; revert WN; exact key19.out
        rotate_right
        · intro W HB pm2 cm2 b_s b_t HRR hx_s hl_s hx_t hl_t hn_s_t
          refine rz1 4 rfl ?_
          · intro K hK
            go_simp; refine kz hK (by exact HSB.out _ (HB.alloc HB.size _)) ?_; clear hK K; (try simp only [Act.put, ptL]); refine wpAnyH_gen (fun WN hWn => ?_); have hbn : Below W.heap.size W WN := by rw [hWn]; exact below_alloc1 _ _
            have hx_l : WN.heap[W.heap.size]? = some (.cells #[.int .i64 300] 3) := by rw [hWn]; exact alloc_new _ _
            have hl_l : wn.heap.size ≤ W.heap.size := HB.size; have hn_l_s : W.heap.size ≠ b_s := by have := block_lt hx_s; omega
            have hn_l_t : W.heap.size ≠ b_t := by have := block_lt hx_t; omega
            have HBN : Below wn.heap.size wn WN := HB.trans (hbn.mono HB.size); replace HRR := Lib.hid (HRR.out.below hbn); replace hx_s := (hbn.block _ (block_lt hx_s)).trans hx_s; replace hx_t := (hbn.block _ (block_lt hx_t)).trans hx_t; clear hbn HB hWn; obtain ⟨b_l, hb_l⟩ : ∃ b, W.heap.size = b := ⟨_, rfl⟩; rw [hb_l] at hx_l hl_l hn_l_s hn_l_t ⊢; clear hb_l; refine nrm (bts 19 49631) ?_; have HB := HBN; clear HBN
            revert hn_s_t; revert hn_l_t; revert hn_l_s; revert hl_t; revert hx_t; revert hl_s; revert hx_s; revert hl_l; revert hx_l; revert HRR; revert b_t; revert b_s; revert b_l; revert cm2; revert pm2; revert HB; revert WN; exact key19.out
        rotate_right
        · intro W HB b_l b_s b_t hx_l hl_l hx_s hl_s hx_t hl_t hn_l_s hn_l_t hn_s_t
          refine rz1 3 rfl ?_
          · intro K hK
            go_simp; refine (HRN.out qs cs ql cl W (HS.out.below HB) (HL.out.below HB)).mono ?_; rintro e WN ⟨pm2, cm2, rfl, hrr, hbn⟩; have HRR := Lib.hid hrr; clear hrr; have HBN : Below wn.heap.size wn WN := HB.trans (hbn.mono HB.size); replace hx_l := (hbn.block _ (block_lt hx_l)).trans hx_l; replace hx_s := (hbn.block _ (block_lt hx_s)).trans hx_s; replace hx_t := (hbn.block _ (block_lt hx_t)).trans hx_t; clear hbn HB; refine kz hK (by exact HSB.out _ HBN) ?_; clear hK K; (try simp only [Act.put, ptL]); refine nrm (bts 19 49631) ?_; have HB := HBN; clear HBN
            revert hn_s_t; revert hn_l_t; revert hn_l_s; revert hl_t; revert hx_t; revert hl_s; revert hx_s; revert hl_l; revert hx_l; revert HRR; revert b_t; revert b_s; revert b_l; revert cm2; revert pm2; revert HB; revert WN; exact key19.out
        rotate_right
        · intro W HB pm2 cm2 pv2 cv2 b_l HRR HRO hx_l hl_l
          refine rz2 14 15 rfl rfl ?_ ?_
          · intro K hK
            go_simp; refine kz hK (by exact HSB.out _ (HB.alloc HB.size _)) ?_; clear hK K; (try simp only [Act.put, ptL]); refine wpAnyH_gen (fun WN hWn => ?_); have hbn : Below W.heap.size W WN := by rw [hWn]; exact below_alloc1 _ _
            have hx_s : WN.heap[W.heap.size]? = some (.cells #[.int .i64 0, .int .i64 0] 36) := by rw [hWn]; exact alloc_new _ _
            have hl_s : wn.heap.size ≤ W.heap.size := HB.size; have hn_l_s : b_l ≠ W.heap.size := by have := block_lt hx_l; omega
            have HBN : Below wn.heap.size wn WN := HB.trans (hbn.mono HB.size); replace HRR := Lib.hid (HRR.out.below hbn); replace HRO := Lib.hid (HRO.out.below hbn); replace hx_l := (hbn.block _ (block_lt hx_l)).trans hx_l; clear hbn HB hWn; obtain ⟨b_s, hb_s⟩ : ∃ b, W.heap.size = b := ⟨_, rfl⟩; rw [hb_s] at hx_s hl_s hn_l_s ⊢; clear hb_s; refine nrm (bts 19 32767) ?_; have HB := HBN; clear HBN
            revert hn_l_s; revert hl_s; revert hx_s; revert hl_l; revert hx_l; revert HRO; revert HRR; revert b_s; revert b_l; revert cv2; revert pv2; revert cm2; revert pm2; revert HB; revert WN; exact key20.out
          · intro K hK
            go_simp; refine kz hK (by exact HSB.out _ (HB.alloc HB.size _)) ?_; clear hK K; (try simp only [Act.put, ptL]); refine wpAnyH_gen (fun WN hWn => ?_); have hbn : Below W.heap.size W WN := by rw [hWn]; exact below_alloc1 _ _
            have hx_t : WN.heap[W.heap.size]? = some (.cells #[.int .i64 0, .int .i64 0] 36) := by rw [hWn]; exact alloc_new _ _
            have hl_t : wn.heap.size ≤ W.heap.size := HB.size; have hn_l_t : b_l ≠ W.heap.size := by have := block_lt hx_l; omega
            have HBN : Below wn.heap.size wn WN := HB.trans (hbn.mono HB.size); replace HRR := Lib.hid (HRR.out.below hbn); replace HRO := Lib.hid (HRO.out.below hbn); replace hx_l := (hbn.block _ (block_lt hx_l)).trans hx_l; clear hbn HB hWn; obtain ⟨b_t, hb_t⟩ : ∃ b, W.heap.size = b := ⟨_, rfl⟩; rw [hb_t] at hx_t hl_t hn_l_t ⊢; clear hb_t; refine nrm (bts 19 49151) ?_; have HB := HBN; clear HBN
            revert hn_l_t; revert hl_t; revert hx_t; revert hl_l; revert hx_l; revert HRO; revert HRR; revert b_t; revert b_l; revert cv2; revert pv2; revert cm2; revert pm2; revert HB; revert WN; exact key21.out
        rotate_right
        · intro W HB pm2 cm2 pv2 cv2 b_l b_s HRR HRO hx_l hl_l hx_s hl_s hn_l_s
          refine rz2 9 15 rfl rfl ?_ ?_
          · intro K hK
            go_simp; refine (HLX.out pm2 pv2 cm2 cv2 W HRO.out).mono ?_; rintro e WN ⟨rfl, hbn⟩; have HBN : Below wn.heap.size wn WN := HB.trans (hbn.mono HB.size); replace HRR := Lib.hid (HRR.out.below hbn); replace HRO := Lib.hid (HRO.out.below hbn); replace hx_l := (hbn.block _ (block_lt hx_l)).trans hx_l; replace hx_s := (hbn.block _ (block_lt hx_s)).trans hx_s; clear hbn HB; refine kz hK (by exact HSB.out _ HBN) ?_; clear hK K; (try simp only [Act.put, ptL]); refine tk 10 rfl (by exact HSB.out _ HBN) ?_; (try simp only [Act.put, ptL]); refine tk 11 rfl (by exact HSB.out _ HBN) ?_; (try simp only [Act.put, ptL]); refine tk 12 rfl (by exact HSB.out _ HBN) ?_; (try simp only [Act.put, ptL]); refine tk 13 rfl (by exact HSB.out _ HBN) ?_; (try simp only [Act.put, ptL]); refine nrm (bts 19 32767) ?_; have HB := HBN; clear HBN
            revert hn_l_s; revert hl_s; revert hx_s; revert hl_l; revert hx_l; revert HRO; revert HRR; revert b_s; revert b_l; revert cv2; revert pv2; revert cm2; revert pm2; revert HB; revert WN; exact key20.out
          · intro K hK
            go_simp; refine kz hK (by exact HSB.out _ (HB.alloc HB.size _)) ?_; clear hK K; (try simp only [Act.put, ptL]); refine wpAnyH_gen (fun WN hWn => ?_); have hbn : Below W.heap.size W WN := by rw [hWn]; exact below_alloc1 _ _
            have hx_t : WN.heap[W.heap.size]? = some (.cells #[.int .i64 0, .int .i64 0] 36) := by rw [hWn]; exact alloc_new _ _
            have hl_t : wn.heap.size ≤ W.heap.size := HB.size; have hn_l_t : b_l ≠ W.heap.size := by have := block_lt hx_l; omega
            have hn_s_t : b_s ≠ W.heap.size := by have := block_lt hx_s; omega
            have HBN : Below wn.heap.size wn WN := HB.trans (hbn.mono HB.size); replace HRR := Lib.hid (HRR.out.below hbn); replace HRO := Lib.hid (HRO.out.below hbn); replace hx_l := (hbn.block _ (block_lt hx_l)).trans hx_l; replace hx_s := (hbn.block _ (block_lt hx_s)).trans hx_s; clear hbn HB hWn; obtain ⟨b_t, hb_t⟩ : ∃ b, W.heap.size = b := ⟨_, rfl⟩; rw [hb_t] at hx_t hl_t hn_l_t hn_s_t ⊢; clear hb_t; refine nrm (bts 19 49663) ?_; have HB := HBN; clear HBN
            revert hn_s_t; revert hn_l_t; revert hn_l_s; revert hl_t; revert hx_t; revert hl_s; revert hx_s; revert hl_l; revert hx_l; revert HRO; revert HRR; revert b_t; revert b_s; revert b_l; revert cv2; revert pv2; revert cm2; revert pm2; revert HB; revert WN; exact key22.out
        rotate_right
        · intro W HB pm2 cm2 pv2 cv2 b_l b_t HRR HRO hx_l hl_l hx_t hl_t hn_l_t
          refine rz2 9 14 rfl rfl ?_ ?_
          · intro K hK
            go_simp; refine (HLX.out pm2 pv2 cm2 cv2 W HRO.out).mono ?_; rintro e WN ⟨rfl, hbn⟩; have HBN : Below wn.heap.size wn WN := HB.trans (hbn.mono HB.size); replace HRR := Lib.hid (HRR.out.below hbn); replace HRO := Lib.hid (HRO.out.below hbn); replace hx_l := (hbn.block _ (block_lt hx_l)).trans hx_l; replace hx_t := (hbn.block _ (block_lt hx_t)).trans hx_t; clear hbn HB; refine kz hK (by exact HSB.out _ HBN) ?_; clear hK K; (try simp only [Act.put, ptL]); refine tk 10 rfl (by exact HSB.out _ HBN) ?_; (try simp only [Act.put, ptL]); refine tk 11 rfl (by exact HSB.out _ HBN) ?_; (try simp only [Act.put, ptL]); refine tk 12 rfl (by exact HSB.out _ HBN) ?_; (try simp only [Act.put, ptL]); refine tk 13 rfl (by exact HSB.out _ HBN) ?_; (try simp only [Act.put, ptL]); refine nrm (bts 19 49151) ?_; have HB := HBN; clear HBN
            revert hn_l_t; revert hl_t; revert hx_t; revert hl_l; revert hx_l; revert HRO; revert HRR; revert b_t; revert b_l; revert cv2; revert pv2; revert cm2; revert pm2; revert HB; revert WN; exact key21.out
          · intro K hK
            go_simp; refine kz hK (by exact HSB.out _ (HB.alloc HB.size _)) ?_; clear hK K; (try simp only [Act.put, ptL]); refine wpAnyH_gen (fun WN hWn => ?_); have hbn : Below W.heap.size W WN := by rw [hWn]; exact below_alloc1 _ _
            have hx_s : WN.heap[W.heap.size]? = some (.cells #[.int .i64 0, .int .i64 0] 36) := by rw [hWn]; exact alloc_new _ _
            have hl_s : wn.heap.size ≤ W.heap.size := HB.size; have hn_l_s : b_l ≠ W.heap.size := by have := block_lt hx_l; omega
            have hn_s_t : W.heap.size ≠ b_t := by have := block_lt hx_t; omega
            have HBN : Below wn.heap.size wn WN := HB.trans (hbn.mono HB.size); replace HRR := Lib.hid (HRR.out.below hbn); replace HRO := Lib.hid (HRO.out.below hbn); replace hx_l := (hbn.block _ (block_lt hx_l)).trans hx_l; replace hx_t := (hbn.block _ (block_lt hx_t)).trans hx_t; clear hbn HB hWn; obtain ⟨b_s, hb_s⟩ : ∃ b, W.heap.size = b := ⟨_, rfl⟩; rw [hb_s] at hx_s hl_s hn_l_s hn_s_t ⊢; clear hb_s; refine nrm (bts 19 49663) ?_; have HB := HBN; clear HBN
            revert hn_s_t; revert hn_l_t; revert hn_l_s; revert hl_t; revert hx_t; revert hl_s; revert hx_s; revert hl_l; revert hx_l; revert HRO; revert HRR; revert b_t; revert b_s; revert b_l; revert cv2; revert pv2; revert cm2; revert pm2; revert HB; revert WN; exact key22.out
        rotate_right
        · intro W HB pm2 cm2 b_l b_s b_t HRR hx_l hl_l hx_s hl_s hx_t hl_t hn_l_s hn_l_t hn_s_t
          refine rz1 5 rfl ?_
          · intro K hK
            go_simp; refine (HON.out pm2 cm2 b_l W HRR.out (cells1 hx_l)).mono ?_; rintro e WN ⟨pv2, cv2, rfl, hro, hbn⟩; have HRO := Lib.hid hro; clear hro; have HBN : Below wn.heap.size wn WN := HB.trans (hbn.mono HB.size); replace HRR := Lib.hid (HRR.out.below hbn); replace hx_l := (hbn.block _ (block_lt hx_l)).trans hx_l; replace hx_s := (hbn.block _ (block_lt hx_s)).trans hx_s; replace hx_t := (hbn.block _ (block_lt hx_t)).trans hx_t; clear hbn HB; refine kz hK (by exact HSB.out _ HBN) ?_; clear hK K; (try simp only [Act.put, ptL]); refine nrm (bts 19 49663) ?_; have HB := HBN; clear HBN
            revert hn_s_t; revert hn_l_t; revert hn_l_s; revert hl_t; revert hx_t; revert hl_s; revert hx_s; revert hl_l; revert hx_l; revert HRO; revert HRR; revert b_t; revert b_s; revert b_l; revert cv2; revert pv2; revert cm2; revert pm2; revert HB; revert WN; exact key22.out
        rotate_right
        · intro W HB pm2 cm2 pv2 cv2 b_l b_s HRR HRO hx_l hl_l hx_s hl_s hn_l_s
          refine rz1 15 rfl ?_
          · intro K hK
            go_simp; refine kz hK (by exact HSB.out _ (HB.alloc HB.size _)) ?_; clear hK K; (try simp only [Act.put, ptL]); refine wpAnyH_gen (fun WN hWn => ?_); have hbn : Below W.heap.size W WN := by rw [hWn]; exact below_alloc1 _ _
            have hx_t : WN.heap[W.heap.size]? = some (.cells #[.int .i64 0, .int .i64 0] 36) := by rw [hWn]; exact alloc_new _ _
            have hl_t : wn.heap.size ≤ W.heap.size := HB.size; have hn_l_t : b_l ≠ W.heap.size := by have := block_lt hx_l; omega
            have hn_s_t : b_s ≠ W.heap.size := by have := block_lt hx_s; omega
            have HBN : Below wn.heap.size wn WN := HB.trans (hbn.mono HB.size); replace HRR := Lib.hid (HRR.out.below hbn); replace HRO := Lib.hid (HRO.out.below hbn); replace hx_l := (hbn.block _ (block_lt hx_l)).trans hx_l; replace hx_s := (hbn.block _ (block_lt hx_s)).trans hx_s; clear hbn HB hWn; obtain ⟨b_t, hb_t⟩ : ∃ b, W.heap.size = b := ⟨_, rfl⟩; rw [hb_t] at hx_t hl_t hn_l_t hn_s_t ⊢; clear hb_t; refine nrm (bts 19 65535) ?_; have HB := HBN; clear HBN
            revert hn_s_t; revert hn_l_t; revert hn_l_s; revert hl_t; revert hx_t; revert hl_s; revert hx_s; revert hl_l; revert hx_l; revert HRO; revert HRR; revert b_t; revert b_s; revert b_l; revert cv2; revert pv2; revert cm2; revert pm2; revert HB; revert WN; exact key23.out
        rotate_right
        · intro W HB pm2 cm2 pv2 cv2 b_l b_t HRR HRO hx_l hl_l hx_t hl_t hn_l_t
          refine rz1 14 rfl ?_
          · intro K hK
            go_simp; refine kz hK (by exact HSB.out _ (HB.alloc HB.size _)) ?_; clear hK K; (try simp only [Act.put, ptL]); refine wpAnyH_gen (fun WN hWn => ?_); have hbn : Below W.heap.size W WN := by rw [hWn]; exact below_alloc1 _ _
            have hx_s : WN.heap[W.heap.size]? = some (.cells #[.int .i64 0, .int .i64 0] 36) := by rw [hWn]; exact alloc_new _ _
            have hl_s : wn.heap.size ≤ W.heap.size := HB.size; have hn_l_s : b_l ≠ W.heap.size := by have := block_lt hx_l; omega
            have hn_s_t : W.heap.size ≠ b_t := by have := block_lt hx_t; omega
            have HBN : Below wn.heap.size wn WN := HB.trans (hbn.mono HB.size); replace HRR := Lib.hid (HRR.out.below hbn); replace HRO := Lib.hid (HRO.out.below hbn); replace hx_l := (hbn.block _ (block_lt hx_l)).trans hx_l; replace hx_t := (hbn.block _ (block_lt hx_t)).trans hx_t; clear hbn HB hWn; obtain ⟨b_s, hb_s⟩ : ∃ b, W.heap.size = b := ⟨_, rfl⟩; rw [hb_s] at hx_s hl_s hn_l_s hn_s_t ⊢; clear hb_s; refine nrm (bts 19 65535) ?_; have HB := HBN; clear HBN
            revert hn_s_t; revert hn_l_t; revert hn_l_s; revert hl_t; revert hx_t; revert hl_s; revert hx_s; revert hl_l; revert hx_l; revert HRO; revert HRR; revert b_t; revert b_s; revert b_l; revert cv2; revert pv2; revert cm2; revert pm2; revert HB; revert WN; exact key23.out
        rotate_right
        · intro W HB pm2 cm2 pv2 cv2 b_l b_s b_t HRR HRO hx_l hl_l hx_s hl_s hx_t hl_t hn_l_s hn_l_t hn_s_t
          refine rz1 9 rfl ?_
          · intro K hK
            go_simp; refine (HLX.out pm2 pv2 cm2 cv2 W HRO.out).mono ?_; rintro e WN ⟨rfl, hbn⟩; have HBN : Below wn.heap.size wn WN := HB.trans (hbn.mono HB.size); replace HRR := Lib.hid (HRR.out.below hbn); replace HRO := Lib.hid (HRO.out.below hbn); replace hx_l := (hbn.block _ (block_lt hx_l)).trans hx_l; replace hx_s := (hbn.block _ (block_lt hx_s)).trans hx_s; replace hx_t := (hbn.block _ (block_lt hx_t)).trans hx_t; clear hbn HB; refine kz hK (by exact HSB.out _ HBN) ?_; clear hK K; (try simp only [Act.put, ptL]); refine tk 10 rfl (by exact HSB.out _ HBN) ?_; (try simp only [Act.put, ptL]); refine tk 11 rfl (by exact HSB.out _ HBN) ?_; (try simp only [Act.put, ptL]); refine tk 12 rfl (by exact HSB.out _ HBN) ?_; (try simp only [Act.put, ptL]); refine tk 13 rfl (by exact HSB.out _ HBN) ?_; (try simp only [Act.put, ptL]); refine nrm (bts 19 65535) ?_; have HB := HBN; clear HBN
            revert hn_s_t; revert hn_l_t; revert hn_l_s; revert hl_t; revert hx_t; revert hl_s; revert hx_s; revert hl_l; revert hx_l; revert HRO; revert HRR; revert b_t; revert b_s; revert b_l; revert cv2; revert pv2; revert cm2; revert pm2; revert HB; revert WN; exact key23.out
        rotate_right
        · intro W HB pm2 cm2 pv2 cv2 b_l b_s b_t HRR HRO hx_l hl_l hx_s hl_s hx_t hl_t hn_l_s hn_l_t hn_s_t
          refine rz1 16 rfl ?_; intro K hK; refine set2K W b_s 36 _ _ (.int .i64 0) (.int .i64 0) hx_s (fun wa WN sa sb ca0 fa0 ca1 fa1 hx4 hxk HZs hxb => ?_); have HBN : Below wn.heap.size wn WN := hxb wn wn.heap.size hl_s HB; have hx_t := (hxk b_t (by first | exact hn_s_t | exact Ne.symm hn_s_t)).trans hx_t; have hx_s := hx4; clear hx4 hxk hxb HZs; go_simp; refine kz hK (by exact HSB.out _ HBN) ?_; clear hK K; (try simp only [Act.put, ptL]); clear sa sb ca0 fa0 ca1 fa1 HB; have HB := HBN; clear HBN; have HBX := HB; clear HB; refine rz1 17 rfl ?_; intro K hK; refine set2K WN b_t 36 _ _ (.int .i64 BA) (.int .i64 BB) hx_t (fun wa WM sa sb ca0 fa0 ca1 fa1 hx4 hxk HZs hxb => ?_); have HBN : Below wn.heap.size wn WM := hxb wn wn.heap.size hl_t HBX; have hx_s := (hxk b_s (by first | exact hn_s_t | exact Ne.symm hn_s_t)).trans hx_s; have hx_t := hx4; clear hx4 hxk hxb HZs; go_simp; refine kz hK (by exact HSB.out _ HBN) ?_
          clear hK K; (try simp only [Act.put, ptL]); clear sa sb ca0 fa0 ca1 fa1 HBX; have HB := HBN; clear HBN
          
          refine tk 18 rfl (by exact HSB.out _ HB) ?_; (try simp only [Act.put, ptL]); refine wpAnyH_done (by kernel_rfl) ?_ _; obtain ⟨s0, s1⟩ := cells2 hx_s; obtain ⟨u0, u1⟩ := cells2 hx_t; have HBZ := HB; clear HB; have HB := Lib.hid (HBO.out.trans (HBZ.mono HBO.out.size)); clear HSB HBZ HBO hx_s hx_t hx_l hl_s hl_t hl_l hn_s_t HRR HRO
          (go_wp2_with fail); refine (c_known m _ (HM.out.below HB.out) (HI.out.below HB.out)).mono ?_; rintro e wn ⟨rfl, bq⟩; have HFK := Lib.hid (HB.out.trans (bq.mono HB.out.size)); clear bq; go_wp2; go_ret; exact ⟨rfl, HFK.out⟩
end Go.Proofs.YtlednchfifphgabGreatDoor
end

section
namespace Go.Proofs.YtlednchfifphgabGreatDoor
open Go Go.ChangeShapes Go.WideShapes Go.ChangeAt Go.RowKit Go.Proofs
set_option linter.unusedVariables false

set_option maxRecDepth 100000 in
theorem slackCheaper_lifted (os : Os) (started : os.Started) (H : Type) (enc : TypeId × Value → H) :
    ReturnsInHanded {} Tryz.checked os 10 .any (fun w args => (Rows.slackCheaperSpec.pre enc Tryz.prog Tryz.f10 [] false w args ∧ laidMetH Tryz.prog lay5 w) ∧ sizedMet enc Tryz.prog Tryz.f10 (OpenSpec.ofChange Rows.slackCheaperSpec) false w args)
      (Rows.slackCheaperSpec.post enc Tryz.prog Tryz.f10 false true false false) := by
  refine returns_listed (C := Tryz.checked) (X := fun w _ => laidMetH Tryz.prog lay5 w) (fun _ _ _ hh h => h.of_heap hh) ownT started (by kernel_rfl) Tryz.func10
    (ChangeSpec.witness_shaped (enc := enc) (C := Tryz.checked) (os := os) (X := fun w _ => laidMetH Tryz.prog lay5 w) false (World.laidAll Tryz.prog os lay5) #[.agg #[.slice none 0 0, .slice none 0 0, .slice none 0 0], .slice none 0 0, .int .i64 0, .slice none 0 0, .slice none 0 0] 12 (World.laidAll_os _ _ _)
      (World.shaped_of_ZipB (by kernel_rfl) (by kernel_rfl)) (by kernel_rfl) (by kernel_rfl) (by kernel_rfl)
      (by rw [MakeChecks.laidMetH_plain _ _ _ (by kernel_rfl)]; exact laidMet_laidAll _ (by kernel_rfl) (by kernel_rfl))) ?_
  intro W base args ds gs before hval0 hW hX hSh; have hval : ∀ (j : Nat) t v, Tryz.f10.params[j]? = some t → args[j]? = some v → Value.okWide Tryz.prog W .any base t v := hval0; have hW' := hW; obtain ⟨p, q, hA0, hV, rfl, _, _⟩ := hW; have hA : DataW.TrodAll enc Tryz.prog W 0 (fun _ => true) true Tryz.f10.params.toList args.toList ds p := hA0; rw [Tryz.params10] at hA hval; obtain ⟨v0, vs0, d0, ds0, p0, q0, hargs, rfl, rfl, h0, r0⟩ := trodAll_cons hA; obtain ⟨v1, vs1, d1, ds1, p1, q1, rfl, rfl, rfl, h1, r1⟩ := trodAll_cons r0; obtain ⟨v2, vs2, d2, ds2, p2, q2, rfl, rfl, rfl, h2, r2⟩ := trodAll_cons r1; obtain ⟨v3, vs3, d3, ds3, p3, q3, rfl, rfl, rfl, h3, r3⟩ := trodAll_cons r2; obtain ⟨v4, vs4, d4, ds4, p4, q4, rfl, rfl, rfl, h4, r4⟩ := trodAll_cons r3; obtain ⟨rfl, rfl, rfl⟩ := trodAll_nil r4; obtain rfl : args = #[v0, v1, v2, v3, v4] := by cases args; simp_all
  obtain ⟨rfl, rfl⟩ := trodVars_none hV; obtain ⟨pm0, pv0, pr0, cm0, cv0, cr0, p0, rfl, rd0⟩ := op_piece (hval 0 26 v0 rfl rfl) h0; obtain ⟨b1, c1, xs1, rfl, rd1, hl1⟩ := op_ints (hval 1 23 v1 rfl rfl) h1; obtain ⟨a2, rfl, la2, ua2⟩ := op_int (hval 2 3 v2 rfl rfl) h2; obtain ⟨b3, c3, xs3, rfl, rd3, hl3⟩ := op_ints (hval 3 23 v3 rfl rfl) h3; obtain ⟨b4, c4, xs4, rfl, rd4, hl4⟩ := op_ints (hval 4 23 v4 rfl rfl) h4; clear hA0 hval0; obtain ⟨m, hm⟩ := maxLen_of hSh; have hit := itoaG_of (pow10_of hX); refine (law_Cheaper pm0 pv0 pr0 cm0 cv0 cr0 p0 b1 c1 xs1 a2 b3 c3 xs3 b4 c4 xs4 m W rd0 rd1 rd3 rd4 hm hit).mono fun e W' ⟨he, bel⟩ => ?_
  subst he; exact ⟨_, rfl, _, _, _, [], _, [], hW', trodAll_mk1 (shut_bool Tryz.underlying4 _), (trodAll_cons_mk (Below.trod laidOutT (by kernel_rfl) (of_decide_eq_true (by kernel_rfl)) h0 bel (trod_lt h0)) (trodAll_cons_mk (Below.trod laidOutT (by kernel_rfl) (of_decide_eq_true (by kernel_rfl)) h1 bel (trod_lt h1)) (trodAll_cons_mk (Below.trod laidOutT (by kernel_rfl) (of_decide_eq_true (by kernel_rfl)) h2 bel (trod_lt h2)) (trodAll_cons_mk (Below.trod laidOutT (by kernel_rfl) (of_decide_eq_true (by kernel_rfl)) h3 bel (trod_lt h3)) (trodAll_cons_mk (Below.trod laidOutT (by kernel_rfl) (of_decide_eq_true (by kernel_rfl)) h4 bel (trod_lt h4)) trodAll_mk0))))), rfl, bel.frame _, fun h => by cases h⟩
theorem slackCheaper_wf : Rows.slackCheaperRow.wf (OpenSpec.ofChange Rows.slackCheaperSpec) = true := by kernel_rfl
theorem slackCheaper_inPlace : (Rows.slackCheaperRow.inPlace == Tryz.prog.inPlace 10) = true := by kernel_rfl
theorem slackCheaper_unfollowed : (Rows.slackCheaperRow.unfollowed == Tryz.prog.unfollowed 10) = true := by kernel_rfl
theorem slackCheaper_recurses : (Rows.slackCheaperRow.recurses == Tryz.prog.recurses 10) = true := by kernel_rfl
theorem slackCheaper_named : (Rows.slackCheaperRow.named == Tryz.prog.varsNamed 10) = true := by kernel_rfl
theorem slackCheaper_goes : false = Rows.slackCheaperRow.goesBy Tryz.prog := by kernel_rfl
theorem slackCheaper_func : Tryz.prog.funcNamed Rows.slackCheaperRow.func = some 10 := by kernel_rfl
theorem slackCheaper_text : Rows.slackCheaperRow.wfByText (OpenSpec.ofChange Rows.slackCheaperSpec) = true := by kernel_rfl
theorem slackCheaper_closed : joinedFacts Tryz.prog 10 Tryz.f10 Rows.slackCheaperSpec Rows.slackCheaperRow = true :=
  (and_t (and_t (and_t (and_t (and_t (and_t (and_t (and_t (and_t (and_t (and_t (and_t (and_t (and_t (and_t (and_t (and_t (and_t (and_t (and_t (and_t (and_t (and_t (and_t (and_t (and_t (and_t (and_t (and_t (and_t (and_t slackCheaper_wf tLaidOut) tMaps) (by kernel_rfl)) (by kernel_rfl)) (by kernel_rfl)) (by kernel_rfl)) (by kernel_rfl)) (by kernel_rfl)) slackCheaper_inPlace) slackCheaper_unfollowed) slackCheaper_recurses) slackCheaper_named) (by kernel_rfl)) (by kernel_rfl)) (by kernel_rfl)) (by kernel_rfl)) (by kernel_rfl)) (by kernel_rfl)) (by kernel_rfl)) (by kernel_rfl)) (by kernel_rfl)) (by kernel_rfl)) (by kernel_rfl)) tHeard) tMayEnter) (eq_t (α := Bool) tFinal.symm)) (eq_t tMake)) (by kernel_rfl)) (by kernel_rfl)) (by kernel_rfl)) (by kernel_rfl))
theorem slackCheaper_wrap : Func.isWrapper Tryz.prog Tryz.f10 Rows.slackCheaperRow.wrapper Rows.slackCheaperRow.mainSum := by unfold Func.isWrapper; rw [if_neg (of_decide_eq_false (by kernel_rfl))]; exact ⟨rfl, rfl⟩
theorem slackCheaper_row : Rows.SlackCheaperSaid :=
  OpenClaim.holds_of_wide 10 Tryz.f10 rfl rfl rfl rfl rfl rfl rfl ⟨rfl, rfl, rfl, rfl, rfl⟩ rfl rfl rfl rfl rfl slackCheaper_func Tryz.func10 slackCheaper_closed (of_decide_eq_true (by kernel_rfl)) slackCheaper_wrap (fun os started H enc _ => slackCheaper_lifted os started H enc)
theorem slackCheaper_plain : ∀ (j : Nat) t, Tryz.f10.params[j]? = some t → Tryz.prog.wantsStandIn t = false := fun j t ht => by
  rw [Tryz.params10] at ht; have hm : t ∈ [26, 23, 3, 23, 23] := by simpa using Array.mem_of_getElem? ht
  have hall : ([26, 23, 3, 23, 23].all fun u => !Tryz.prog.wantsStandIn u) = true := by kernel_rfl
  exact (show Tryz.prog.wantsStandIn t = false by simpa using List.all_eq_true.1 hall t hm)
theorem slackCheaper_holds : Rows.SlackCheaperCardSaid :=
  Claim7.holds_tied_plain_at .later [] [.data, .data, .data, .data, .pinned] true (true, "be822bbd39a17464ee6526ca2e9d32d2a3a9815fece3866167cb0f3f46fef96e") true slackCheaper_row (fun _ h => by cases h) slackCheaper_text (fun _ h => by cases h) slackCheaper_row_tie rfl ⟨rfl, rfl⟩ tMainIs rfl
    (fun f fn hf hfn => by
      obtain rfl : f = 10 := Option.some.inj (slackCheaper_func.symm.trans hf) |>.symm
      obtain rfl : fn = Tryz.f10 := (Option.some.inj (Tryz.func10.symm.trans hfn)).symm; exact ⟨tLooks, slackCheaper_plain⟩)
    slackCheaper_goes
#print axioms slackCheaper_holds
end Go.Proofs.YtlednchfifphgabGreatDoor
end
