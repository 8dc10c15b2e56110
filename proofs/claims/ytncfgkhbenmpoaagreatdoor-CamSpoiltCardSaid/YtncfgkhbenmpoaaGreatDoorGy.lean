/-
  Lines of a text, plain: two texts that differ in one byte, no line's end, differ in one line alone.
  Checks, plain: a book of which one digit is changed is no book.
  Parts of a text between single bytes, plain.
  Books, small shown answers: how many cams and how long; whether two books are the same.
  Books: whether two books of cams are the same (the walk).
  A number's decimal text by the document (the walk).
  A row's numbers by the document (the walk).
  A book's cams by the document (the walk).
  A number read back by the document (the walk).
  Numbers read back, plain: number answers n just for the text of n.
  Reading a book, plain: both ways of reading answer the only rule and cams whose book the text is.
-/
import Derived.Lib.Join
import Derived.Test.YtncfgkhbenmpoaaGreatDoorGh
import Derived.Lib.SplitLaws
import Derived.Lib.IndexBytes
import Derived.Test.YtncfgkhbenmpoaaGreatDoorGl
import Derived.Test.YtncfgkhbenmpoaaGreatDoorGc
import Derived.Laws.IdiomStrings
section
namespace Go.Proofs.YtncfgkhbenmpoaaGreatDoor
open Go
set_option linter.unusedVariables false

/-- lines, each with its end -/
def flat : List (List UInt8) → List UInt8
  | [] => []
  | l :: r => l ++ 10 :: flat r
theorem join_flat (x : List UInt8) (r : List (List UInt8)) : Lib.join (x :: r) [10] ++ [10] = flat (x :: r) := by
  induction r generalizing x with
  | nil => rw [Lib.join_one]; rfl
  | cons y r ih =>
    have := ih y
    rw [Lib.join_cons] at this ⊢
    simp only [flat, Lib.joinTail, List.map_cons, List.flatten_cons, List.append_assoc] at this ⊢
    rw [this]; simp
def NoEnd (L : List (List UInt8)) : Prop := ∀ l ∈ L, ∀ b ∈ l, b ≠ 10
theorem NoEnd.tail {l : List UInt8} {r : List (List UInt8)} (h : NoEnd (l :: r)) : NoEnd r := fun x hx => h x (List.mem_cons_of_mem _ hx)
theorem NoEnd.head {l : List UInt8} {r : List (List UInt8)} (h : NoEnd (l :: r)) : ∀ b ∈ l, b ≠ 10 := h l List.mem_cons_self
theorem flat_at {l : List UInt8} {s : List UInt8} : (l ++ 10 :: s)[l.length]? = some 10 := by simp
theorem flat_lt {l s : List UInt8} {j : Nat} (h : j < l.length) : (l ++ 10 :: s)[j]? = l[j]? := List.getElem?_append_left h
theorem flat_gt {l s : List UInt8} (j : Nat) : (l ++ 10 :: s)[l.length + 1 + j]? = s[j]? := by
  rw [List.getElem?_append_right (by omega), show l.length + 1 + j - l.length = j + 1 by omega, List.getElem?_cons_succ]
theorem get_ne {l : List UInt8} (h : ∀ b ∈ l, b ≠ 10) {j : Nat} : l[j]? ≠ some 10 := fun e => h 10 (List.mem_of_getElem? e) rfl
theorem len_same {l l' s s' : List UInt8} (h : ∀ b ∈ l, b ≠ 10) (h' : ∀ b ∈ l', b ≠ 10) (a1 : (l ++ 10 :: s)[l.length]? = (l' ++ 10 :: s')[l.length]?) (a2 : (l ++ 10 :: s)[l'.length]? = (l' ++ 10 :: s')[l'.length]?) : l.length = l'.length := by
  rcases Nat.lt_trichotomy l.length l'.length with h1 | h1 | h1
  · rw [flat_at, flat_lt h1] at a1
    exact absurd a1.symm (get_ne h')
  · exact h1
  · rw [flat_at, flat_lt h1] at a2
    exact absurd a2 (get_ne h)
theorem flat_inj : ∀ (L L' : List (List UInt8)), NoEnd L → NoEnd L' → flat L = flat L' → L = L' := by
  intro L
  induction L with
  | nil =>
    intro L' _ _ h
    cases L' with
    | nil => rfl
    | cons l' r' => simp [flat] at h
  | cons l r ih =>
    intro L' hn hn' h
    cases L' with
    | nil => simp [flat] at h
    | cons l' r' =>
      simp only [flat] at h
      have hl := len_same hn.head hn'.head (by rw [h]) (by rw [h])
      obtain ⟨e1, e2⟩ := List.append_inj h hl
      rw [e1, ih r' hn.tail hn'.tail (by simpa using e2)]
theorem flat_diff : ∀ (L L' : List (List UInt8)) (at_ : Nat) (b b' : UInt8), NoEnd L → NoEnd L' → (∀ j, j ≠ at_ → (flat L)[j]? = (flat L')[j]?) → (flat L)[at_]? = some b → (flat L')[at_]? = some b' → b ≠ 10 → b' ≠ 10 →
    ∃ (A B : List (List UInt8)) (l l' : List UInt8) (k : Nat), L = A ++ l :: B ∧ L' = A ++ l' :: B ∧ l.length = l'.length ∧ l[k]? = some b ∧ l'[k]? = some b' ∧ ∀ j, j ≠ k → l[j]? = l'[j]? := by
  intro L
  induction L with
  | nil => intro L' at_ b b' _ _ _ h; simp [flat] at h
  | cons l r ih =>
    intro L' at_ b b' hn hn' hj h h' hb hb'
    cases L' with
    | nil => simp [flat] at h'
    | cons l' r' =>
      simp only [flat] at hj h h'
      have hl : l.length = l'.length := by
        rcases Nat.lt_trichotomy l.length l'.length with h1 | h1 | h1
        · by_cases he : l.length = at_
          · rw [← he, flat_at] at h; exact absurd (Option.some.inj h).symm hb
          · have := hj _ he
            rw [flat_at, flat_lt h1] at this
            exact absurd this.symm (get_ne hn'.head)
        · exact h1
        · by_cases he : l'.length = at_
          · rw [← he, flat_at] at h'; exact absurd (Option.some.inj h').symm hb'
          · have := hj _ he
            rw [flat_at, flat_lt h1] at this
            exact absurd this (get_ne hn.head)
      rcases Nat.lt_trichotomy at_ l.length with h1 | h1 | h1
      · rw [flat_lt h1] at h
        rw [flat_lt (by omega)] at h'
        have hr : r = r' := by
          refine flat_inj r r' hn.tail hn'.tail (List.ext_getElem? fun j => ?_)
          have := hj (l.length + 1 + j) (by omega)
          rw [flat_gt, hl, flat_gt] at this
          exact this
        refine ⟨[], r, l, l', at_, rfl, by rw [hr]; rfl, hl, h, h', fun j hne => ?_⟩
        rcases Nat.lt_or_ge j l.length with h2 | h2
        · have := hj j hne
          rw [flat_lt h2, flat_lt (by omega)] at this
          exact this
        · rw [List.getElem?_eq_none h2, List.getElem?_eq_none (by omega)]
      · rw [h1, flat_at] at h
        exact absurd (Option.some.inj h).symm hb
      · have hll : l = l' := by
          refine List.ext_getElem? fun j => ?_
          rcases Nat.lt_or_ge j l.length with h2 | h2
          · have := hj j (by omega)
            rw [flat_lt h2, flat_lt (by omega)] at this
            exact this
          · rw [List.getElem?_eq_none h2, List.getElem?_eq_none (by omega)]
        subst hll
        obtain ⟨m, rfl⟩ : ∃ m, at_ = l.length + 1 + m := ⟨at_ - l.length - 1, by omega⟩
        rw [flat_gt] at h h'
        obtain ⟨A, B, x, x', k, e1, e2, e3, e4, e5, e6⟩ := ih r' m b b' hn.tail hn'.tail (fun j hne => by
          have := hj (l.length + 1 + j) (by omega)
          rw [flat_gt, flat_gt] at this
          exact this) h h' hb hb'
        exact ⟨l :: A, B, x, x', k, by rw [e1]; rfl, by rw [e2]; rfl, e3, e4, e5, e6⟩
end Go.Proofs.YtncfgkhbenmpoaaGreatDoor
end

section
namespace Go.Proofs.YtncfgkhbenmpoaaGreatDoor
open Go Go.Proofs
set_option linter.unusedVariables false

theorem dec_mem : ∀ (u : Nat) (b : UInt8), b ∈ Lib.decDigits u → 48 ≤ b.toNat ∧ b.toNat ≤ 57 := by
  intro u
  induction u using Nat.strongRecOn with
  | _ u ih =>
    intro b hb
    by_cases h : u < 10
    · rw [Lib.decDigits, dif_pos h] at hb
      have : b = UInt8.ofNat (48 + u) := by simpa using hb
      subst this
      simp only [UInt8.toNat_ofNat']
      omega
    · rw [Lib.decDigits, dif_neg h] at hb
      rcases List.mem_append.1 hb with h1 | h1
      · exact ih (u / 10) (by omega) b h1
      · have : b = UInt8.ofNat (48 + u % 10) := by simpa using h1
        subst this
        simp only [UInt8.toNat_ofNat']
        omega
theorem ne10 {b : UInt8} (h : 11 ≤ b.toNat) : b ≠ 10 := by rintro rfl; simp at h
theorem ba_append (a b : ByteArray) : (a ++ b).data.toList = a.data.toList ++ b.data.toList := by
  rw [ByteArray.data_append, Array.toList_append]
/-- the bytes of a line are no line's end -/
def NoE (l : ByteArray) : Prop := ∀ b ∈ l.data.toList, b ≠ 10
theorem NoE.app {a b : ByteArray} (ha : NoE a) (hb : NoE b) : NoE (a ++ b) := by
  intro x hx
  rw [ba_append] at hx
  rcases List.mem_append.1 hx with h | h
  · exact ha x h
  · exact hb x h
theorem noE_dec (u : Nat) : NoE ⟨(Lib.decDigits u).toArray⟩ := by
  intro b hb
  have : b ∈ Lib.decDigits u := by simpa using hb
  exact ne10 (by have := dec_mem u b this; omega)
theorem noE_row {word : ByteArray} (hw : NoE word) (xs : List Int) : ∀ k, k ≤ xs.length → NoE (rowT word xs k) := by
  intro k
  induction k with
  | zero => intro _; exact hw
  | succ k ih =>
    intro hk
    rw [rowT_step word xs k (by omega)]
    exact (ih (by omega)).app (NoE.app (by intro b hb; simp at hb; subst hb; decide) (noE_dec _))
theorem noE_book : NoE bookW := by intro b hb; simp [bookW] at hb; rcases hb with rfl | rfl | rfl | rfl <;> decide
theorem noE_cam : NoE camW := by intro b hb; simp [camW] at hb; rcases hb with rfl | rfl | rfl <;> decide
theorem noE_end (s : Int) : NoE (endF s) := by
  unfold endF
  exact (((show NoE ⟨#[101, 110, 100, 32]⟩ by intro b hb; simp at hb; rcases hb with rfl | rfl | rfl | rfl <;> decide).app (noE_dec _)).app (noE_dec _)).app (noE_dec _)
theorem noE_lines (lo hi sl ch : Int) (css : List (List Int)) : ∀ l ∈ linesF lo hi sl ch css css.length, NoE l := by
  intro l hl
  unfold linesF at hl
  rcases List.mem_cons.1 hl with rfl | h
  · exact noE_row noE_book _ 4 (by simp)
  · obtain ⟨c, _, rfl⟩ := List.mem_map.1 h
    exact noE_row noE_cam c c.length (Nat.le_refl _)
theorem noE_all (lo hi sl ch : Int) (css : List (List Int)) : ∀ l ∈ allF lo hi sl ch css, NoE l := by
  intro l hl
  unfold allF at hl
  rcases List.mem_append.1 hl with h | h
  · exact noE_lines lo hi sl ch css l h
  · obtain rfl := List.mem_singleton.1 h
    exact noE_end _
/-- the lines of a book -/
def linL (lo hi sl ch : Int) (css : List (List Int)) : List (List UInt8) := (allF lo hi sl ch css).map (·.data.toList)
theorem linL_noEnd (lo hi sl ch : Int) (css : List (List Int)) : NoEnd (linL lo hi sl ch css) := by
  intro l hl b hb
  obtain ⟨x, hx, rfl⟩ := List.mem_map.1 hl
  exact noE_all lo hi sl ch css x hx b hb
theorem text_flat (lo hi sl ch : Int) (css : List (List Int)) : (textF lo hi sl ch css).data.toList = flat (linL lo hi sl ch css) := by
  unfold textF
  rw [ba_append]
  have : ∃ x r, (allF lo hi sl ch css).map (·.data.toList) = x :: r := by
    unfold allF linesF; exact ⟨_, _, rfl⟩
  obtain ⟨x, r, e⟩ := this
  unfold linL
  rw [e]
  exact join_flat x r

theorem rowSum_diff (i : Nat) (l l' : ByteArray) (k : Nat) (h : ∀ j, j ≠ k → byteAt l j = byteAt l' j) : ∀ n, rowSum i l n - rowSum i l' n = if k < n then (byteAt l k - byteAt l' k) * ((k : Int) + 1) * ((i : Int) + 1) else 0 := by
  intro n
  induction n with
  | zero => simp [rowSum]
  | succ n ih =>
    simp only [rowSum]
    by_cases hk : n = k
    · subst hk
      rw [if_neg (by omega)] at ih
      rw [if_pos (by omega), Int.sub_mul, Int.sub_mul]
      omega
    · rw [h n hk]
      by_cases hlt : k < n
      · rw [if_pos hlt] at ih
        rw [if_pos (by omega)]
        omega
      · rw [if_neg hlt] at ih
        rw [if_neg (by omega)]
        omega
theorem sumRows_diff (ls ls' : List ByteArray) (i0 : Nat) (h : ∀ j, j ≠ i0 → ls.getD j ByteArray.empty = ls'.getD j ByteArray.empty) : ∀ n, sumRows ls n - sumRows ls' n =
    if i0 < n then rowSum i0 (ls.getD i0 ByteArray.empty) (ls.getD i0 ByteArray.empty).size - rowSum i0 (ls'.getD i0 ByteArray.empty) (ls'.getD i0 ByteArray.empty).size else 0 := by
  intro n
  induction n with
  | zero => simp [sumRows]
  | succ n ih =>
    simp only [sumRows]
    by_cases hk : n = i0
    · subst hk
      rw [if_neg (by omega)] at ih
      rw [if_pos (by omega)]
      omega
    · rw [h n hk]
      by_cases hlt : i0 < n
      · rw [if_pos hlt] at ih
        rw [if_pos (by omega)]
        omega
      · rw [if_neg hlt] at ih
        rw [if_neg (by omega)]
        omega
theorem nat137 : ∀ d, d < 10 → ∀ k, k < 100 → ∀ i, i < 8 → 0 < d → ¬ d * (k + 1) * (i + 1) % 137 = 0 := by decide +kernel
theorem int137 (b b' : Int) (hb : 48 ≤ b ∧ b ≤ 57) (hb' : 48 ≤ b' ∧ b' ≤ 57) (hne : b ≠ b') (k i : Nat) (hk : k < 100) (hi : i < 8) (S S' : Int) (h : S - S' = (b - b') * ((k : Int) + 1) * ((i : Int) + 1)) (hm : S % 137 = S' % 137) : False := by
  have key : ∀ d : Nat, 0 < d → d < 10 → ∀ q : Int, (d : Int) * ((k : Int) + 1) * ((i : Int) + 1) = 137 * q → False := by
    intro d h0 h1 q hq
    refine nat137 d h1 k hk i hi h0 ?_
    have e : ((d * (k + 1) * (i + 1) : Nat) : Int) = 137 * q := by rw [← hq]; simp
    omega
  rcases Int.lt_or_lt_of_ne hne with h1 | h1
  · obtain ⟨d, hd⟩ : ∃ d : Nat, b' - b = d := ⟨(b' - b).toNat, by omega⟩
    refine key d (by omega) (by omega) (S' / 137 - S / 137) ?_
    rw [← hd]
    have e : (b' - b) * ((k : Int) + 1) * ((i : Int) + 1) = -((b - b') * ((k : Int) + 1) * ((i : Int) + 1)) := by
      rw [← Int.neg_mul, ← Int.neg_mul]; congr 2; omega
    rw [e, ← h]
    omega
  · obtain ⟨d, hd⟩ : ∃ d : Nat, b - b' = d := ⟨(b - b').toNat, by omega⟩
    refine key d (by omega) (by omega) (S / 137 - S' / 137) ?_
    rw [← hd, ← h]
    omega
theorem dec1 {n : Int} (h : 0 ≤ n ∧ n ≤ 9) : (decA n).data.toList = [UInt8.ofNat (48 + n.toNat)] := by
  unfold decA
  rw [Lib.decDigits, dif_pos (by omega)]
theorem ofNat_inj {a b : Nat} (ha : a < 10) (hb : b < 10) (h : UInt8.ofNat (48 + a) = UInt8.ofNat (48 + b)) : a = b := by
  have := congrArg UInt8.toNat h
  simp only [UInt8.toNat_ofNat'] at this
  omega
theorem endF_inj {S S' : Int} (h : (endF S).data.toList = (endF S').data.toList) : S % 137 = S' % 137 := by
  unfold endF at h
  simp only [ba_append] at h
  rw [dec1 (by omega), dec1 (by omega), dec1 (by omega), dec1 (by omega), dec1 (by omega), dec1 (by omega)] at h
  simp only [List.cons_append, List.nil_append, List.cons.injEq, and_true, true_and] at h
  obtain ⟨h1, h2, h3⟩ := h
  have e1 := ofNat_inj (by omega) (by omega) h1
  have e2 := ofNat_inj (by omega) (by omega) h2
  have e3 := ofNat_inj (by omega) (by omega) h3
  omega
theorem ba_inj {a b : ByteArray} (h : a.data.toList = b.data.toList) : a = b := by
  cases a; cases b; simp only at h; rw [ByteArray.mk.injEq]; exact Array.toList_inj.1 h
theorem map_inj {ls ls' : List ByteArray} (h : ls.map (·.data.toList) = ls'.map (·.data.toList)) : ls = ls' := by
  induction ls generalizing ls' with
  | nil => cases ls' with
    | nil => rfl
    | cons x r => simp at h
  | cons x r ih =>
    cases ls' with
    | nil => simp at h
    | cons x' r' =>
      simp only [List.map_cons, List.cons.injEq] at h
      rw [ba_inj h.1, ih h.2]
theorem linesF_len (lo hi sl ch : Int) (css : List (List Int)) : (linesF lo hi sl ch css css.length).length = css.length + 1 := linesF_length lo hi sl ch css css.length (Nat.le_refl _)
theorem getD_map (ls : List ByteArray) (i : Nat) : (ls.map (·.data.toList)).getD i [] = (ls.getD i ByteArray.empty).data.toList := by
  rw [List.getD_eq_getElem?_getD, List.getD_eq_getElem?_getD, List.getElem?_map]
  cases ls[i]? <;> rfl
theorem byteAt_get (l : ByteArray) (j : Nat) : byteAt l j = ((l.data.toList[j]?.getD 0).toNat : Int) := by
  unfold byteAt
  rw [Array.getD_eq_getD_getElem?, Array.getElem?_toList]
theorem size_toList (l : ByteArray) : l.size = l.data.toList.length := by rw [Array.length_toList]; rfl

/-- the check of a book: no other book differs from it in one digit alone -/
theorem spoilt_law {lo hi sl ch lo' hi' sl' ch' : Int} {css css' : List (List Int)} (hr : ruleB lo hi sl ch = true) (hc : camsB css = true) (at_ : Nat) (b b' : UInt8)
    (h : (textF lo hi sl ch css).data.toList[at_]? = some b) (h' : (textF lo' hi' sl' ch' css').data.toList[at_]? = some b') (hb : 48 ≤ b.toNat ∧ b.toNat ≤ 57) (hb' : 48 ≤ b'.toNat ∧ b'.toNat ≤ 57) (hne : b ≠ b')
    (hj : ∀ j, j ≠ at_ → (textF lo hi sl ch css).data.toList[j]? = (textF lo' hi' sl' ch' css').data.toList[j]?) : False := by
  rw [text_flat] at h hj
  rw [text_flat] at h'
  simp only [text_flat] at hj
  obtain ⟨A, B, l, l', k, e1, e2, e3, e4, e5, e6⟩ := flat_diff _ _ at_ b b' (linL_noEnd lo hi sl ch css) (linL_noEnd lo' hi' sl' ch' css') hj h h' (ne10 (by omega)) (ne10 (by omega))
  have hS : linL lo hi sl ch css = (linesF lo hi sl ch css css.length).map (·.data.toList) ++ [(endF (sumRows (linesF lo hi sl ch css css.length) (css.length + 1))).data.toList] := by unfold linL allF; simp
  have hS' : linL lo' hi' sl' ch' css' = (linesF lo' hi' sl' ch' css' css'.length).map (·.data.toList) ++ [(endF (sumRows (linesF lo' hi' sl' ch' css' css'.length) (css'.length + 1))).data.toList] := by unfold linL allF; simp
  have hn := linesF_len lo hi sl ch css
  have hn' := linesF_len lo' hi' sl' ch' css'
  have hlines := lines_size (N := 100) (by omega) (bookOk_of hr hc) css.length (Nat.le_refl _)
  obtain ⟨hc4, hcam⟩ := camsB_parts hc
  rw [e1] at hS
  rw [e2] at hS'
  rcases List.eq_nil_or_concat B with hB | ⟨B0, x, hB⟩
  · subst hB
    obtain ⟨p1, p2⟩ := List.append_inj' (t₁ := [l]) hS rfl
    obtain ⟨q1, q2⟩ := List.append_inj' (t₁ := [l']) hS' rfl
    have hp := map_inj (p1.symm.trans q1)
    have hcl : css.length = css'.length := by have := congrArg List.length hp; omega
    rw [hp, hcl] at p2
    have : l = l' := (List.head_eq_of_cons_eq p2).trans (List.head_eq_of_cons_eq q2).symm
    rw [this, e5] at e4
    exact hne (Option.some.inj e4).symm
  · rw [List.concat_eq_append] at hB
    subst hB
    have hS2 : (A ++ l :: B0) ++ [x] = (linesF lo hi sl ch css css.length).map (·.data.toList) ++ [(endF (sumRows (linesF lo hi sl ch css css.length) (css.length + 1))).data.toList] := by rw [← hS]; simp
    have hS3 : (A ++ l' :: B0) ++ [x] = (linesF lo' hi' sl' ch' css' css'.length).map (·.data.toList) ++ [(endF (sumRows (linesF lo' hi' sl' ch' css' css'.length) (css'.length + 1))).data.toList] := by rw [← hS']; simp
    obtain ⟨p1, p2⟩ := List.append_inj' hS2 rfl
    obtain ⟨q1, q2⟩ := List.append_inj' hS3 rfl
    have hmod := endF_inj (show (endF (sumRows (linesF lo hi sl ch css css.length) (css.length + 1))).data.toList = (endF (sumRows (linesF lo' hi' sl' ch' css' css'.length) (css'.length + 1))).data.toList by
      exact (List.head_eq_of_cons_eq p2).symm.trans (List.head_eq_of_cons_eq q2))
    have hcl : css.length = css'.length := by
      have c1 := congrArg List.length p1
      have c2 := congrArg List.length q1
      simp only [List.length_append, List.length_cons, List.length_map] at c1 c2
      omega
    have hAn : A.length < css.length + 1 := by
      have c1 := congrArg List.length p1
      simp only [List.length_append, List.length_cons, List.length_map] at c1
      omega
    have hgl : ((linesF lo hi sl ch css css.length).getD A.length ByteArray.empty).data.toList = l := by
      rw [← getD_map, ← p1]; simp
    have hgl' : ((linesF lo' hi' sl' ch' css' css'.length).getD A.length ByteArray.empty).data.toList = l' := by
      rw [← getD_map, ← q1]; simp
    have hgo : ∀ j, j ≠ A.length → (linesF lo hi sl ch css css.length).getD j ByteArray.empty = (linesF lo' hi' sl' ch' css' css'.length).getD j ByteArray.empty := by
      intro j hne
      refine ba_inj ?_
      rw [← getD_map, ← getD_map, ← p1, ← q1, List.getD_eq_getElem?_getD, List.getD_eq_getElem?_getD]
      rcases Nat.lt_or_ge j A.length with h1 | h1
      · rw [List.getElem?_append_left h1, List.getElem?_append_left h1]
      · obtain ⟨m, rfl⟩ : ∃ m, j = A.length + 1 + m := ⟨j - A.length - 1, by omega⟩
        rw [List.getElem?_append_right (by omega), List.getElem?_append_right (by omega), show A.length + 1 + m - A.length = m + 1 by omega, List.getElem?_cons_succ, List.getElem?_cons_succ]
    have hd := sumRows_diff _ _ A.length hgo (css.length + 1)
    rw [if_pos hAn] at hd
    have hsz := size_toList ((linesF lo hi sl ch css css.length).getD A.length ByteArray.empty)
    have hsz' := size_toList ((linesF lo' hi' sl' ch' css' css'.length).getD A.length ByteArray.empty)
    rw [hgl] at hsz
    rw [hgl'] at hsz'
    have hbk : byteAt ((linesF lo hi sl ch css css.length).getD A.length ByteArray.empty) k = (b.toNat : Int) := by rw [byteAt_get, hgl, e4]; rfl
    have hbk' : byteAt ((linesF lo' hi' sl' ch' css' css'.length).getD A.length ByteArray.empty) k = (b'.toNat : Int) := by rw [byteAt_get, hgl', e5]; rfl
    have hr2 := rowSum_diff A.length ((linesF lo hi sl ch css css.length).getD A.length ByteArray.empty) ((linesF lo' hi' sl' ch' css' css'.length).getD A.length ByteArray.empty) k (fun j hne => by
      rw [byteAt_get, byteAt_get, hgl, hgl', e6 j hne]) l.length
    have hkl : k < l.length := by
      rcases Nat.lt_or_ge k l.length with h1 | h1
      · exact h1
      · rw [List.getElem?_eq_none h1] at e4; cases e4
    rw [if_pos hkl, hbk, hbk'] at hr2
    rw [hsz, hsz', ← e3, hr2] at hd
    have hsmall : l.length < 100 := by
      rw [← hsz]
      rcases Nat.eq_zero_or_pos A.length with h0 | h0
      · have e : (linesF lo hi sl ch css css.length).getD A.length ByteArray.empty = rowT bookW [lo, hi, sl, ch] 4 := by rw [h0]; rfl
        rw [e]
        have := rowT_size (N := 100) (by omega) bookW [lo, hi, sl, ch] (rule_small hr) 4 (by simp)
        have h4 : bookW.size = 4 := rfl
        omega
      · obtain ⟨m, hm⟩ : ∃ m, A.length = m + 1 := ⟨A.length - 1, by omega⟩
        have e : (linesF lo hi sl ch css css.length).getD A.length ByteArray.empty = rowT camW (gl css m) (gl css m).length := by
          rw [hm]
          unfold linesF gl
          have hml : m < css.length := by omega
          simp [hml]
        rw [e]
        have hcm := cam_small (hcam m (by omega))
        have := rowT_size (N := 100) (by omega) camW (gl css m) hcm.1 (gl css m).length (Nat.le_refl _)
        have h3 : camW.size = 3 := rfl
        omega
    rw [hcl] at hd hmod
    refine int137 b.toNat b'.toNat (by omega) (by omega) (fun h => hne (UInt8.toNat_inj.1 (by omega))) k A.length (by omega) (by omega) _ _ hd hmod
end Go.Proofs.YtncfgkhbenmpoaaGreatDoor
end

section
namespace Go.Proofs.YtncfgkhbenmpoaaGreatDoor
open Go
set_option linter.unusedVariables false

/-- the parts of a list of bytes between those that are c -/
def cutL (c : UInt8) : List UInt8 → List (List UInt8)
  | [] => [[]]
  | b :: r => if b = c then [] :: cutL c r else (b :: (cutL c r).headD []) :: (cutL c r).tail
theorem cutL_shape (c : UInt8) (s : List UInt8) : ∃ h t, cutL c s = h :: t := by
  cases s with
  | nil => exact ⟨_, _, rfl⟩
  | cons b r => unfold cutL; split <;> exact ⟨_, _, rfl⟩
theorem cutL_hit (c : UInt8) (r : List UInt8) : cutL c (c :: r) = [] :: cutL c r := by
  conv => lhs; unfold cutL
  rw [if_pos rfl]
theorem cutL_other {b c : UInt8} (h : b ≠ c) (r : List UInt8) : cutL c (b :: r) = (b :: (cutL c r).headD []) :: (cutL c r).tail := by
  conv => lhs; unfold cutL
  rw [if_neg h]
theorem cutL_len (c : UInt8) (s : List UInt8) : (cutL c s).length = s.count c + 1 := by
  induction s with
  | nil => rfl
  | cons b r ih =>
    by_cases h : b = c
    · subst h; rw [cutL_hit, List.length_cons, ih, List.count_cons_self]
    · rw [cutL_other h, List.length_cons, List.length_tail, ih, List.count_cons_of_ne h]; omega
theorem cutL_no {c : UInt8} {s : List UInt8} (h : c ∉ s) : cutL c s = [s] := by
  induction s with
  | nil => rfl
  | cons b r ih =>
    have h1 : b ≠ c := fun e => h (by rw [e]; exact List.mem_cons_self)
    rw [cutL_other h1, ih (fun hm => h (List.mem_cons_of_mem _ hm))]; rfl
theorem cutL_app {c : UInt8} {a : List UInt8} (h : c ∉ a) (b : List UInt8) : cutL c (a ++ c :: b) = a :: cutL c b := by
  induction a with
  | nil => exact cutL_hit c b
  | cons x r ih =>
    have h1 : x ≠ c := fun e => h (by rw [e]; exact List.mem_cons_self)
    rw [List.cons_append, cutL_other h1, ih (fun hm => h (List.mem_cons_of_mem _ hm))]; rfl
theorem cutL_snoc {c : UInt8} (a : List UInt8) {d : List UInt8} (h : c ∉ d) : cutL c (a ++ c :: d) = cutL c a ++ [d] := by
  induction a with
  | nil => rw [List.nil_append, cutL_hit, cutL_no h]; rfl
  | cons x r ih =>
    by_cases h1 : x = c
    · subst h1; rw [List.cons_append, cutL_hit, cutL_hit, ih]; rfl
    · obtain ⟨u, v, e⟩ := cutL_shape c r
      rw [List.cons_append, cutL_other h1, cutL_other h1, ih, e]; rfl
theorem indexByte_app {c : UInt8} {a : List UInt8} (h : c ∉ a) (b : List UInt8) : Lib.indexByte (a ++ c :: b) c = (a.length : Int) := by
  induction a with
  | nil => simp [Lib.indexByte]
  | cons x r ih =>
    have h1 : x ≠ c := fun e => h (by rw [e]; exact List.mem_cons_self)
    have h2 : (x == c) = false := beq_eq_false_iff_ne.2 h1
    rw [List.cons_append, Lib.indexByte, h2, ih (fun hm => h (List.mem_cons_of_mem _ hm))]
    have h3 : ((r.length : Int) == -1) = false := by rw [beq_eq_false_iff_ne]; omega
    rw [h3]; simp
theorem splitK_cut (c : UInt8) : ∀ (k : Nat) (s : List UInt8), s.count c = k → Lib.splitK [c] 0 k s = cutL c s := by
  intro k
  induction k with
  | zero =>
    intro s h
    rw [cutL_no (List.count_eq_zero.1 h)]; rfl
  | succ k ih =>
    intro s h
    obtain ⟨a, b, rfl, ha⟩ := List.eq_append_cons_of_mem (List.count_pos_iff.1 (show 0 < s.count c by omega))
    have hi : Lib.index (a ++ c :: b) [c] = (a.length : Int) := by rw [Lib.index_one]; exact indexByte_app ha b
    have hn : ¬ (((a.length : Int)) == -1) = true := by rw [beq_iff_eq]; omega
    rw [List.count_append, List.count_eq_zero.2 ha, List.count_cons_self] at h
    rw [Lib.splitK, hi, if_neg hn, cutL_app ha]
    have e1 : (a ++ c :: b).take ((a.length : Int).toNat + 0) = a := by simp
    have e2 : (a ++ c :: b).drop ((a.length : Int).toNat + [c].length) = b := by
      rw [show a ++ c :: b = (a ++ [c]) ++ b by simp]
      have : ((a.length : Int).toNat + [c].length) = (a ++ [c]).length := by simp
      rw [this, List.drop_left]
    rw [e1, e2, ih b (by omega)]
/-- the parts as texts -/
def mkB (l : List UInt8) : ByteArray := ⟨l.toArray⟩
theorem mkB_data (x : ByteArray) : mkB x.data.toList = x := by cases x; rfl
theorem data_mkB (l : List UInt8) : (mkB l).data.toList = l := by simp [mkB]
def partsF (c : UInt8) (s : ByteArray) : List ByteArray := (cutL c s.data.toList).map mkB
theorem partsF_len (c : UInt8) (s : ByteArray) : (partsF c s).length = s.data.toList.count c + 1 := by unfold partsF; rw [List.length_map, cutL_len]
theorem partsF_map (c : UInt8) (s : ByteArray) : (partsF c s).map (·.data.toList) = cutL c s.data.toList := by
  unfold partsF
  rw [List.map_map]
  have : ((fun x : ByteArray => x.data.toList) ∘ mkB) = id := by funext l; exact data_mkB l
  rw [this, List.map_id]
theorem countB_one (c : UInt8) (s : ByteArray) : Lib.countB s ⟨#[c]⟩ = s.data.toList.count c := by
  show Lib.count s.data.toList [c] = _
  exact Lib.count_one c _
theorem splitB_parts (c : UInt8) (s : ByteArray) : Lib.splitB ⟨#[c]⟩ 0 (Lib.countB s ⟨#[c]⟩) s = partsF c s := by
  have h := Lib.splitB_data ⟨#[c]⟩ 0 (Lib.countB s ⟨#[c]⟩) s
  rw [countB_one] at h
  have h2 : Lib.splitK (⟨#[c]⟩ : ByteArray).data.toList 0 (s.data.toList.count c) s.data.toList = cutL c s.data.toList := splitK_cut c _ _ rfl
  rw [h2] at h
  rw [countB_one]
  unfold partsF
  rw [← h, List.map_map]
  have : (mkB ∘ fun x : ByteArray => x.data.toList) = id := by funext x; exact mkB_data x
  rw [this, List.map_id]
/-- what stands before the first part -/
def pre (cur : List UInt8) (L : List (List UInt8)) : List (List UInt8) := (cur ++ L.headD []) :: L.tail
theorem pre_nil (c : UInt8) (s : List UInt8) : pre [] (cutL c s) = cutL c s := by
  obtain ⟨h, t, e⟩ := cutL_shape c s
  rw [e]; rfl
theorem pre_hit (c : UInt8) (cur r : List UInt8) : pre cur (cutL c (c :: r)) = cur :: cutL c r := by
  rw [cutL_hit]; simp [pre]
theorem pre_other {b c : UInt8} (h : b ≠ c) (cur r : List UInt8) : pre cur (cutL c (b :: r)) = pre (cur ++ [b]) (cutL c r) := by
  rw [cutL_other h]; simp [pre]
theorem pre_end (c : UInt8) (cur : List UInt8) : pre cur (cutL c []) = [cur] := by simp [pre, cutL]
end Go.Proofs.YtncfgkhbenmpoaaGreatDoor
end

section
namespace Go.Proofs.YtncfgkhbenmpoaaGreatDoor
open Go Go.RowKit Go.Proofs Go.Shelf
set_option linter.unusedVariables false

def ShortTo (css : List (List Int)) (k : Nat) : Prop := ∀ i, i < k → (gl css i).length ≤ 27
instance (css : List (List Int)) (k : Nat) : Decidable (ShortTo css k) := by unfold ShortTo; infer_instance
def fewB (css : List (List Int)) : Bool := decide (css.length ≤ 6 ∧ ShortTo css css.length)

set_option maxRecDepth 100000 in
theorem c71 (p : Option Addr) (cap : Nat) (css : List (List Int)) (w : World) (hx : RdC w p css) :
    Calls Tryz.prog 71 #[.slice p css.length cap] w fun e w' => e = .returned (.bool (fewB css)) ∧ w = w' := by
  have HX := Lib.hid hx
  clear hx
  go_enter Tryz.func71, Tryz.ntmps71
  go_wp2
  go_loop [3] (fun i => ∃ k : Nat, k ≤ css.length ∧ k ≤ 7 ∧ i = .int .i64 k ∧ Hid (ShortTo css k)) (fun i => css.length - (intOf i).toNat)
  case atStart => exact ⟨0, Nat.zero_le _, by omega, rfl, Lib.hid (fun i h => by omega)⟩
  case round =>
    obtain ⟨k, hk, hk7, rfl, HC⟩ := hrel
    by_cases hlt : k < css.length
    · have hltI : decide ((k : Int) < (css.length : Int)) = true := by simp; omega
      by_cases h7 : k < 7
      · have h7I : decide ((k : Int) < 7) = true := by simp; omega
        obtain ⟨b, off, rfl, hcc⟩ := HX.out.at hlt
        obtain ⟨a, c, e1, hr⟩ := hcc k hlt
        have h24 := c24 a (gl css k).length c w
        clear hcc hr
        cases hc : decide ((gl css k).length ≤ 27) with
        | false =>
          rw [hc] at h24
          have HB := Lib.hid (show fewB css = false by
            unfold fewB; rw [decide_eq_false]
            rintro ⟨_, h⟩
            have := h k hlt
            simp at hc; omega)
          clear hc
          go_wp2_with fail
          refine h24.mono ?_
          rintro e w' ⟨rfl, rfl⟩
          go_wp2
          go_ret
          exact ⟨by rw [HB.out]; rfl, rfl⟩
        | true =>
          rw [hc] at h24
          have HCC := Lib.hid (of_decide_eq_true hc)
          clear hc
          go_wp2_with fail
          refine h24.mono ?_
          rintro e w' ⟨rfl, rfl⟩
          go_wp2
          go_round
          case rel => exact ⟨k + 1, by omega, by omega, by go_num, Lib.hid fun i hi => by
            rcases Nat.lt_or_ge i k with h | h
            · exact HC.out i h
            · obtain rfl : i = k := by omega
              exact HCC.out⟩
          case measure => simp [intOf]; omega
      · obtain rfl : k = 7 := by omega
        have h7I : decide ((7 : Int) < 7) = false := by simp
        have h6 : decide ((css.length : Int) ≤ 6) = false := by simp; omega
        have HB := Lib.hid (show fewB css = false by
          unfold fewB; rw [decide_eq_false]
          rintro ⟨h, _⟩
          omega)
        go_wp2
        go_ret
        exact ⟨by rw [HB.out]; rfl, rfl⟩
    · obtain rfl : k = css.length := by omega
      have HB := Lib.hid (show fewB css = decide ((css.length : Int) ≤ 6) by
        unfold fewB
        exact decide_eq_decide.2 ⟨fun h => by have := h.1; omega, fun h => ⟨by omega, HC.out⟩⟩)
      have hltI : decide ((css.length : Int) < (css.length : Int)) = false := by simp
      go_wp2
      go_ret
      exact ⟨by rw [HB.out] <;> rfl, rfl⟩
end Go.Proofs.YtncfgkhbenmpoaaGreatDoor
end

section
namespace Go.Proofs.YtncfgkhbenmpoaaGreatDoor
open Go Go.RowKit Go.Proofs Go.Shelf
set_option linter.unusedVariables false

theorem gl_ext {xs ys : List (List Int)} (hl : xs.length = ys.length) (h : ∀ j, j < xs.length → gl xs j = gl ys j) : xs = ys := by
  apply List.ext_getElem hl
  intro i h1 h2
  have := h i h1
  unfold gl at this
  rw [List.getD_eq_getElem?_getD, List.getD_eq_getElem?_getD, List.getElem?_eq_getElem h1, List.getElem?_eq_getElem h2] at this
  simpa using this
theorem rdI_drew {w : World} {p : Option Addr} {xs : List Int} {n : Nat} (h : RdI w p xs) : RdI (w.drewN n) p xs := h.below (below_drewN (Below.refl _ _) n)

set_option maxRecDepth 100000 in
theorem c76 (p : Option Addr) (cap : Nat) (xs : List (List Int)) (q : Option Addr) (cap' : Nat) (ys : List (List Int)) (w : World) (hx : RdC w p xs) (hy : RdC w q ys) (hl : xs.length ≤ 1000000) (hs : ∀ i, i < xs.length → (gl xs i).length ≤ 1000000) :
    Calls Tryz.prog 76 #[.slice p xs.length cap, .slice q ys.length cap'] w fun e w' => e = .returned (.bool (decide (xs = ys))) ∧ ∃ n, w' = w.drewN n := by
  have HSM := Lib.hid hs
  clear hs
  by_cases h3 : xs.length = ys.length
  · have HL := Lib.hid h3
    have h3' : ((xs.length : Int) != (ys.length : Int)) = false := by simp [h3]
    clear h3
    go_enter Tryz.func76, Tryz.ntmps76
    go_wp2
    go_loopw [5] (fun i wr => ∃ k : Nat, k ≤ xs.length ∧ i = .int .i64 k ∧ Hid (∀ j, j < k → gl xs j = gl ys j) ∧ ∃ m, wr = w.drewN m) (fun i _ => xs.length - (intOf i).toNat)
    case atStart => exact ⟨0, by omega, rfl, Lib.hid (by intro j hj; omega), 0, by rfl⟩
    case round =>
      obtain ⟨k, hk, rfl, HK, m, hv⟩ := hrel
      have HV := Lib.hid hv
      clear hv
      by_cases hlt : k < xs.length
      · have hltI : decide ((k : Int) < (xs.length : Int)) = true := by simp; omega
        obtain ⟨b, off, rfl, hc⟩ := hx.at hlt
        have hlt2 : k < ys.length := by have := HL.out; omega
        obtain ⟨b', off', rfl, hc'⟩ := hy.at hlt2
        obtain ⟨a1, c1, e1, r1⟩ := hc k hlt
        obtain ⟨a2, c2, e2, r2⟩ := hc' k hlt2
        have f1 : wr.cell? ⟨b, off + k, none⟩ = some (.slice a1 (gl xs k).length c1) := by rw [HV.out]; exact e1
        have f2 : wr.cell? ⟨b', off' + k, none⟩ = some (.slice a2 (gl ys k).length c2) := by rw [HV.out]; exact e2
        have R1 := Lib.hid (show RdI wr a1 (gl xs k) by rw [HV.out]; exact rdI_drew r1)
        have R2 := Lib.hid (show RdI wr a2 (gl ys k) by rw [HV.out]; exact rdI_drew r2)
        clear hc hx hc' hy e1 e2 r1 r2
        by_cases he : gl xs k = gl ys k
        · have HE := Lib.hid he
          have HD := decide_eq_true he
          have H30 := Lib.hid (fun n' => show Calls Tryz.prog 30 #[.slice a1 (gl xs k).length c1, .slice a2 (gl ys k).length c2] (wr.drewN n') fun e w' => e = .returned (.bool true) ∧ ∃ n, w' = (wr.drewN n').drewN n by
            have h := c30n (c := c1) (d := c2) rfl rfl (rdI_drew (n := n') R1.out) (rdI_drew (n := n') R2.out) (HSM.out k hlt)
            rw [HD] at h; exact h)
          clear he HD
          go_wp2
          refine wp_region_quiet_lit (by kernel_rfl) (by kernel_rfl) ?_; (repeat (first | ((with_reducible apply wq_ix Tryz.underlying24 sz3); (focus rfl); (focus rfl); (focus rfl); (focus omega); (try simp only [Nat.mul_one]); go_frame) | ((with_reducible apply wq_ix Tryz.underlying37 sz50); (focus rfl); (focus rfl); (focus rfl); (focus omega); (try simp only [Nat.mul_one]); go_frame) | ((with_reducible apply wq_ix Tryz.underlying35 sz47); (focus rfl); (focus rfl); (focus rfl); (focus omega); (try simp only [Nat.mul_one]); go_frame) | ((with_reducible apply wq_ix Tryz.underlying90 sz24); (focus rfl); (focus rfl); (focus rfl); (focus omega); (try simp only [Nat.mul_one]); go_frame) | ((with_reducible apply wq_ld ag3); (focus rfl); (focus rfl); (focus (rintro _ ⟨_, rfl⟩; first | exact f1 | exact f2)); go_frame) | ((with_reducible apply wq_ld ag24); (focus rfl); (focus rfl); (focus (rintro _ ⟨_, rfl⟩; first | exact f1 | exact f2)); go_frame) | ((with_reducible apply wq_ld ag37); (focus rfl); (focus rfl); (focus (rintro _ ⟨_, rfl⟩; first | exact f1 | exact f2)); go_frame) | ((with_reducible apply wq_ld ag90); (focus rfl); (focus rfl); (focus (rintro _ ⟨_, rfl⟩; first | exact f1 | exact f2)); go_frame) | ((with_reducible apply wq_ld ag35); (focus rfl); (focus rfl); (focus (rintro _ ⟨_, rfl⟩; first | exact f1 | exact f2)); go_frame) | ((with_reducible apply wq_add); (focus rfl); (focus rfl); (focus rfl); (focus omega); (focus omega); go_frame) | ((with_reducible apply wq_sub); (focus rfl); (focus rfl); (focus rfl); (focus omega); (focus omega); go_frame) | ((with_reducible apply wq_mul); (focus rfl); (focus rfl); (focus rfl); (focus omega); (focus omega); go_frame) | ((with_reducible apply wq_rem); (focus rfl); (focus rfl); (focus rfl); (focus omega); (focus omega); go_frame) | ((with_reducible apply wq_eql); (focus rfl); (focus rfl); (focus rfl); go_frame) | ((with_reducible apply wq_neq); (focus rfl); (focus rfl); (focus rfl); go_frame) | ((with_reducible apply wq_lss); (focus rfl); (focus rfl); (focus rfl); go_frame) | ((with_reducible apply wq_leq); (focus rfl); (focus rfl); (focus rfl); go_frame) | ((with_reducible apply wq_gtr); (focus rfl); (focus rfl); (focus rfl); go_frame) | ((with_reducible apply wq_geq); (focus rfl); (focus rfl); (focus rfl); go_frame) | ((with_reducible apply wq_max2); (focus rfl); (focus rfl); (focus rfl); go_frame) | ((with_reducible apply wq_min2); (focus rfl); (focus rfl); (focus rfl); go_frame) | ((with_reducible apply wq_max3); (focus rfl); (focus rfl); (focus rfl); (focus rfl); go_frame) | ((with_reducible apply wq_min3); (focus rfl); (focus rfl); (focus rfl); (focus rfl); go_frame) | go_big_quiet_step ((exact Calls.quiet_of (H30.out _))))); refine wpQuiet_nil ?_; rintro _ ⟨nq, rfl⟩
          go_wp2
          go_roundw
          case rel =>
            refine ⟨k + 1, by omega, by go_num, Lib.hid fun j hj => ?_, m + nq, by rw [HV.out]; exact drew_add _ _ _⟩
            rcases Nat.lt_or_ge j k with h | h
            · exact HK.out j h
            · obtain rfl : j = k := by omega
              exact HE.out
          case measure => simp [intOf]; omega
        · have HE := Lib.hid he
          have HD := decide_eq_false he
          have H30 := Lib.hid (fun n' => show Calls Tryz.prog 30 #[.slice a1 (gl xs k).length c1, .slice a2 (gl ys k).length c2] (wr.drewN n') fun e w' => e = .returned (.bool false) ∧ ∃ n, w' = (wr.drewN n').drewN n by
            have h := c30n (c := c1) (d := c2) rfl rfl (rdI_drew (n := n') R1.out) (rdI_drew (n := n') R2.out) (HSM.out k hlt)
            rw [HD] at h; exact h)
          clear he HD
          go_wp2
          refine wp_region_quiet_lit (by kernel_rfl) (by kernel_rfl) ?_; (repeat (first | ((with_reducible apply wq_ix Tryz.underlying24 sz3); (focus rfl); (focus rfl); (focus rfl); (focus omega); (try simp only [Nat.mul_one]); go_frame) | ((with_reducible apply wq_ix Tryz.underlying37 sz50); (focus rfl); (focus rfl); (focus rfl); (focus omega); (try simp only [Nat.mul_one]); go_frame) | ((with_reducible apply wq_ix Tryz.underlying35 sz47); (focus rfl); (focus rfl); (focus rfl); (focus omega); (try simp only [Nat.mul_one]); go_frame) | ((with_reducible apply wq_ix Tryz.underlying90 sz24); (focus rfl); (focus rfl); (focus rfl); (focus omega); (try simp only [Nat.mul_one]); go_frame) | ((with_reducible apply wq_ld ag3); (focus rfl); (focus rfl); (focus (rintro _ ⟨_, rfl⟩; first | exact f1 | exact f2)); go_frame) | ((with_reducible apply wq_ld ag24); (focus rfl); (focus rfl); (focus (rintro _ ⟨_, rfl⟩; first | exact f1 | exact f2)); go_frame) | ((with_reducible apply wq_ld ag37); (focus rfl); (focus rfl); (focus (rintro _ ⟨_, rfl⟩; first | exact f1 | exact f2)); go_frame) | ((with_reducible apply wq_ld ag90); (focus rfl); (focus rfl); (focus (rintro _ ⟨_, rfl⟩; first | exact f1 | exact f2)); go_frame) | ((with_reducible apply wq_ld ag35); (focus rfl); (focus rfl); (focus (rintro _ ⟨_, rfl⟩; first | exact f1 | exact f2)); go_frame) | ((with_reducible apply wq_add); (focus rfl); (focus rfl); (focus rfl); (focus omega); (focus omega); go_frame) | ((with_reducible apply wq_sub); (focus rfl); (focus rfl); (focus rfl); (focus omega); (focus omega); go_frame) | ((with_reducible apply wq_mul); (focus rfl); (focus rfl); (focus rfl); (focus omega); (focus omega); go_frame) | ((with_reducible apply wq_rem); (focus rfl); (focus rfl); (focus rfl); (focus omega); (focus omega); go_frame) | ((with_reducible apply wq_eql); (focus rfl); (focus rfl); (focus rfl); go_frame) | ((with_reducible apply wq_neq); (focus rfl); (focus rfl); (focus rfl); go_frame) | ((with_reducible apply wq_lss); (focus rfl); (focus rfl); (focus rfl); go_frame) | ((with_reducible apply wq_leq); (focus rfl); (focus rfl); (focus rfl); go_frame) | ((with_reducible apply wq_gtr); (focus rfl); (focus rfl); (focus rfl); go_frame) | ((with_reducible apply wq_geq); (focus rfl); (focus rfl); (focus rfl); go_frame) | ((with_reducible apply wq_max2); (focus rfl); (focus rfl); (focus rfl); go_frame) | ((with_reducible apply wq_min2); (focus rfl); (focus rfl); (focus rfl); go_frame) | ((with_reducible apply wq_max3); (focus rfl); (focus rfl); (focus rfl); (focus rfl); go_frame) | ((with_reducible apply wq_min3); (focus rfl); (focus rfl); (focus rfl); (focus rfl); go_frame) | go_big_quiet_step ((exact Calls.quiet_of (H30.out _))))); refine wpQuiet_nil ?_; rintro _ ⟨nq, rfl⟩
          go_wp2
          go_ret
          refine ⟨?_, m + nq, by rw [HV.out]; exact drew_add _ _ _⟩
          rw [decide_eq_false (fun e => HE.out (by rw [e]))]; rfl
      · obtain rfl : k = xs.length := by omega
        have hltI : decide ((xs.length : Int) < (xs.length : Int)) = false := by simp
        go_wp2
        go_ret
        refine ⟨?_, m, HV.out⟩
        rw [decide_eq_true (gl_ext HL.out HK.out)]; rfl
  · have h3' : ((xs.length : Int) != (ys.length : Int)) = true := by simp; omega
    have HL := Lib.hid h3
    clear h3
    go_enter Tryz.func76, Tryz.ntmps76
    go_wp2
    go_ret
    refine ⟨?_, 0, rfl⟩
    rw [decide_eq_false (fun e => HL.out (by rw [e]))]; rfl
end Go.Proofs.YtncfgkhbenmpoaaGreatDoor
end

section
namespace Go.Proofs.YtncfgkhbenmpoaaGreatDoor
open Go Go.RowKit Go.Proofs Go.Shelf
set_option linter.unusedVariables false

theorem digit_conv (d : Nat) (hd : d < 10) (w : World) :
    (convert 102 9 (.slice (some ⟨w.heap.size, 0, none⟩) 1 1)).run Tryz.prog (w.alloc (.cells #[.int .u8 (48 + (d : Int))] 5)) = .ok (.string ⟨[UInt8.ofNat (48 + d)].toArray⟩) (w.alloc (.cells #[.int .u8 (48 + (d : Int))] 5)) := by
  have h := run_convert_bytes_back (P := Tryz.prog) (w.alloc (.cells #[.int .u8 (48 + (d : Int))] 5)) 102 9 5 ⟨w.heap.size, 0, none⟩ 1 [UInt8.ofNat (48 + d)] Tryz.underlying102 Tryz.underlying5 Tryz.underlying9 (fun j hj => by
    have hj0 : j = 0 := by simpa using hj
    subst hj0
    have e : ((UInt8.ofNat (48 + d)).toNat : Int) = 48 + (d : Int) := by
      rw [UInt8.toNat_ofNat']; omega
    simp only [List.getElem_cons_zero]
    rw [e, add_new, at_new]
    simp)
  exact h
theorem app_one (b : UInt8) (l : List UInt8) : (⟨[b].toArray⟩ : ByteArray) ++ (⟨l.toArray⟩ : ByteArray) = ⟨(b :: l).toArray⟩ := by
  apply ByteArray.ext
  simp [ByteArray.data_append]
/-- what is left of a number and what is written of it -/
def DecTo (n cur : Nat) (l : List UInt8) : Prop := if cur < 10 then l = Lib.decDigits n else Lib.decDigits (cur / 10) ++ l = Lib.decDigits n
theorem decTo_start (n : Nat) : DecTo n n [UInt8.ofNat (48 + n % 10)] := by
  unfold DecTo
  by_cases h : n < 10
  · rw [if_pos h, Lib.decDigits, dif_pos h, Nat.mod_eq_of_lt h]
  · rw [if_neg h]; conv => rhs; rw [Lib.decDigits, dif_neg h]
theorem decTo_next {n cur : Nat} {l : List UInt8} (h : DecTo n cur l) (hc : ¬ cur < 10) : DecTo n (cur / 10) (UInt8.ofNat (48 + cur / 10 % 10) :: l) := by
  unfold DecTo at h ⊢
  rw [if_neg hc] at h
  by_cases h2 : cur / 10 < 10
  · rw [if_pos h2, ← h]
    conv => rhs; rw [Lib.decDigits, dif_pos h2]
    rw [Nat.mod_eq_of_lt h2]; rfl
  · rw [if_neg h2, ← h]
    conv => rhs; rw [Lib.decDigits, dif_neg h2]
    simp

set_option maxRecDepth 100000 in
theorem c123 (n : Nat) (hn : n < 100000) (w : World) :
    Calls Tryz.prog 123 #[.int .i64 n] w fun e w' => e = .returned (.string ⟨(Lib.decDigits n).toArray⟩) ∧ Below w.heap.size w w' := by
  obtain ⟨d, hd⟩ : ∃ d, n % 10 = d := ⟨_, rfl⟩
  have hdl : d < 10 := by omega
  have ht1 : (n : Int).tmod 10 = (d : Int) := by rw [Int.tmod_eq_emod_of_nonneg (by omega)]; omega
  have ht2 : (n : Int) % 10 = (d : Int) := by omega
  have hw1 : IntKind.i64.wrap (d : Int) = (d : Int) := w64 _ (by omega) (by omega)
  have hw2 : IntKind.i64.wrap (48 + (d : Int)) = 48 + (d : Int) := w64 _ (by omega) (by omega)
  have hw3 : IntKind.u8.wrap (48 + (d : Int)) = 48 + (d : Int) := by rw [IntKind.wrap_u8]; omega
  have hcv := digit_conv d hdl w
  have HD := Lib.hid (show DecTo n n [UInt8.ofNat (48 + d)] by rw [← hd]; exact decTo_start n)
  obtain ⟨l0, hl0⟩ : ∃ l0, [UInt8.ofNat (48 + d)] = l0 := ⟨_, rfl⟩
  obtain ⟨s0, hs0⟩ : ∃ s0 : ByteArray, (⟨l0.toArray⟩ : ByteArray) = s0 := ⟨_, rfl⟩
  obtain ⟨w1, e1⟩ : ∃ w1, w.alloc (.cells #[.int .u8 (48 + (d : Int))] 5) = w1 := ⟨_, rfl⟩
  have HB := Lib.hid (show Below w.heap.size w w1 by rw [← e1]; exact below_alloc1 _ _)
  rw [hl0, hs0, e1] at hcv
  rw [hl0] at HD
  have HS := Lib.hid hs0
  have HL0 := Lib.hid (show l0.length = 1 by rw [← hl0]; rfl)
  clear hd hl0 hs0
  go_enter Tryz.func123, Tryz.ntmps123
  go_wp2
  clear e1 hcv
  go_loopw [0, 3] (fun a v wx => ∃ cur : Nat, ∃ l : List UInt8, ∃ s : ByteArray, cur ≤ n ∧ a = .int .i64 cur ∧ v = .string s ∧ s.size + cur ≤ 100001 ∧ Hid ((⟨l.toArray⟩ : ByteArray) = s) ∧ Hid (DecTo n cur l) ∧ Hid (Below w1.heap.size w1 wx)) (fun a v _ => (intOf a).toNat)
  case atStart => exact ⟨n, l0, s0, Nat.le_refl _, rfl, rfl, by rw [← HS.out]; show l0.length + n ≤ _; rw [HL0.out]; omega, HS, HD, Lib.hid (Below.refl _ _)⟩
  case round =>
    obtain ⟨cur, l, s, hcn, rfl, rfl, hsz, HSS, HDT, HM⟩ := hrel
    clear ht1 ht2 hw1 hw2 hw3 hdl HD HS HL0
    by_cases hc : cur < 10
    · have hcI : decide ((cur : Int) ≥ 10) = false := by simp; omega
      have hcJ : decide ((10 : Int) ≤ (cur : Int)) = false := by simp; omega
      have HE := Lib.hid (show s = ⟨(Lib.decDigits n).toArray⟩ by
        have h := HDT.out
        unfold DecTo at h
        rw [if_pos hc] at h
        rw [← HSS.out, h])
      go_wp2
      go_ret
      exact ⟨by rw [HE.out]; rfl, HB.out.trans (HM.out.mono HB.out.size)⟩
    · have hcI : decide ((cur : Int) ≥ 10) = true := by simp; omega
      have hcJ : decide ((10 : Int) ≤ (cur : Int)) = true := by simp; omega
      obtain ⟨q, hq⟩ : ∃ q, cur / 10 = q := ⟨_, rfl⟩
      obtain ⟨d', hd'⟩ : ∃ d', q % 10 = d' := ⟨_, rfl⟩
      have hdl' : d' < 10 := by omega
      have hqc : q < cur := by omega
      have hq1 : (cur : Int).tdiv 10 = (q : Int) := by rw [Int.tdiv_eq_ediv_of_nonneg (by omega)]; omega
      have hq2 : (cur : Int) / 10 = (q : Int) := by omega
      have ht1 : (q : Int).tmod 10 = (d' : Int) := by rw [Int.tmod_eq_emod_of_nonneg (by omega)]; omega
      have ht2 : (q : Int) % 10 = (d' : Int) := by omega
      have hw0 : IntKind.i64.wrap (q : Int) = (q : Int) := w64 _ (by omega) (by omega)
      have hw1 : IntKind.i64.wrap (d' : Int) = (d' : Int) := w64 _ (by omega) (by omega)
      have hw2 : IntKind.i64.wrap (48 + (d' : Int)) = 48 + (d' : Int) := w64 _ (by omega) (by omega)
      have hw3 : IntKind.u8.wrap (48 + (d' : Int)) = 48 + (d' : Int) := by rw [IntKind.wrap_u8]; omega
      have HDN := Lib.hid (show DecTo n q (UInt8.ofNat (48 + d') :: l) by rw [← hd', ← hq]; exact decTo_next HDT.out hc)
      have hcv := digit_conv d' hdl' wr
      obtain ⟨s1, hs1⟩ : ∃ s1 : ByteArray, (⟨[UInt8.ofNat (48 + d')].toArray⟩ : ByteArray) = s1 := ⟨_, rfl⟩
      have HS1 := Lib.hid (show s1 ++ s = ⟨(UInt8.ofNat (48 + d') :: l).toArray⟩ by rw [← hs1, ← HSS.out]; exact app_one _ _)
      have h1z : s1.size = 1 := by rw [← hs1]; rfl
      have H1Z := Lib.hid h1z
      obtain ⟨w2, e2⟩ : ∃ w2, wr.alloc (.cells #[.int .u8 (48 + (d' : Int))] 5) = w2 := ⟨_, rfl⟩
      have HB2 := Lib.hid (show Below w1.heap.size w1 w2 by rw [← e2]; exact HM.out.alloc HM.out.size _)
      rw [hs1, e2] at hcv
      clear hq hd' hs1 h1z
      go_wp2
      case isTrue hh => (exfalso; have h1 := H1Z.out; first | omega | (simp only [ByteArray.size, maxLen] at *; omega))
      clear e2 hcv
      go_roundw
      case rel => exact ⟨q, _, _, by omega, rfl, rfl, by rw [ByteArray.size_append, H1Z.out]; omega, Lib.hid HS1.out.symm, HDN, HB2⟩
      case measure => simp [intOf]; omega
end Go.Proofs.YtncfgkhbenmpoaaGreatDoor
end

section
namespace Go.Proofs.YtncfgkhbenmpoaaGreatDoor
open Go Go.RowKit Go.Proofs Go.Shelf
set_option linter.unusedVariables false

set_option maxRecDepth 100000 in
theorem c122 (p : Option Addr) (cap : Nat) (xs : List Int) (w : World) (hx : RdI w p xs) (hl : xs.length ≤ 1000) (hs : SmallN 1000 xs) :
    Calls Tryz.prog 122 #[.slice p xs.length cap] w fun e w' => e = .returned (.string (rowT ⟨#[]⟩ xs xs.length)) ∧ Below w.heap.size w w' := by
  have HX := Lib.hid hx
  have HS := Lib.hid hs
  clear hx hs
  go_enter Tryz.func122, Tryz.ntmps122
  go_wp2
  go_loopw [3, 4] (fun s i wr => ∃ k : Nat, ∃ t : ByteArray, k ≤ xs.length ∧ i = .int .i64 k ∧ s = .string t ∧ Hid (t = rowT ⟨#[]⟩ xs k) ∧ Hid (Below w.heap.size w wr)) (fun _ i _ => xs.length - (intOf i).toNat)
  case atStart => exact ⟨0, _, Nat.zero_le _, rfl, rfl, Lib.hid rfl, Lib.hid (Below.refl _ _)⟩
  case round =>
    obtain ⟨k, t, hk, rfl, rfl, HT, HB1⟩ := hrel
    by_cases hlt : k < xs.length
    · have hltI : decide ((k : Int) < (xs.length : Int)) = true := by simp; omega
      obtain ⟨b, off, rfl, hc⟩ := (HX.out.below HB1.out).at hlt
      have e1 := hc k hlt
      obtain ⟨x, hxe⟩ : ∃ x : Nat, gi xs k = x := ⟨(gi xs k).toNat, by have := HS.out k hlt; omega⟩
      have hx100 : x < 1000 := by have := HS.out k hlt; omega
      have HST := Lib.hid (rowT_step ⟨#[]⟩ xs k hlt)
      rw [hxe] at e1
      have HXE := Lib.hid hxe
      have hts : t.size ≤ 4 * k := by
        have h := rowT_size (Nat.le_refl 1000) ⟨#[]⟩ xs HS.out k (by omega)
        rw [HT.out]
        have : (⟨#[]⟩ : ByteArray).size = 0 := rfl
        omega
      have hd0 : ¬ 9223372036854775807 < t.size + 1 := by omega
      clear hc hxe
      go_wp2_with fail
      refine (c123 x (by omega) wr).mono ?_
      rintro e w' ⟨rfl, hb⟩
      have HB2 := Lib.hid (HB1.out.trans (hb.mono HB1.out.size))
      clear hb
      have hd1 := dec_len3 x hx100
      have hd2 : ¬ 9223372036854775807 < t.size + 1 + (Lib.decDigits x).length := by omega
      go_wp2
      go_roundw
      case rel => exact ⟨k + 1, _, by omega, by go_num, rfl, Lib.hid (by rw [HST.out, HXE.out, HT.out, ByteArray.append_assoc]; rfl), HB2⟩
      case measure => simp [intOf]; omega
    · obtain rfl : k = xs.length := by omega
      have hltI : decide ((xs.length : Int) < (xs.length : Int)) = false := by simp
      go_wp2
      go_ret
      exact ⟨by rw [HT.out] <;> rfl, HB1.out⟩
end Go.Proofs.YtncfgkhbenmpoaaGreatDoor
end

section
namespace Go.Proofs.YtncfgkhbenmpoaaGreatDoor
open Go Go.RowKit Go.Proofs Go.Shelf
set_option linter.unusedVariables false

set_option maxRecDepth 100000 in
theorem c73 (p : Option Addr) (cap : Nat) (css : List (List Int)) (w : World) (hx : RdC w p css) (hl : LenC css) :
    Calls Tryz.prog 73 #[.slice p css.length cap] w fun e w' => e = .returned (.bool (camsB css)) ∧ w = w' := by
  have HL := Lib.hid hl
  have HX := Lib.hid hx
  have hl1 := hl.1
  clear hl hx
  go_enter Tryz.func73, Tryz.ntmps73
  go_wp2
  go_loop [3] (fun i => ∃ k : Nat, k ≤ css.length ∧ i = .int .i64 k ∧ Hid (CamsTo css k)) (fun i => css.length - (intOf i).toNat)
  case atStart => exact ⟨0, Nat.zero_le _, rfl, Lib.hid (fun i h => by omega)⟩
  case round =>
    obtain ⟨k, hk, rfl, HC⟩ := hrel
    by_cases hlt : k < css.length
    · obtain ⟨b, off, rfl, hcc⟩ := HX.out.at hlt
      obtain ⟨a, c, e1, hr⟩ := hcc k hlt
      have h28 := c28 a c (gl css k) w hr (HL.out.2 k hlt)
      have hltI : decide ((k : Int) < (css.length : Int)) = true := by simp; omega
      clear hcc hr
      cases hc : camB (gl css k) with
      | false =>
        rw [hc] at h28
        have HB := Lib.hid (camsB_bad hlt hc)
        go_wp2_with fail
        refine h28.mono ?_
        rintro e w' ⟨rfl, rfl⟩
        go_wp2
        go_ret
        exact ⟨by rw [HB.out]; rfl, rfl⟩
      | true =>
        rw [hc] at h28
        go_wp2_with fail
        refine h28.mono ?_
        rintro e w' ⟨rfl, rfl⟩
        go_wp2
        go_round
        case rel => exact ⟨k + 1, by omega, by go_num, Lib.hid fun i hi => by
          rcases Nat.lt_or_ge i k with h | h
          · exact HC.out i h
          · obtain rfl : i = k := by omega
            exact hc⟩
        case measure => simp [intOf]; omega
    · obtain rfl : k = css.length := by omega
      have HB := Lib.hid (camsB_all HC.out)
      go_wp2
      go_ret
      refine ⟨?_, rfl⟩
      rw [HB.out]
      show Ending.returned (Value.bool (decide ((css.length : Int) ≤ 4))) = _
      congr 2
      exact decide_eq_decide.2 (by omega)
end Go.Proofs.YtncfgkhbenmpoaaGreatDoor
end

section
namespace Go.Proofs.YtncfgkhbenmpoaaGreatDoor
open Go Go.RowKit Go.Proofs Go.Shelf
set_option linter.unusedVariables false

/-- the value of the first bytes, taken as digits -/
def valT (s : ByteArray) : Nat → Int
  | 0 => 0
  | k + 1 => 10 * valT s k + (byteAt s k - 48)
def DigTo (s : ByteArray) (k : Nat) : Prop := ∀ i, i < k → 48 ≤ byteAt s i ∧ byteAt s i ≤ 57
instance (s : ByteArray) (k : Nat) : Decidable (DigTo s k) := by unfold DigTo; infer_instance
def numF (s : ByteArray) : Int :=
  if s.size = 0 ∨ 3 < s.size ∨ ¬ DigTo s s.size ∨ (⟨(Lib.decDigits (valT s s.size).toNat).toArray⟩ : ByteArray) ≠ s then -1 else valT s s.size
theorem valT_range (s : ByteArray) : ∀ k, k ≤ 3 → DigTo s k → 0 ≤ valT s k ∧ valT s k < 10 ^ k := by
  intro k
  induction k with
  | zero => intro _ _; simp [valT]
  | succ k ih =>
    intro hk hd
    have h1 := ih (by omega) (fun i hi => hd i (by omega))
    have h2 := hd k (by omega)
    simp only [valT]
    rw [Int.pow_succ]
    generalize valT s k = v at *
    generalize byteAt s k = b at *
    generalize (10 : Int) ^ k = P at *
    omega

set_option maxRecDepth 100000 in
theorem c125 (s : ByteArray) (w : World) :
    Calls Tryz.prog 125 #[.string s] w fun e w' => e = .returned (.int .i64 (numF s)) ∧ Below w.heap.size w w' := by
  by_cases h0 : s.size = 0
  · have HN := Lib.hid (show numF s = -1 by unfold numF; rw [if_pos (.inl h0)])
    go_enter Tryz.func125, Tryz.ntmps125
    go_wp2
    go_ret
    exact ⟨by rw [HN.out] <;> rfl, Below.refl _ _⟩
  by_cases h3 : 3 < s.size
  · have HN := Lib.hid (show numF s = -1 by unfold numF; rw [if_pos (.inr (.inl h3))])
    have h3I : decide ((s.size : Int) > 3) = true := decide_eq_true (by omega)
    have h0I : ((s.size : Int) == 0) = false := by rw [beq_eq_false_iff_ne]; omega
    go_enter Tryz.func125, Tryz.ntmps125
    go_wp2
    go_ret
    exact ⟨by rw [HN.out] <;> rfl, Below.refl _ _⟩
  have h3I : decide ((s.size : Int) > 3) = false := decide_eq_false (by omega)
  have h0I : ((s.size : Int) == 0) = false := by rw [beq_eq_false_iff_ne]; omega
  have h4 : s.size ≤ 3 := by omega
  have H4 := Lib.hid h4
  have HB0 := Lib.hid h0
  go_enter Tryz.func125, Tryz.ntmps125
  go_wp2
  go_loopw [3, 4] (fun a v wx => ∃ k : Nat, k ≤ s.size ∧ a = .int .i64 (valT s k) ∧ v = .int .i64 k ∧ Hid (DigTo s k) ∧ w = wx) (fun _ v _ => s.size - (intOf v).toNat)
  case atStart => exact ⟨0, Nat.zero_le _, rfl, rfl, Lib.hid (fun i h => by omega), rfl⟩
  case round =>
    obtain ⟨k, hk, rfl, rfl, HD, rfl⟩ := hrel
    have hv := valT_range s k (by have := H4.out; omega) HD.out
    have hpw : (10 : Int) ^ k ≤ 1000 := by
      have : k = 0 ∨ k = 1 ∨ k = 2 ∨ k = 3 := by omega
      rcases this with rfl | rfl | rfl | rfl <;> decide
    clear h3I h0I h4
    by_cases hlt : k < s.size
    · have hltI : decide ((k : Int) < (s.size : Int)) = true := by simp; omega
      have hix := ix_byte s k hlt w
      have hby := byteAt_range s k
      have HV := Lib.hid (show valT s (k + 1) = 10 * valT s k + (byteAt s k - 48) from rfl)
      have HBY := Lib.hid (show ∀ i, i < k + 1 → i < k ∨ i = k from fun i hi => by omega)
      obtain ⟨b, hb⟩ : ∃ b, byteAt s k = b := ⟨_, rfl⟩
      have HBE := Lib.hid hb
      rw [hb] at hix hby HV
      obtain ⟨v, hve⟩ : ∃ v, valT s k = v := ⟨_, rfl⟩
      rw [hve] at hv HV
      rw [hve]
      clear hb hve
      by_cases hd : 48 ≤ b ∧ b ≤ 57
      · have hd1 : decide (b < 48) = false := by simp; omega
        have hd2 : decide (b > 57) = false := by simp; omega
        have hw1 : IntKind.i64.wrap (10 * v) = 10 * v := w64 _ (by omega) (by omega)
        have hw2 : IntKind.u8.wrap (b - 48) = b - 48 := by rw [IntKind.wrap_u8]; omega
        have hw3 : IntKind.i64.wrap (b - 48) = b - 48 := w64 _ (by omega) (by omega)
        have hw4 : IntKind.i64.wrap (10 * v + (b - 48)) = 10 * v + (b - 48) := w64 _ (by omega) (by omega)
        have HD2 := Lib.hid (show DigTo s (k + 1) from fun i hi => by
          rcases HBY.out i hi with h | h
          · exact HD.out i h
          · rw [h, HBE.out]; exact hd)
        clear hd
        go_wp2
        go_roundw
        case rel => exact ⟨k + 1, by omega, by rw [HV.out], by go_num, HD2, trivial⟩
        case measure => simp [intOf]; omega
      · have HN := Lib.hid (show numF s = -1 by
          unfold numF; rw [if_pos (.inr (.inr (.inl (fun h => hd (by rw [← HBE.out]; exact h k hlt)))))])
        by_cases hd1 : b < 48
        · have hd1I : decide (b < 48) = true := by simp; omega
          go_wp2
          go_ret
          exact ⟨by rw [HN.out] <;> rfl, Below.refl _ _⟩
        · have hd1I : decide (b < 48) = false := by simp; omega
          have hd2I : decide (b > 57) = true := by simp; omega
          go_wp2
          go_ret
          exact ⟨by rw [HN.out] <;> rfl, Below.refl _ _⟩
    · obtain rfl : k = s.size := by omega
      have hltI : decide ((s.size : Int) < (s.size : Int)) = false := by simp
      obtain ⟨n, hn⟩ : ∃ n : Nat, valT s s.size = n := ⟨(valT s s.size).toNat, by omega⟩
      have hnl : n < 100000 := by omega
      rw [hn]
      have HNE := Lib.hid hn
      clear hn hv hpw
      go_wp2_with fail
      refine (c123 n hnl w).mono ?_
      rintro e w' ⟨rfl, hb⟩
      have HB := Lib.hid hb
      clear hb
      by_cases he : (⟨(Lib.decDigits n).toArray⟩ : ByteArray) = s
      · have HN := Lib.hid (show numF s = n by
          unfold numF; rw [if_neg, HNE.out]
          rintro (h | h | h | h)
          · exact HB0.out h
          · have := H4.out; omega
          · exact h HD.out
          · rw [HNE.out] at h; exact h he)
        obtain ⟨t, ht⟩ : ∃ t : ByteArray, (⟨(Lib.decDigits n).toArray⟩ : ByteArray) = t := ⟨_, rfl⟩
        rw [ht] at he ⊢
        have hne : (t.toList == s.toList) = true := by rw [he]; exact beq_self_eq_true _
        clear he
        go_wp2
        go_ret
        exact ⟨by rw [HN.out] <;> rfl, HB.out⟩
      · have HN := Lib.hid (show numF s = -1 by
          unfold numF; rw [if_pos (.inr (.inr (.inr (by rw [HNE.out]; exact he))))])
        obtain ⟨t, ht⟩ : ∃ t : ByteArray, (⟨(Lib.decDigits n).toArray⟩ : ByteArray) = t := ⟨_, rfl⟩
        rw [ht] at he ⊢
        have hne : (t.toList == s.toList) = false := by
          rw [beq_eq_false_iff_ne]
          intro h
          exact he (ByteArray.ext (Array.ext' (by simpa [ByteArray.toList_eq] using h)))
        clear he
        go_wp2
        go_ret
        exact ⟨by rw [HN.out] <;> rfl, HB.out⟩
end Go.Proofs.YtncfgkhbenmpoaaGreatDoor
end

section
namespace Go.Proofs.YtncfgkhbenmpoaaGreatDoor
open Go Go.RowKit Go.Proofs Go.Shelf
set_option linter.unusedVariables false

theorem numF_sound {s : ByteArray} (h : numF s ≠ -1) : ∃ n : Nat, n < 1000 ∧ numF s = n ∧ s = ⟨(Lib.decDigits n).toArray⟩ := by
  unfold numF at h ⊢
  by_cases hc : s.size = 0 ∨ 3 < s.size ∨ ¬ DigTo s s.size ∨ (⟨(Lib.decDigits (valT s s.size).toNat).toArray⟩ : ByteArray) ≠ s
  · rw [if_pos hc] at h; exact absurd rfl h
  · rw [if_neg hc]
    have h3 : ¬ 3 < s.size := fun h => hc (.inr (.inl h))
    have hd : DigTo s s.size := Classical.not_not.1 fun h => hc (.inr (.inr (.inl h)))
    have he : (⟨(Lib.decDigits (valT s s.size).toNat).toArray⟩ : ByteArray) = s := Classical.not_not.1 fun h => hc (.inr (.inr (.inr h)))
    have hv := valT_range s s.size (by omega) hd
    have hpw : (10 : Int) ^ s.size ≤ 1000 := by
      have : s.size = 0 ∨ s.size = 1 ∨ s.size = 2 ∨ s.size = 3 := by omega
      rcases this with e | e | e | e <;> rw [e] <;> decide
    exact ⟨(valT s s.size).toNat, by omega, by omega, he.symm⟩
theorem numF_dec : ∀ n : Nat, n < 1000 → numF ⟨(Lib.decDigits n).toArray⟩ = n := by decide +kernel
end Go.Proofs.YtncfgkhbenmpoaaGreatDoor
end

section
namespace Go.Proofs.YtncfgkhbenmpoaaGreatDoor
open Go Go.Proofs
set_option linter.unusedVariables false

/-- a text is the book of a rule with cams, all numbers below 1000 -/
def Bk (s : ByteArray) (lo hi sl ch : Int) (css : List (List Int)) : Prop := SmallN 1000 [lo, hi, sl, ch] ∧ (∀ i, i < css.length → SmallN 1000 (gl css i)) ∧ textF lo hi sl ch css = s
def NumsOk (l : List ByteArray) : Prop := ∀ i, i < l.length → numF (l.getD i ByteArray.empty) ≠ -1
instance (l : List ByteArray) : Decidable (NumsOk l) := by unfold NumsOk; infer_instance
def headP (l : List ByteArray) : ByteArray := l.getD 0 ByteArray.empty
/-- the numbers of a row with some word -/
def toldF (word row : ByteArray) : Option (List Int) :=
  if headP (partsF 32 row) = word ∧ NumsOk (partsF 32 row).tail then some ((partsF 32 row).tail.map numF) else none

theorem gi_map (f : ByteArray → Int) (l : List ByteArray) (i : Nat) (h : i < l.length) : gi (l.map f) i = f (l.getD i ByteArray.empty) := by
  unfold gi
  rw [List.getD_eq_getElem?_getD, List.getD_eq_getElem?_getD, List.getElem?_map, List.getElem?_eq_getElem h]; rfl
theorem nums_small {l : List ByteArray} (h : NumsOk l) : SmallN 1000 (l.map numF) := by
  intro i hi
  rw [List.length_map] at hi
  rw [gi_map numF l i hi]
  obtain ⟨n, h1, h2, _⟩ := numF_sound (h i hi)
  omega
theorem count_part (c d : UInt8) : ∀ (s : List UInt8) (p : List UInt8), p ∈ cutL c s → p.length ≤ s.length := by
  intro s
  induction s with
  | nil => intro p hp; simp [cutL] at hp; subst hp; simp
  | cons b r ih =>
    intro p hp
    by_cases h : b = c
    · subst h
      rw [cutL_hit] at hp
      rcases List.mem_cons.1 hp with rfl | h1
      · simp
      · have := ih p h1; simp; omega
    · rw [cutL_other h] at hp
      obtain ⟨u, v, e⟩ := cutL_shape c r
      rw [e] at hp ih
      rcases List.mem_cons.1 hp with rfl | h1
      · have := ih u List.mem_cons_self; simp at this ⊢; omega
      · have := ih p (List.mem_cons_of_mem _ h1); simp; omega
theorem part_size {c : UInt8} {s p : ByteArray} (h : p ∈ partsF c s) : p.size ≤ s.size := by
  unfold partsF at h
  obtain ⟨l, hl, rfl⟩ := List.mem_map.1 h
  have := count_part c c _ _ hl
  rw [size_toList, data_mkB, size_toList s]
  exact this
theorem parts_count (c : UInt8) (s : ByteArray) : (partsF c s).length ≤ s.size + 1 := by
  rw [partsF_len, size_toList]
  have := List.count_le_length (a := c) (l := s.data.toList)
  omega
theorem getD_mem {l : List ByteArray} {i : Nat} (h : i < l.length) : l.getD i ByteArray.empty ∈ l := by
  rw [List.getD_eq_getElem?_getD, List.getElem?_eq_getElem h]; exact List.getElem_mem h
theorem told_small {w r : ByteArray} {xs : List Int} (h : toldF w r = some xs) : SmallN 1000 xs ∧ xs.length ≤ r.size := by
  unfold toldF at h
  split at h
  · rename_i hc
    cases h
    refine ⟨nums_small hc.2, ?_⟩
    rw [List.length_map, List.length_tail]
    have := parts_count 32 r
    omega
  · cases h
/-- the bytes of a row -/
theorem row_cut {word : ByteArray} (hw : 32 ∉ word.data.toList) (xs : List Int) : ∀ k, k ≤ xs.length → cutL 32 (rowT word xs k).data.toList = word.data.toList :: (xs.take k).map fun x => Lib.decDigits x.toNat := by
  intro k
  induction k with
  | zero => intro _; exact cutL_no hw
  | succ k ih =>
    intro hk
    rw [rowT_step word xs k (by omega), ba_append, ba_append]
    have e : (⟨#[32]⟩ : ByteArray).data.toList ++ (⟨(Lib.decDigits (gi xs k).toNat).toArray⟩ : ByteArray).data.toList = 32 :: Lib.decDigits (gi xs k).toNat := by simp
    rw [e, cutL_snoc _ (fun hm => by have := dec_mem _ _ hm; simp at this), ih (by omega), List.take_succ_eq_append_getElem (by omega), List.map_append, List.cons_append]
    congr 2
    unfold gi
    rw [List.getD_eq_getElem?_getD, List.getElem?_eq_getElem (by omega)]; rfl
theorem row_parts {word : ByteArray} (hw : 32 ∉ word.data.toList) (xs : List Int) : partsF 32 (rowT word xs xs.length) = word :: xs.map fun x => ⟨(Lib.decDigits x.toNat).toArray⟩ := by
  unfold partsF
  rw [row_cut hw xs xs.length (Nat.le_refl _), List.map_cons, mkB_data, List.take_length, List.map_map]
  rfl
theorem smallN_mem {N : Nat} {xs : List Int} (h : SmallN N xs) {x : Int} (hx : x ∈ xs) : 0 ≤ x ∧ x < N := by
  obtain ⟨i, hi, rfl⟩ := List.getElem_of_mem hx
  have := h i hi
  unfold gi at this
  rwa [List.getD_eq_getElem?_getD, List.getElem?_eq_getElem hi] at this
theorem numF_of {x : Int} (h : 0 ≤ x ∧ x < 1000) : numF ⟨(Lib.decDigits x.toNat).toArray⟩ = x := by rw [numF_dec x.toNat (by omega)]; omega
theorem map_num {xs : List Int} (h : SmallN 1000 xs) : (xs.map fun x => (⟨(Lib.decDigits x.toNat).toArray⟩ : ByteArray)).map numF = xs := by
  rw [List.map_map]
  conv => rhs; rw [← List.map_id xs]
  exact List.map_congr_left fun x hx => numF_of (smallN_mem h hx)
theorem told_row {word : ByteArray} (hw : 32 ∉ word.data.toList) {xs : List Int} (h : SmallN 1000 xs) : toldF word (rowT word xs xs.length) = some xs := by
  unfold toldF
  rw [row_parts hw, if_pos, List.tail_cons, map_num h]
  refine ⟨rfl, fun i hi => ?_⟩
  rw [List.tail_cons, List.length_map] at hi
  rw [List.tail_cons]
  have e := gi_map numF (xs.map fun x => (⟨(Lib.decDigits x.toNat).toArray⟩ : ByteArray)) i (by rw [List.length_map]; exact hi)
  rw [map_num h] at e
  rw [← e]
  have := h i hi
  omega
theorem noB_book : (32 : UInt8) ∉ bookW.data.toList := by simp [bookW]
theorem noB_cam : (32 : UInt8) ∉ camW.data.toList := by simp [camW]

/-! the rows of a text -/
def rowsF (s : ByteArray) : List ByteArray := partsF 10 s
theorem cut_flat : ∀ (L : List (List UInt8)), NoEnd L → cutL 10 (flat L) = L ++ [[]] := by
  intro L
  induction L with
  | nil => intro _; rfl
  | cons l r ih =>
    intro h
    rw [flat, cutL_app (fun hm => h.head 10 hm rfl), ih h.tail]; rfl
theorem rows_text (lo hi sl ch : Int) (css : List (List Int)) : rowsF (textF lo hi sl ch css) = linesF lo hi sl ch css css.length ++ [endF (sumRows (linesF lo hi sl ch css css.length) (css.length + 1)), ⟨#[]⟩] := by
  unfold rowsF partsF
  rw [text_flat, cut_flat _ (linL_noEnd lo hi sl ch css), List.map_append]
  unfold linL
  rw [List.map_map]
  have : (mkB ∘ fun x : ByteArray => x.data.toList) = id := by funext x; exact mkB_data x
  rw [this, List.map_id]
  unfold allF
  rw [List.append_assoc]
  rfl
theorem lines_get (lo hi sl ch : Int) (css : List (List Int)) (R : List ByteArray) (i : Nat) (h : i < css.length) : (linesF lo hi sl ch css css.length ++ R).getD (i + 1) ByteArray.empty = rowT camW (gl css i) (gl css i).length := by
  have hl := linesF_len lo hi sl ch css
  rw [List.getD_eq_getElem?_getD, List.getElem?_append_left (by omega)]
  unfold linesF gl
  simp [h]
theorem lines_head (lo hi sl ch : Int) (css : List (List Int)) (R : List ByteArray) : (linesF lo hi sl ch css css.length ++ R).getD 0 ByteArray.empty = rowT bookW [lo, hi, sl, ch] 4 := rfl

/-- what the program's reader asks -/
def Parsed (s : ByteArray) (lo hi sl ch : Int) (css : List (List Int)) : Prop :=
  3 ≤ (rowsF s).length ∧ toldF bookW (headP (rowsF s)) = some [lo, hi, sl, ch] ∧ css.length = (rowsF s).length - 3 ∧ (∀ i, i < css.length → toldF camW ((rowsF s).getD (i + 1) ByteArray.empty) = some (gl css i)) ∧ textF lo hi sl ch css = s
theorem parsed_of_bk {s : ByteArray} {lo hi sl ch : Int} {css : List (List Int)} (h : Bk s lo hi sl ch css) : Parsed s lo hi sl ch css := by
  obtain ⟨h1, h2, rfl⟩ := h
  have hl := linesF_len lo hi sl ch css
  unfold Parsed
  rw [rows_text]
  refine ⟨by simp; omega, ?_, by simp; omega, fun i hi => ?_, rfl⟩
  · unfold headP
    rw [lines_head]
    exact told_row noB_book h1
  · rw [lines_get _ _ _ _ _ _ i hi]
    exact told_row noB_cam (h2 i hi)
theorem bk_of_parsed {s : ByteArray} {lo hi sl ch : Int} {css : List (List Int)} (h : Parsed s lo hi sl ch css) : Bk s lo hi sl ch css :=
  ⟨(told_small h.2.1).1, fun i hi => (told_small (h.2.2.2.1 i hi)).1, h.2.2.2.2⟩
theorem gl_same {a b : List (List Int)} (hl : a.length = b.length) (h : ∀ i, i < a.length → gl a i = gl b i) : a = b := by
  refine List.ext_getElem hl fun i h1 h2 => ?_
  have := h i h1
  unfold gl at this
  rw [List.getD_eq_getElem?_getD, List.getD_eq_getElem?_getD, List.getElem?_eq_getElem h1, List.getElem?_eq_getElem h2] at this
  exact this
theorem bk_unique {s : ByteArray} {lo hi sl ch lo' hi' sl' ch' : Int} {css css' : List (List Int)} (h : Bk s lo hi sl ch css) (h' : Bk s lo' hi' sl' ch' css') : lo = lo' ∧ hi = hi' ∧ sl = sl' ∧ ch = ch' ∧ css = css' := by
  have p := parsed_of_bk h
  have q := parsed_of_bk h'
  have e := p.2.1.symm.trans q.2.1
  simp at e
  refine ⟨e.1, e.2.1, e.2.2.1, e.2.2.2, gl_same (p.2.2.1.trans q.2.2.1.symm) fun i hi => ?_⟩
  exact Option.some.inj ((p.2.2.2.1 i hi).symm.trans (q.2.2.2.1 i (by rw [q.2.2.1, ← p.2.2.1]; exact hi)))
theorem parsed_len {s : ByteArray} {lo hi sl ch : Int} {css : List (List Int)} (h : Parsed s lo hi sl ch css) (hs : s.size ≤ 500) : BookOk 1000 lo hi sl ch css := by
  have hc := parts_count 10 s
  unfold Parsed at h
  unfold rowsF at h
  refine ⟨(told_small h.2.1).1, by omega, fun i hi => ?_⟩
  have ht := told_small (h.2.2.2.1 i hi)
  have := part_size (getD_mem (l := partsF 10 s) (i := i + 1) (by omega))
  exact ⟨ht.1, by omega⟩

/-! the document's reader: line by line -/
structure Rst where
  a : Int
  b : Int
  c : Int
  d : Int
  l : List (List Int)
def stepR (st : Rst) (row : ByteArray) : Option Rst :=
  if NumsOk (partsF 32 row).tail then
    if headP (partsF 32 row) = camW then some { st with l := st.l ++ [(partsF 32 row).tail.map numF] }
    else if headP (partsF 32 row) = bookW ∧ (partsF 32 row).tail.length = 4 then some { st with a := gi ((partsF 32 row).tail.map numF) 0, b := gi ((partsF 32 row).tail.map numF) 1, c := gi ((partsF 32 row).tail.map numF) 2, d := gi ((partsF 32 row).tail.map numF) 3 }
    else none
  else none
def stR (rows : List ByteArray) : Nat → Option Rst
  | 0 => some ⟨0, 0, 0, 0, []⟩
  | k + 1 => (stR rows k).bind fun st => stepR st (rows.getD k ByteArray.empty)
def RstOk (st : Rst) (k : Nat) : Prop := SmallN 1000 [st.a, st.b, st.c, st.d] ∧ st.l.length ≤ k ∧ ∀ i, i < st.l.length → SmallN 1000 (gl st.l i) ∧ (gl st.l i).length ≤ 500
theorem small4 {a b c d : Int} : SmallN 1000 [a, b, c, d] ↔ (0 ≤ a ∧ a < 1000) ∧ (0 ≤ b ∧ b < 1000) ∧ (0 ≤ c ∧ c < 1000) ∧ (0 ≤ d ∧ d < 1000) := by
  constructor
  · intro h
    exact ⟨h 0 (by simp), h 1 (by simp), h 2 (by simp), h 3 (by simp)⟩
  · rintro ⟨h0, h1, h2, h3⟩ i hi
    match i, hi with
    | 0, _ => exact h0
    | 1, _ => exact h1
    | 2, _ => exact h2
    | 3, _ => exact h3
theorem gl_snoc (css : List (List Int)) (x : List Int) (i : Nat) : gl (css ++ [x]) i = if i < css.length then gl css i else if i = css.length then x else [] := by
  unfold gl
  rw [List.getD_eq_getElem?_getD, List.getD_eq_getElem?_getD]
  by_cases h : i < css.length
  · rw [if_pos h, List.getElem?_append_left h]
  · rw [if_neg h, List.getElem?_append_right (by omega)]
    by_cases h2 : i = css.length
    · rw [if_pos h2, h2, Nat.sub_self]; rfl
    · rw [if_neg h2]
      obtain ⟨m, hm⟩ : ∃ m, i - css.length = m + 1 := ⟨i - css.length - 1, by omega⟩
      rw [hm]; rfl
theorem stepR_ok {st st' : Rst} {row : ByteArray} {k : Nat} (h : RstOk st k) (hr : row.size ≤ 500) (e : stepR st row = some st') : RstOk st' (k + 1) := by
  unfold stepR at e
  by_cases h1 : NumsOk (partsF 32 row).tail
  · rw [if_pos h1] at e
    have hn := nums_small h1
    have hl : ((partsF 32 row).tail.map numF).length ≤ 500 := by rw [List.length_map, List.length_tail]; have := parts_count 32 row; omega
    generalize hx : (partsF 32 row).tail.map numF = x at *
    by_cases h2 : headP (partsF 32 row) = camW
    · rw [if_pos h2] at e
      cases e
      refine ⟨h.1, by simp; exact h.2.1, fun i hi => ?_⟩
      simp only [gl_snoc]
      by_cases h3 : i < st.l.length
      · rw [if_pos h3]; exact h.2.2 i h3
      · simp only [List.length_append, List.length_singleton] at hi
        rw [if_neg h3, if_pos (by omega)]
        exact ⟨hn, hl⟩
    · rw [if_neg h2] at e
      by_cases h3 : headP (partsF 32 row) = bookW ∧ (partsF 32 row).tail.length = 4
      · rw [if_pos h3] at e
        cases e
        have h4 : x.length = 4 := by rw [← hx, List.length_map]; exact h3.2
        exact ⟨small4.2 ⟨hn 0 (by omega), hn 1 (by omega), hn 2 (by omega), hn 3 (by omega)⟩, Nat.le_succ_of_le h.2.1, h.2.2⟩
      · rw [if_neg h3] at e; cases e
  · rw [if_neg h1] at e; cases e
theorem told_nums {w r : ByteArray} {xs : List Int} (h : toldF w r = some xs) : NumsOk (partsF 32 r).tail ∧ headP (partsF 32 r) = w ∧ (partsF 32 r).tail.map numF = xs := by
  unfold toldF at h
  split at h
  · rename_i hc
    exact ⟨hc.2, hc.1, Option.some.inj h⟩
  · cases h
theorem stR_bk {s : ByteArray} {lo hi sl ch : Int} {css : List (List Int)} (h : Parsed s lo hi sl ch css) : ∀ k, k ≤ css.length → stR (rowsF s) (k + 1) = some ⟨lo, hi, sl, ch, css.take k⟩ := by
  intro k
  induction k with
  | zero =>
    intro _
    obtain ⟨h1, h2, h3⟩ := told_nums h.2.1
    have hne : ¬ headP (partsF 32 (headP (rowsF s))) = camW := by rw [h2]; decide
    have hl4 : (partsF 32 (headP (rowsF s))).tail.length = 4 := by have := congrArg List.length h3; rw [List.length_map] at this; exact this
    show stepR ⟨0, 0, 0, 0, []⟩ (headP (rowsF s)) = _
    unfold stepR
    rw [if_pos h1, if_neg hne, if_pos ⟨h2, hl4⟩, h3]
    rfl
  | succ k ih =>
    intro hk
    obtain ⟨h1, h2, h3⟩ := told_nums (h.2.2.2.1 k (by omega))
    rw [stR, ih (by omega)]
    show stepR ⟨lo, hi, sl, ch, css.take k⟩ ((rowsF s).getD (k + 1) ByteArray.empty) = _
    unfold stepR
    rw [if_pos h1, if_pos h2, h3, List.take_succ_eq_append_getElem (by omega)]
    unfold gl
    rw [List.getD_eq_getElem?_getD, List.getElem?_eq_getElem (by omega)]; rfl
theorem stR_mono {rows : List ByteArray} {k : Nat} (h : stR rows k = none) : ∀ n, k ≤ n → stR rows n = none := by
  intro n hn
  induction n with
  | zero => obtain rfl : k = 0 := by omega
            exact h
  | succ n ih =>
    by_cases h2 : k = n + 1
    · rw [← h2]; exact h
    · rw [stR, ih (by omega)]; rfl
/-- a line that is refused: no book -/
theorem noBk_of_step {s : ByteArray} {k : Nat} (hk : k ≤ (rowsF s).length - 2) (h : stR (rowsF s) k = none) : ∀ lo hi sl ch css, ¬ Bk s lo hi sl ch css := by
  intro lo hi sl ch css hb
  have hp := parsed_of_bk hb
  have h1 := stR_bk hp css.length (Nat.le_refl _)
  rw [stR_mono h (css.length + 1) (by have := hp.2.2.1; have := hp.1; omega)] at h1
  cases h1
/-- all lines are read: the book is theirs, if it is one -/
theorem bk_of_steps {s : ByteArray} {st : Rst} (h : stR (rowsF s) ((rowsF s).length - 2) = some st) {lo hi sl ch : Int} {css : List (List Int)} (hb : Bk s lo hi sl ch css) : textF st.a st.b st.c st.d st.l = s := by
  have hp := parsed_of_bk hb
  have h1 := stR_bk hp css.length (Nat.le_refl _)
  rw [show css.length + 1 = (rowsF s).length - 2 by have := hp.2.2.1; have := hp.1; omega, h, List.take_length] at h1
  cases h1
  exact hb.2.2

/-! the document's book, laid line by line -/
theorem rowT_word (word : ByteArray) (xs : List Int) : ∀ k, k ≤ xs.length → word ++ rowT ⟨#[]⟩ xs k = rowT word xs k := by
  intro k
  induction k with
  | zero => intro _; apply ba_inj; rw [ba_append]; simp [rowT]
  | succ k ih =>
    intro hk
    rw [rowT_step _ xs k (by omega), rowT_step word xs k (by omega), ← ih (by omega), ByteArray.append_assoc]
def catF (ls : List ByteArray) (k : Nat) : ByteArray := (ls.take k).foldl (fun acc l => acc ++ l ++ ⟨#[10]⟩) ⟨#[]⟩
theorem catF_step (ls : List ByteArray) (k : Nat) (hk : k < ls.length) : catF ls (k + 1) = catF ls k ++ ls.getD k ByteArray.empty ++ ⟨#[10]⟩ := by
  unfold catF
  rw [List.take_succ_eq_append_getElem hk, List.foldl_append, List.getD_eq_getElem?_getD, List.getElem?_eq_getElem hk]; rfl
theorem flat_snoc (A : List (List UInt8)) (x : List UInt8) : flat (A ++ [x]) = flat A ++ (x ++ [10]) := by
  induction A with
  | nil => simp [flat]
  | cons a r ih => simp [flat, ih]
theorem catF_flat (ls : List ByteArray) : ∀ k, k ≤ ls.length → (catF ls k).data.toList = flat ((ls.take k).map (·.data.toList)) := by
  intro k
  induction k with
  | zero => intro _; simp [catF, flat]
  | succ k ih =>
    intro hk
    rw [catF_step ls k (by omega), ba_append, ba_append, ih (by omega), List.take_succ_eq_append_getElem (by omega), List.map_append, List.map_cons, List.map_nil, flat_snoc, List.getD_eq_getElem?_getD, List.getElem?_eq_getElem (by omega)]
    simp
theorem text_cat (lo hi sl ch : Int) (css : List (List Int)) : catF (linesF lo hi sl ch css css.length) (css.length + 1) ++ endF (sumRows (linesF lo hi sl ch css css.length) (css.length + 1)) ++ ⟨#[10]⟩ = textF lo hi sl ch css := by
  apply ba_inj
  have hl := linesF_len lo hi sl ch css
  rw [ba_append, ba_append, catF_flat _ _ (by omega), text_flat, ← hl, List.take_length]
  unfold linL allF
  rw [List.map_append, List.map_cons, List.map_nil, flat_snoc, hl]
  simp
end Go.Proofs.YtncfgkhbenmpoaaGreatDoor
end
