/-
  Texts of lines, plain (no program in sight): lines and their ends, parts between single bytes, the check of a text, a spoilt text.
  Logs of pieces as defined, plain: how long they are, a spoilt log, what reading answers (no program in sight).
  The program's Print: the document of a piece, or the error; a law's walk.
  The law of checks (the walk): a log of which one digit was changed is never read.
  The law SlackSpoilt: its card. Conditions: none of the input; the tables of the library that the row lists are as the program lays them (the tie is given).
-/
import Derived.Test.YtlednchfifphgabGreatDoorGI
import Derived.Lib.Join
import Derived.Lib.SplitLaws
import Derived.Lib.IndexBytes
import Derived.Lib.ItoaNum
import Derived.Lib.ItoaMem
import Derived.Test.YtlednchfifphgabGreatDoorGA
import Derived.Test.YtlednchfifphgabGreatDoorGY
import Derived.Test.YtlednchfifphgabGreatDoorGG
import Derived.Test.YtlednchfifphgabGreatDoorGK
import Derived.Test.YtlednchfifphgabGreatDoorGL
import Derived.Laws.IdiomStrings
import Derived.Deep.Cut
import Derived.Test.YtlednchfifphgabGreatDoorGZ
import Derived.Test.YtlednchfifphgabGreatDoorCards
section
namespace Go.Proofs.YtlednchfifphgabGreatDoor
open Go
set_option linter.unusedVariables false


theorem flat_at {l : List UInt8} {s : List UInt8} : (l ++ 10 :: s)[l.length]? = some 10 := by simp
theorem flat_lt {l s : List UInt8} {j : Nat} (h : j < l.length) : (l ++ 10 :: s)[j]? = l[j]? := List.getElem?_append_left h
theorem flat_gt {l s : List UInt8} (j : Nat) : (l ++ 10 :: s)[l.length + 1 + j]? = s[j]? := by
  rw [List.getElem?_append_right (by omega), show l.length + 1 + j - l.length = j + 1 by omega, List.getElem?_cons_succ]
theorem get_ne {l : List UInt8} (h : ∀ b ∈ l, b ≠ 10) {j : Nat} : l[j]? ≠ some 10 := fun e => h 10 (List.mem_of_getElem? e) rfl
theorem len_same {l l' s s' : List UInt8} (h : ∀ b ∈ l, b ≠ 10) (h' : ∀ b ∈ l', b ≠ 10) (a1 : (l ++ 10 :: s)[l.length]? = (l' ++ 10 :: s')[l.length]?) (a2 : (l ++ 10 :: s)[l'.length]? = (l' ++ 10 :: s')[l'.length]?) : l.length = l'.length := by
  rcases Nat.lt_trichotomy l.length l'.length with h1 | h1 | h1
  · rw [flat_at, flat_lt h1] at a1
    exact absurd a1.symm (get_ne h')
  · exact h1
  · rw [flat_at, flat_lt h1] at a2
    exact absurd a2 (get_ne h)
theorem flat_inj : ∀ (L L' : List (List UInt8)), NoEnd L → NoEnd L' → flat L = flat L' → L = L' := by
  intro L
  induction L with
  | nil =>
    intro L' _ _ h
    cases L' with
    | nil => rfl
    | cons l' r' => simp [flat] at h
  | cons l r ih =>
    intro L' hn hn' h
    cases L' with
    | nil => simp [flat] at h
    | cons l' r' =>
      simp only [flat] at h; have hl := len_same hn.head hn'.head (by rw [h]) (by rw [h]); obtain ⟨e1, e2⟩ := List.append_inj h hl; rw [e1, ih r' hn.tail hn'.tail (by simpa using e2)]
theorem flat_diff : ∀ (L L' : List (List UInt8)) (at_ : Nat) (b b' : UInt8), NoEnd L → NoEnd L' → (∀ j, j ≠ at_ → (flat L)[j]? = (flat L')[j]?) → (flat L)[at_]? = some b → (flat L')[at_]? = some b' → b ≠ 10 → b' ≠ 10 →
    ∃ (A B : List (List UInt8)) (l l' : List UInt8) (k : Nat), L = A ++ l :: B ∧ L' = A ++ l' :: B ∧ l.length = l'.length ∧ l[k]? = some b ∧ l'[k]? = some b' ∧ ∀ j, j ≠ k → l[j]? = l'[j]? := by
  intro L
  induction L with
  | nil => intro L' at_ b b' _ _ _ h; simp [flat] at h
  | cons l r ih =>
    intro L' at_ b b' hn hn' hj h h' hb hb'
    cases L' with
    | nil => simp [flat] at h'
    | cons l' r' =>
      simp only [flat] at hj h h'
      have hl : l.length = l'.length := by
        rcases Nat.lt_trichotomy l.length l'.length with h1 | h1 | h1
        · by_cases he : l.length = at_
          · rw [← he, flat_at] at h; exact absurd (Option.some.inj h).symm hb
          · have := hj _ he
            rw [flat_at, flat_lt h1] at this; exact absurd this.symm (get_ne hn'.head)
        · exact h1
        · by_cases he : l'.length = at_
          · rw [← he, flat_at] at h'; exact absurd (Option.some.inj h').symm hb'
          · have := hj _ he
            rw [flat_at, flat_lt h1] at this; exact absurd this (get_ne hn.head)
      rcases Nat.lt_trichotomy at_ l.length with h1 | h1 | h1
      · rw [flat_lt h1] at h
        rw [flat_lt (by omega)] at h'
        have hr : r = r' := by
          refine flat_inj r r' hn.tail hn'.tail (List.ext_getElem? fun j => ?_); have := hj (l.length + 1 + j) (by omega); rw [flat_gt, hl, flat_gt] at this; exact this
        refine ⟨[], r, l, l', at_, rfl, by rw [hr]; rfl, hl, h, h', fun j hne => ?_⟩
        rcases Nat.lt_or_ge j l.length with h2 | h2
        · have := hj j hne
          rw [flat_lt h2, flat_lt (by omega)] at this; exact this
        · rw [List.getElem?_eq_none h2, List.getElem?_eq_none (by omega)]
      · rw [h1, flat_at] at h
        exact absurd (Option.some.inj h).symm hb
      · have hll : l = l' := by
          refine List.ext_getElem? fun j => ?_
          rcases Nat.lt_or_ge j l.length with h2 | h2
          · have := hj j (by omega)
            rw [flat_lt h2, flat_lt (by omega)] at this; exact this
          · rw [List.getElem?_eq_none h2, List.getElem?_eq_none (by omega)]
        subst hll; obtain ⟨m, rfl⟩ : ∃ m, at_ = l.length + 1 + m := ⟨at_ - l.length - 1, by omega⟩; rw [flat_gt] at h h'
        obtain ⟨A, B, x, x', k, e1, e2, e3, e4, e5, e6⟩ := ih r' m b b' hn.tail hn'.tail (fun j hne => by
          have := hj (l.length + 1 + j) (by omega); rw [flat_gt, flat_gt] at this; exact this) h h' hb hb'
        exact ⟨l :: A, B, x, x', k, by rw [e1]; rfl, by rw [e2]; rfl, e3, e4, e5, e6⟩

theorem rowSum_diff (i : Nat) (l l' : ByteArray) (k : Nat) (h : ∀ j, j ≠ k → byteAt l j = byteAt l' j) : ∀ n, rowSum i l n - rowSum i l' n = if k < n then (byteAt l k - byteAt l' k) * ((k : Int) + 1) * ((i : Int) + 1) else 0 := by
  intro n
  induction n with
  | zero => simp [rowSum]
  | succ n ih =>
    simp only [rowSum]
    by_cases hk : n = k
    · subst hk
      rw [if_neg (by omega)] at ih; rw [if_pos (by omega), Int.sub_mul, Int.sub_mul]; omega
    · rw [h n hk]
      by_cases hlt : k < n
      · rw [if_pos hlt] at ih
        rw [if_pos (by omega)]; omega
      · rw [if_neg hlt] at ih
        rw [if_neg (by omega)]; omega
theorem sumRows_diff (ls ls' : List ByteArray) (i0 : Nat) (h : ∀ j, j ≠ i0 → ls.getD j ByteArray.empty = ls'.getD j ByteArray.empty) : ∀ n, sumRows ls n - sumRows ls' n =
    if i0 < n then rowSum i0 (ls.getD i0 ByteArray.empty) (ls.getD i0 ByteArray.empty).size - rowSum i0 (ls'.getD i0 ByteArray.empty) (ls'.getD i0 ByteArray.empty).size else 0 := by
  intro n
  induction n with
  | zero => simp [sumRows]
  | succ n ih =>
    simp only [sumRows]
    by_cases hk : n = i0
    · subst hk
      rw [if_neg (by omega)] at ih; rw [if_pos (by omega)]; omega
    · rw [h n hk]
      by_cases hlt : i0 < n
      · rw [if_pos hlt] at ih
        rw [if_pos (by omega)]; omega
      · rw [if_neg hlt] at ih
        rw [if_neg (by omega)]; omega
theorem nat113 : ∀ d, d < 10 → ∀ k, k < 100 → ∀ i, i < 20 → 0 < d → ¬ d * (k + 1) * (i + 1) % 113 = 0 := by decide +kernel
theorem int113 (b b' : Int) (hb : 48 ≤ b ∧ b ≤ 57) (hb' : 48 ≤ b' ∧ b' ≤ 57) (hne : b ≠ b') (k i : Nat) (hk : k < 100) (hi : i < 20) (S S' : Int) (h : S - S' = (b - b') * ((k : Int) + 1) * ((i : Int) + 1)) (hm : S % 113 = S' % 113) : False := by
  have key : ∀ d : Nat, 0 < d → d < 10 → ∀ q : Int, (d : Int) * ((k : Int) + 1) * ((i : Int) + 1) = 113 * q → False := by
    intro d h0 h1 q hq; refine nat113 d h1 k hk i hi h0 ?_; have e : ((d * (k + 1) * (i + 1) : Nat) : Int) = 113 * q := by rw [← hq]; simp
    omega
  rcases Int.lt_or_lt_of_ne hne with h1 | h1
  · obtain ⟨d, hd⟩ : ∃ d : Nat, b' - b = d := ⟨(b' - b).toNat, by omega⟩
    refine key d (by omega) (by omega) (S' / 113 - S / 113) ?_; rw [← hd]
    have e : (b' - b) * ((k : Int) + 1) * ((i : Int) + 1) = -((b - b') * ((k : Int) + 1) * ((i : Int) + 1)) := by
      rw [← Int.neg_mul, ← Int.neg_mul]; congr 2; omega
    rw [e, ← h]; omega
  · obtain ⟨d, hd⟩ : ∃ d : Nat, b - b' = d := ⟨(b - b').toNat, by omega⟩
    refine key d (by omega) (by omega) (S / 113 - S' / 113) ?_; rw [← hd, ← h]; omega
theorem dec1 {n : Int} (h : 0 ≤ n ∧ n ≤ 9) : (decA n).data.toList = [UInt8.ofNat (48 + n.toNat)] := by
  unfold decA; rw [Lib.decDigits, dif_pos (by omega)]
theorem ofNat_inj {a b : Nat} (ha : a < 10) (hb : b < 10) (h : UInt8.ofNat (48 + a) = UInt8.ofNat (48 + b)) : a = b := by
  have := congrArg UInt8.toNat h; simp only [UInt8.toNat_ofNat'] at this; omega
theorem endF_inj {S S' : Int} (h : (chkF S).data.toList = (chkF S').data.toList) : S % 113 = S' % 113 := by
  unfold chkF at h; simp only [ba_append] at h; rw [dec1 (by omega), dec1 (by omega), dec1 (by omega), dec1 (by omega), dec1 (by omega), dec1 (by omega)] at h; simp only [List.cons_append, List.nil_append, List.cons.injEq, and_true, true_and] at h; obtain ⟨h1, h2, h3⟩ := h; have e1 := ofNat_inj (by omega) (by omega) h1; have e2 := ofNat_inj (by omega) (by omega) h2; have e3 := ofNat_inj (by omega) (by omega) h3; omega
theorem map_inj {ls ls' : List ByteArray} (h : ls.map (·.data.toList) = ls'.map (·.data.toList)) : ls = ls' := by
  induction ls generalizing ls' with
  | nil => cases ls' with
    | nil => rfl
    | cons x r => simp at h
  | cons x r ih =>
    cases ls' with
    | nil => simp at h
    | cons x' r' =>
      simp only [List.map_cons, List.cons.injEq] at h; rw [ba_inj h.1, ih h.2]
theorem getD_map (ls : List ByteArray) (i : Nat) : (ls.map (·.data.toList)).getD i [] = (ls.getD i ByteArray.empty).data.toList := by
  rw [List.getD_eq_getElem?_getD, List.getD_eq_getElem?_getD, List.getElem?_map]
  cases ls[i]? <;> rfl
theorem spoilt_rows {rows rows' : List ByteArray} (hn : ∀ l ∈ rows, NoE l) (hn' : ∀ l ∈ rows', NoE l) (hsz : ∀ l ∈ rows, l.size < 100) (hrl : rows.length < 20) (at_ : Nat) (b b' : UInt8)
    (h : (txtF rows).data.toList[at_]? = some b) (h' : (txtF rows').data.toList[at_]? = some b') (hb : 48 ≤ b.toNat ∧ b.toNat ≤ 57) (hb' : 48 ≤ b'.toNat ∧ b'.toNat ≤ 57) (hne : b ≠ b')
    (hj : ∀ j, j ≠ at_ → (txtF rows).data.toList[j]? = (txtF rows').data.toList[j]?) : False := by
  rw [txtF_data] at h h'; simp only [txtF_data] at hj; obtain ⟨A, B, l, l', k, e1, e2, e3, e4, e5, e6⟩ := flat_diff _ _ at_ b b' (txtL_noEnd hn) (txtL_noEnd hn') hj h h' (ne10 (by omega)) (ne10 (by omega)); have hS : txtL rows = rows.map (·.data.toList) ++ [(chkF (sumRows rows rows.length)).data.toList] := rfl; have hS' : txtL rows' = rows'.map (·.data.toList) ++ [(chkF (sumRows rows' rows'.length)).data.toList] := rfl; rw [e1] at hS; rw [e2] at hS'
  rcases List.eq_nil_or_concat B with hB | ⟨B0, x, hB⟩
  · subst hB
    obtain ⟨p1, p2⟩ := List.append_inj' (t₁ := [l]) hS rfl; obtain ⟨q1, q2⟩ := List.append_inj' (t₁ := [l']) hS' rfl; have hp := map_inj (p1.symm.trans q1); rw [hp] at p2; have : l = l' := (List.head_eq_of_cons_eq p2).trans (List.head_eq_of_cons_eq q2).symm; rw [this, e5] at e4; exact hne (Option.some.inj e4).symm
  · rw [List.concat_eq_append] at hB
    subst hB; have hS2 : (A ++ l :: B0) ++ [x] = rows.map (·.data.toList) ++ [(chkF (sumRows rows rows.length)).data.toList] := by rw [← hS]; simp
    have hS3 : (A ++ l' :: B0) ++ [x] = rows'.map (·.data.toList) ++ [(chkF (sumRows rows' rows'.length)).data.toList] := by rw [← hS']; simp
    obtain ⟨p1, p2⟩ := List.append_inj' hS2 rfl; obtain ⟨q1, q2⟩ := List.append_inj' hS3 rfl
    have hmod := endF_inj (show (chkF (sumRows rows rows.length)).data.toList = (chkF (sumRows rows' rows'.length)).data.toList by
      exact (List.head_eq_of_cons_eq p2).symm.trans (List.head_eq_of_cons_eq q2))
    have c1 := congrArg List.length p1; have c2 := congrArg List.length q1; simp only [List.length_append, List.length_cons, List.length_map] at c1 c2; have hcl : rows.length = rows'.length := by omega
    have hAn : A.length < rows.length := by omega
    have hgl : (rows.getD A.length ByteArray.empty).data.toList = l := by
      rw [← getD_map, ← p1]; simp
    have hgl' : (rows'.getD A.length ByteArray.empty).data.toList = l' := by
      rw [← getD_map, ← q1]; simp
    have hgo : ∀ j, j ≠ A.length → rows.getD j ByteArray.empty = rows'.getD j ByteArray.empty := by
      intro j hne; refine ba_inj ?_; rw [← getD_map, ← getD_map, ← p1, ← q1, List.getD_eq_getElem?_getD, List.getD_eq_getElem?_getD]
      rcases Nat.lt_or_ge j A.length with h1 | h1
      · rw [List.getElem?_append_left h1, List.getElem?_append_left h1]
      · obtain ⟨m, rfl⟩ : ∃ m, j = A.length + 1 + m := ⟨j - A.length - 1, by omega⟩
        rw [List.getElem?_append_right (by omega), List.getElem?_append_right (by omega), show A.length + 1 + m - A.length = m + 1 by omega, List.getElem?_cons_succ, List.getElem?_cons_succ]
    have hd := sumRows_diff _ _ A.length hgo rows.length; rw [if_pos hAn] at hd; have hsz1 := size_toList (rows.getD A.length ByteArray.empty); have hsz2 := size_toList (rows'.getD A.length ByteArray.empty); rw [hgl] at hsz1; rw [hgl'] at hsz2; have hbk : byteAt (rows.getD A.length ByteArray.empty) k = (b.toNat : Int) := by rw [byteAt_get, hgl, e4]; rfl
    have hbk' : byteAt (rows'.getD A.length ByteArray.empty) k = (b'.toNat : Int) := by rw [byteAt_get, hgl', e5]; rfl
    have hr2 := rowSum_diff A.length (rows.getD A.length ByteArray.empty) (rows'.getD A.length ByteArray.empty) k (fun j hne => by
      rw [byteAt_get, byteAt_get, hgl, hgl', e6 j hne]) l.length
    have hkl : k < l.length := by
      rcases Nat.lt_or_ge k l.length with h1 | h1
      · exact h1
      · rw [List.getElem?_eq_none h1] at e4; cases e4
    rw [if_pos hkl, hbk, hbk'] at hr2; rw [hsz1, hsz2, ← e3, hr2] at hd
    have hsmall : l.length < 100 := by
      rw [← hsz1]; exact hsz _ (getD_mem hAn)
    rw [← hcl] at hmod; exact int113 b.toNat b'.toNat (by omega) (by omega) (fun h => hne (UInt8.toNat_inj.1 (by omega))) k A.length (by omega) (by omega) _ _ hd hmod
end Go.Proofs.YtlednchfifphgabGreatDoor
end

section
namespace Go.Proofs.YtlednchfifphgabGreatDoor
open Go
set_option linter.unusedVariables false

theorem rows_short {p : Pc} (hp : PieceOk p) : ∀ l ∈ rowsP p, l.size < 100 := by
  have hs := small_of hp; have h8 := hp.m8; intro l hl; unfold rowsP at hl
  rcases List.mem_cons.1 hl with rfl | h
  · have := head_size hs; omega
  · rcases List.mem_append.1 h with h | h
    · have := me_size hs h; omega
    · rcases List.mem_cons.1 h with rfl | h
      · have := mv_size hs; omega
      · have := rd_size hs h; omega
theorem flat_le : ∀ (L : List (List UInt8)) (m : Nat), (∀ l ∈ L, l.length ≤ m) → (flat L).length ≤ (m + 1) * L.length := by
  intro L m
  induction L with
  | nil => intro _; simp [flat]
  | cons l r ih =>
    intro h; have h1 := ih fun x hx => h x (List.mem_cons_of_mem _ hx)
    have h2 := h l List.mem_cons_self; simp only [flat, List.length_append, List.length_cons, Nat.mul_succ]; omega
theorem chk_len (S : Int) : (chkF S).data.toList.length = 7 := by
  unfold chkF; simp only [ba_append]; rw [dec1 (by omega), dec1 (by omega), dec1 (by omega)]
  rfl
theorem text_size {p : Pc} (hp : PieceOk p) : (textP p).size ≤ 400 := by
  have hs := small_of hp; have e : (textP p).size = (flat (txtL (rowsP p))).length := by unfold textP; rw [size_toList, txtF_data]
  rw [e]; obtain ⟨S, hS⟩ : ∃ S, sumRows (rowsP p) (rowsP p).length = S := ⟨_, rfl⟩; unfold txtL; rw [hS, flat_app]; have h5 : (flat [(chkF S).data.toList]).length = 8 := by simp only [flat, List.length_append, chk_len]; rfl
  rw [List.length_append, h5]; unfold rowsP; rw [List.map_cons, List.map_append, List.map_cons, flat, List.length_append, List.length_cons, flat_app, List.length_append, flat, List.length_append, List.length_cons]; have h1 := head_size hs; have h2 := mv_size hs
  have h3 := flat_le ((p.ms.map meR).map (·.data.toList)) 16 (fun l hl => by
    obtain ⟨x, hx, rfl⟩ := List.mem_map.1 hl; rw [← size_toList]; exact me_size hs hx)
  have h4 := flat_le ((p.rs.map rdR).map (·.data.toList)) 31 (fun l hl => by
    obtain ⟨x, hx, rfl⟩ := List.mem_map.1 hl; rw [← size_toList]; exact rd_size hs hx)
  rw [List.length_map, List.length_map] at h3 h4; rw [size_toList] at h1 h2; have := hp.n4; have := hp.m8; have := hp.r6; omega
def putF (s : ByteArray) (k : Nat) (b : UInt8) : ByteArray := ⟨(s.data.toList.set k b).toArray⟩
theorem putF_size (s : ByteArray) (k : Nat) (b : UInt8) : (putF s k b).size = s.size := by rw [size_toList, size_toList]; simp [putF]
theorem byteAt_list (s : ByteArray) (j : Nat) (hj : j < s.data.toList.length) : byteAt s j = ((s.data.toList[j]).toNat : Int) := by
  rw [byteAt_get, List.getElem?_eq_getElem hj]; rfl
theorem spoilt_none {p : Pc} (hp : PieceOk p) {T : ByteArray} (hT : textP p = T) {k d : Nat} (hk : k < T.size) (hd : d < 10) (hb : 48 ≤ byteAt T k ∧ byteAt T k ≤ 57) (hne : byteAt T k - 48 ≠ (d : Int)) : ∀ q, ¬ BkP (putF T k (UInt8.ofNat (48 + d))) q := by
  intro q hbk; have hkl : k < T.data.toList.length := by rw [← size_toList]; exact hk
  have e := byteAt_list T k hkl; have hbd : (UInt8.ofNat (48 + d)).toNat = 48 + d := by rw [UInt8.toNat_ofNat']; omega
  have hput : (txtF (rowsP q)).data.toList = T.data.toList.set k (UInt8.ofNat (48 + d)) := by
    have := hbk.2; unfold textP at this; rw [this]; simp [putF]
  have hTT : txtF (rowsP p) = T := hT; refine spoilt_rows (rows := rowsP p) (rows' := rowsP q) (rowsP_noE p) (rowsP_noE q) (rows_short hp) (by rw [rowsP_len]; have := hp.n4; have := hp.r6; omega) k (T.data.toList[k]) (UInt8.ofNat (48 + d)) ?_ ?_ ?_ ?_ ?_ ?_
  · rw [hTT]; exact List.getElem?_eq_getElem hkl
  · rw [hput, List.getElem?_set_self hkl]
  · rw [e] at hb; omega
  · rw [hbd]; omega
  · intro h
    rw [e, h, hbd] at hne; omega
  · intro j hj
    rw [hput, hTT, List.getElem?_set_ne (Ne.symm hj)]

theorem read_none {s : ByteArray} {q : Pc} {er : Int} (hs : s.size ≤ 400) (hn : ∀ p, ¬ BkP s p) (h : ReadR s q er) : q = noP ∧ er = 4 := by
  rcases h with ⟨⟨h1, _⟩ | ⟨_, _, h1⟩ | ⟨_, ⟨x, h1, _⟩, _⟩, h2⟩ | ⟨_, h1, _⟩
  · omega
  · exact ⟨h2, h1⟩
  · exact absurd h1 (hn _)
  · exact absurd h1 (hn _)
end Go.Proofs.YtlednchfifphgabGreatDoor
end

section
namespace Go.Proofs.YtlednchfifphgabGreatDoor
open Go Go.RowKit Go.Proofs Go.Shelf
set_option linter.unusedVariables false

def PrintPost (p : Pc) (w : World) (e : Ending) (w' : World) : Prop := e = (if pieceB p then .returned (.tuple #[.string (textP p), .int .i64 0]) else .returned (.tuple #[.string ⟨#[]⟩, .int .i64 2])) ∧ Below w.heap.size w w'
set_option maxRecDepth 100000 in
theorem c_Print (pm pv pr : Option Addr) (cm cv cr : Nat) (p : Pc) (w : World) (hp : RdP w pm pv pr p) (hl : LenOk p) (hI : ItoaG w) :
    Calls Tryz.prog 55 #[.agg #[.slice pm p.ms.length cm, .slice pv p.mv.length cv, .slice pr p.rs.length cr]] w (PrintPost p w) := by
  obtain ⟨w1, e1, HS1, k0, k1, k2, b1⟩ := box3 w (.slice pm p.ms.length cm) (.slice pv p.mv.length cv) (.slice pr p.rs.length cr) 26; have HP := Lib.hid (hp.below b1); have HI := Lib.hid hI; have HB := Lib.hid b1; have HL := Lib.hid hl; clear hp hI b1 hl
  go_enter Tryz.func55, Tryz.ntmps55
  (go_wp2_with fail); refine (c_isPiece pm pv pr cm cv cr p _ HP.out HL.out).mono ?_
  clear e1
  rcases hb : pieceB p with _ | _
  · have HBF := Lib.hid hb
    clear hb; rintro e wn ⟨rfl, bq⟩; replace HB := Lib.hid (HB.out.trans (bq.mono HB.out.size)); clear bq; go_wp2; go_ret2; exact ⟨by rw [HBF.out]; rfl, HB.out⟩
  have HPO := Lib.hid (textOk_of (pieceB_iff.1 hb)); have HBB := Lib.hid hb; clear hb; rintro e wn ⟨rfl, bq⟩; replace HB := Lib.hid (HB.out.trans (bq.mono HB.out.size)); replace HP := Lib.hid (HP.out.below bq); have k0 := (bq.cell (lt_of_cellq k0)).trans k0; have k1 := (bq.cell (lt_of_cellq k1)).trans k1; have k2 := (bq.cell (lt_of_cellq k2)).trans k2; clear bq; replace HI := Lib.hid (HI.out.below HB.out)
  (go_wp2_with fail); refine (c_text pm pv pr cm cv cr p _ HP.out HPO.out HI.out).mono ?_
  rintro e wn ⟨rfl, bq⟩
  skip; replace HB := Lib.hid (HB.out.trans (bq.mono HB.out.size)); clear bq
  go_wp2; go_ret2; exact ⟨by rw [HBB.out]; rfl, HB.out⟩
end Go.Proofs.YtlednchfifphgabGreatDoor
end

section
namespace Go.Proofs.YtlednchfifphgabGreatDoor
open Go Go.RowKit Go.Proofs Go.Shelf
set_option linter.unusedVariables false
set_option linter.unusedSimpArgs false

theorem conv_bytes (s : ByteArray) (w : World) : ∃ cap wB, (convert 9 90 (.string s)).run Tryz.prog w = .ok (.slice (some ⟨w.heap.size, 0, none⟩) s.size cap) wB ∧
    (∀ j, j < s.size → wB.cell? ⟨w.heap.size, j, none⟩ = some (.int .u8 (byteAt s j)) ∧ wB.frozen? ⟨w.heap.size, j, none⟩ = false) ∧ Below w.heap.size w wB := by
  have h := run_bytes_of_string (P := Tryz.prog) w 9 90 5 s Tryz.underlying9 Tryz.underlying90 Tryz.underlying5; refine ⟨_, _, h, fun j hj => ⟨?_, ?_⟩, ?_⟩
  · show (w.drew.alloc _).cell? ⟨w.drew.heap.size, j, none⟩ = _
    rw [World.cell?_alloc_mark, bytesRow_at s _ j hj]; unfold byteAt Array.getD; rw [dif_pos (show j < s.data.size from hj)]; rfl
  · show (w.drew.alloc _).frozen? ⟨w.drew.heap.size, j, none⟩ = _
    rw [World.frozen?_alloc_mark]; have hz : s.data.size ≤ (bytesRow s (grownCap w s.size 0 5)).size := by unfold bytesRow; simp
    have hj' : j < s.data.size := hj; rw [decide_eq_false (by omega), Bool.false_and]
  · exact ((Below.refl w.heap.size w).drew).trans (below_alloc1 w.drew _)
theorem conv_back (s : ByteArray) (k d : Nat) (hd : d < 10) (hk : k < s.size) (B cap : Nat) (w : World) (hc : ∀ j, j < s.size → w.cell? ⟨B, j, none⟩ = some (.int .u8 (if j = k then 48 + (d : Int) else byteAt s j))) :
    (convert 90 9 (.slice (some ⟨B, 0, none⟩) s.size cap)).run Tryz.prog w = .ok (.string (putF s k (UInt8.ofNat (48 + d)))) w := by
  have hl : (s.data.toList.set k (UInt8.ofNat (48 + d))).length = s.size := by rw [List.length_set, size_toList]
  have h := run_convert_bytes_back (P := Tryz.prog) w 90 9 5 ⟨B, 0, none⟩ cap (s.data.toList.set k (UInt8.ofNat (48 + d))) Tryz.underlying90 Tryz.underlying5 Tryz.underlying9 (fun j hj => by
    rw [add_new]; have hj' : j < s.size := by rw [← hl]; exact hj
    rw [hc j hj', List.getElem_set]
    by_cases e : k = j
    · subst e
      rw [if_pos rfl, if_pos rfl]
      congr 2
      rw [UInt8.toNat_ofNat']; omega
    · rw [if_neg (Ne.symm e), if_neg e, byteAt_list s j (by rw [← size_toList]; exact hj')])
  rw [hl] at h; exact h

set_option maxRecDepth 100000 in
set_option maxHeartbeats 4000000 in
theorem law_Spoilt (pm pv pr : Option Addr) (cm cv cr : Nat) (p : Pc) (a dg : Int) (m : Int) (w : World) (hp : RdP w pm pv pr p) (hm : MaxL m w) (hi : ItoaG w) :
    Calls Tryz.prog 13 #[.agg #[.slice pm p.ms.length cm, .slice pv p.mv.length cv, .slice pr p.rs.length cr], .int .i64 a, .int .i64 dg] w (LawPost w) := by
  obtain ⟨w1, e1, HS1, k0, k1, k2, b1⟩ := box3 w (.slice pm p.ms.length cm) (.slice pv p.mv.length cv) (.slice pr p.rs.length cr) 26; have HP := Lib.hid (hp.below b1); have HM := Lib.hid hm; have HI := Lib.hid hi; have HB := Lib.hid b1; clear hp hm hi b1
  go_enter Tryz.func13, Tryz.ntmps13
  (go_wp2_with fail); refine (c_short pm pv pr cm cv cr p _).mono ?_
  clear e1
  rcases hs : shortB p with _ | _
  · rintro e wn ⟨rfl, bq⟩; replace HB := Lib.hid (HB.out.trans (bq.mono HB.out.size)); clear bq
    (go_wp2_with fail); refine (c_known m _ (HM.out.below HB.out) (HI.out.below HB.out)).mono ?_; rintro e wn ⟨rfl, bq⟩; have HFK := Lib.hid (HB.out.trans (bq.mono HB.out.size)); clear bq; go_wp2; go_ret; exact ⟨rfl, HFK.out⟩
  rintro e wn ⟨rfl, bq⟩; replace HB := Lib.hid (HB.out.trans (bq.mono HB.out.size)); replace HP := Lib.hid (HP.out.below bq); have k0 := (bq.cell (lt_of_cellq k0)).trans k0; have k1 := (bq.cell (lt_of_cellq k1)).trans k1; have k2 := (bq.cell (lt_of_cellq k2)).trans k2; clear bq; have HLN := Lib.hid (short_len hs); clear hs
  (go_wp2_with fail); refine (r_Piece pm pv pr cm cv cr p _ HP.out HLN.out).mono ?_
  rcases h1 : pieceB p with _ | _
  · rintro e wn ⟨rfl, bq⟩; replace HB := Lib.hid (HB.out.trans (bq.mono HB.out.size)); clear bq
    (go_wp2_with fail); refine (c_known m _ (HM.out.below HB.out) (HI.out.below HB.out)).mono ?_; rintro e wn ⟨rfl, bq⟩; have HFK := Lib.hid (HB.out.trans (bq.mono HB.out.size)); clear bq; go_wp2; go_ret; exact ⟨rfl, HFK.out⟩
  rintro e wn ⟨rfl, bq⟩; replace HB := Lib.hid (HB.out.trans (bq.mono HB.out.size)); replace HP := Lib.hid (HP.out.below bq); have k0 := (bq.cell (lt_of_cellq k0)).trans k0; have k1 := (bq.cell (lt_of_cellq k1)).trans k1; have k2 := (bq.cell (lt_of_cellq k2)).trans k2; clear bq; have HPO := Lib.hid (pieceB_iff.1 h1); have HP1 := Lib.hid h1; clear h1
  by_cases h1 : dg < 0
  case pos => (go_wp2_with fail); refine (c_known m _ (HM.out.below HB.out) (HI.out.below HB.out)).mono ?_; rintro e wn ⟨rfl, bq⟩; have HFK := Lib.hid (HB.out.trans (bq.mono HB.out.size)); clear bq; go_wp2; go_ret; exact ⟨rfl, HFK.out⟩
  by_cases h2 : dg > 9
  case pos => (go_wp2_with fail); refine (c_known m _ (HM.out.below HB.out) (HI.out.below HB.out)).mono ?_; rintro e wn ⟨rfl, bq⟩; have HFK := Lib.hid (HB.out.trans (bq.mono HB.out.size)); clear bq; go_wp2; go_ret; exact ⟨rfl, HFK.out⟩
  obtain ⟨d, rfl⟩ : ∃ d : Nat, dg = d := ⟨dg.toNat, by omega⟩; have hd : d < 10 := by omega
  have HD := Lib.hid hd; have h1I : decide ((d : Int) < 0) = false := decide_eq_false h1; have h2I : decide ((d : Int) > 9) = false := decide_eq_false h2; have h2J : decide (9 < (d : Int)) = false := decide_eq_false h2; clear hd h1 h2; obtain ⟨T, hT⟩ : ∃ T, textP p = T := ⟨_, rfl⟩; have HT := Lib.hid hT; have HTZ := Lib.hid (show T.size ≤ 400 by rw [← hT]; exact text_size HPO.out)
  (go_wp2_with fail); refine (c_Print pm pv pr cm cv cr p _ HP.out HLN.out (HI.out.below HB.out)).mono ?_
  unfold PrintPost; rw [HP1.out, hT]; simp only [if_true]; clear hT; rintro e wn ⟨rfl, bq⟩; replace HB := Lib.hid (HB.out.trans (bq.mono HB.out.size)); clear bq
  by_cases g1 : a < 0
  case pos => (go_wp2_with fail); refine (c_known m _ (HM.out.below HB.out) (HI.out.below HB.out)).mono ?_; rintro e wn ⟨rfl, bq⟩; have HFK := Lib.hid (HB.out.trans (bq.mono HB.out.size)); clear bq; go_wp2; go_ret; exact ⟨rfl, HFK.out⟩
  by_cases g2 : a ≥ (T.size : Int)
  case pos => (go_wp2_with fail); refine (c_known m _ (HM.out.below HB.out) (HI.out.below HB.out)).mono ?_; rintro e wn ⟨rfl, bq⟩; have HFK := Lib.hid (HB.out.trans (bq.mono HB.out.size)); clear bq; go_wp2; go_ret; exact ⟨rfl, HFK.out⟩
  obtain ⟨k, rfl⟩ : ∃ k : Nat, a = k := ⟨a.toNat, by omega⟩; have hkT : k < T.size := by omega
  have g1I : decide ((k : Int) < 0) = false := decide_eq_false g1; have hix := ix_byte T k hkT; have hby := byteAt_range T k; have HKT := Lib.hid hkT; obtain ⟨B, hB⟩ : ∃ B, byteAt T k = B := ⟨_, rfl⟩; have HBB := Lib.hid hB; rw [hB] at hix hby
  clear hB; have g2I : decide ((k : Int) ≥ (T.size : Int)) = false := by simp; omega
  have g2J : decide ((T.size : Int) ≤ (k : Int)) = false := by simp; omega
  by_cases g3 : B < 48
  case pos => (go_wp2_with fail); refine (c_known m _ (HM.out.below HB.out) (HI.out.below HB.out)).mono ?_; rintro e wn ⟨rfl, bq⟩; have HFK := Lib.hid (HB.out.trans (bq.mono HB.out.size)); clear bq; go_wp2; go_ret; exact ⟨rfl, HFK.out⟩
  by_cases g4 : B > 57
  case pos => (go_wp2_with fail); refine (c_known m _ (HM.out.below HB.out) (HI.out.below HB.out)).mono ?_; rintro e wn ⟨rfl, bq⟩; have HFK := Lib.hid (HB.out.trans (bq.mono HB.out.size)); clear bq; go_wp2; go_ret; exact ⟨rfl, HFK.out⟩
  have g3I : decide (B < 48) = false := decide_eq_false g3; have g4I : decide (B > 57) = false := decide_eq_false g4; have g4J : decide (57 < B) = false := decide_eq_false g4; have hw1 : IntKind.u8.wrap (B - 48) = B - 48 := by rw [IntKind.wrap_u8]; omega
  have hw2 : IntKind.i64.wrap (B - 48) = B - 48 := w64 _ (by omega) (by omega)
  by_cases g5 : B - 48 = (d : Int)
  case pos => (go_wp2_with fail); refine (c_known m _ (HM.out.below HB.out) (HI.out.below HB.out)).mono ?_; rintro e wn ⟨rfl, bq⟩; have HFK := Lib.hid (HB.out.trans (bq.mono HB.out.size)); clear bq; go_wp2; go_ret; exact ⟨rfl, HFK.out⟩
  have g5I : (B - 48 == (d : Int)) = false := by rw [beq_eq_false_iff_ne]; exact g5
  have HNB := Lib.hid (spoilt_none HPO.out HT.out HKT.out HD.out (by rw [HBB.out]; omega) (by rw [HBB.out]; exact g5)); obtain ⟨cp, wB, hcv, hcl, hbB⟩ := conv_bytes T wn; have hu1 : IntKind.i64.wrap (48 + (d : Int)) = 48 + (d : Int) := w64 _ (by have := HD.out; omega) (by have := HD.out; omega); have hu2 : IntKind.u8.wrap (48 + (d : Int)) = 48 + (d : Int) := by rw [IntKind.wrap_u8]; have := HD.out; omega
  have q0 := (hcl k HKT.out).1; have q1 := (hcl k HKT.out).2; obtain ⟨wC, hwC⟩ : ∃ wC, wB.setCell ⟨wn.heap.size, k, none⟩ (.int .u8 (48 + (d : Int))) = wC := ⟨_, rfl⟩
  have hcb := conv_back T k d HD.out HKT.out wn.heap.size cp wC (fun j hj => by
    rw [← hwC]
    by_cases e : j = k
    · subst e
      rw [if_pos rfl]; exact World.cell?_setCell_same' _ _ _ (by rw [q0]; rfl)
    · rw [if_neg e, World.cell?_setCell_other _ _ _ _ (by intro h; cases h; exact e rfl)]
      exact (hcl j hj).1)
  have hbC : Below wn.heap.size wn wC := by rw [← hwC]; exact hbB.setCell (Nat.le_refl _) _
  replace HB := Lib.hid (HB.out.trans (hbC.mono HB.out.size)); obtain ⟨T', hT'⟩ : ∃ T', putF T k (UInt8.ofNat (48 + d)) = T' := ⟨_, rfl⟩; have HTZ2 := Lib.hid (show T'.size ≤ 400 by rw [← hT', putF_size]; exact HTZ.out); rw [hT'] at hcb HNB; clear hT' hcl hbB hbC hkT g1 g2 g3 g4 g5
  (go_wp2_with fail); refine (c_Read T' m _ (by have := HTZ2.out; omega) (HM.out.below HB.out) (HI.out.below HB.out)).mono ?_
  rintro e wx ⟨⟨q, qm, dm, qv, dv, qr, dr, er, rfl, hq, hrr⟩, bq⟩; obtain ⟨rfl, rfl⟩ := read_none HTZ2.out HNB.out hrr; have HQ := Lib.hid hq; replace HB := Lib.hid (HB.out.trans (bq.mono HB.out.size)); clear hrr hq bq hwC hcv hcb q0 q1; obtain ⟨w6, e6, HS6, r0, r1, r2, b6⟩ := box3 wx (.slice qm noP.ms.length dm) (.slice qv noP.mv.length dv) (.slice qr noP.rs.length dr) 26; have HB6 := Lib.hid (HB.out.trans (b6.mono HB.out.size)); have HQ6 := Lib.hid (HQ.out.below b6); clear b6 HB HQ; have HB := HB6; clear HB6
  have hcs : ∀ W, RdP W qm qv qr noP → Calls Tryz.prog 57 #[.agg #[.slice qm 0 dm, .slice qv 0 dv, .slice qr 0 dr], .agg #[.slice none 0 0, .slice none 0 0, .slice none 0 0]] W fun e w' => e = .returned (.bool true) ∧ Below W.heap.size W w' := fun W hW =>
    (c_samePieces qm qv qr dm dv dr noP none none none 0 0 0 noP W hW (rdP_no W) ⟨by decide, by decide, by decide⟩).mono fun e w' h => by
      obtain ⟨⟨b, rfl, hb⟩, hbe⟩ := h; obtain rfl : b = true := hb.2 rfl; exact ⟨rfl, hbe⟩
  have HCS := Lib.hid hcs; clear hcs
  (go_wp2_with fail); refine (HCS.out _ HQ6.out).mono ?_
  clear e6; rintro e wn ⟨rfl, bq⟩; replace HB := Lib.hid (HB.out.trans (bq.mono HB.out.size)); clear bq
  (go_wp2_with fail); refine (c_known m _ (HM.out.below HB.out) (HI.out.below HB.out)).mono ?_; rintro e wn ⟨rfl, bq⟩; have HFK := Lib.hid (HB.out.trans (bq.mono HB.out.size)); clear bq; go_wp2; go_ret; exact ⟨rfl, HFK.out⟩
end Go.Proofs.YtlednchfifphgabGreatDoor
end

section
namespace Go.Proofs.YtlednchfifphgabGreatDoor
open Go Go.ChangeShapes Go.WideShapes Go.ChangeAt Go.RowKit Go.Proofs
set_option linter.unusedVariables false

set_option maxRecDepth 100000 in
theorem slackSpoilt_lifted (os : Os) (started : os.Started) (H : Type) (enc : TypeId × Value → H) :
    ReturnsInHanded {} Tryz.checked os 13 .any (fun w args => (Rows.slackSpoiltSpec.pre enc Tryz.prog Tryz.f13 [] false w args ∧ laidMetH Tryz.prog lay5 w) ∧ sizedMet enc Tryz.prog Tryz.f13 (OpenSpec.ofChange Rows.slackSpoiltSpec) false w args)
      (Rows.slackSpoiltSpec.post enc Tryz.prog Tryz.f13 false true false false) := by
  refine returns_listed (C := Tryz.checked) (X := fun w _ => laidMetH Tryz.prog lay5 w) (fun _ _ _ hh h => h.of_heap hh) ownT started (by kernel_rfl) Tryz.func13
    (ChangeSpec.witness_shaped (enc := enc) (C := Tryz.checked) (os := os) (X := fun w _ => laidMetH Tryz.prog lay5 w) false (World.laidAll Tryz.prog os lay5) #[.agg #[.slice none 0 0, .slice none 0 0, .slice none 0 0], .int .i64 0, .int .i64 0] 12 (World.laidAll_os _ _ _)
      (World.shaped_of_ZipB (by kernel_rfl) (by kernel_rfl)) (by kernel_rfl) (by kernel_rfl) (by kernel_rfl)
      (by rw [MakeChecks.laidMetH_plain _ _ _ (by kernel_rfl)]; exact laidMet_laidAll _ (by kernel_rfl) (by kernel_rfl))) ?_
  intro W base args ds gs before hval0 hW hX hSh; have hval : ∀ (j : Nat) t v, Tryz.f13.params[j]? = some t → args[j]? = some v → Value.okWide Tryz.prog W .any base t v := hval0; have hW' := hW; obtain ⟨p, q, hA0, hV, rfl, _, _⟩ := hW; have hA : DataW.TrodAll enc Tryz.prog W 0 (fun _ => true) true Tryz.f13.params.toList args.toList ds p := hA0; rw [Tryz.params13] at hA hval; obtain ⟨v0, vs0, d0, ds0, p0, q0, hargs, rfl, rfl, h0, r0⟩ := trodAll_cons hA; obtain ⟨v1, vs1, d1, ds1, p1, q1, rfl, rfl, rfl, h1, r1⟩ := trodAll_cons r0; obtain ⟨v2, vs2, d2, ds2, p2, q2, rfl, rfl, rfl, h2, r2⟩ := trodAll_cons r1; obtain ⟨rfl, rfl, rfl⟩ := trodAll_nil r2; obtain rfl : args = #[v0, v1, v2] := by cases args; simp_all
  obtain ⟨rfl, rfl⟩ := trodVars_none hV; obtain ⟨pm0, pv0, pr0, cm0, cv0, cr0, p0, rfl, rd0⟩ := op_piece (hval 0 26 v0 rfl rfl) h0; obtain ⟨a1, rfl, la1, ua1⟩ := op_int (hval 1 3 v1 rfl rfl) h1; obtain ⟨a2, rfl, la2, ua2⟩ := op_int (hval 2 3 v2 rfl rfl) h2; clear hA0 hval0; obtain ⟨m, hm⟩ := maxLen_of hSh; have hit := itoaG_of (pow10_of hX); refine (law_Spoilt pm0 pv0 pr0 cm0 cv0 cr0 p0 a1 a2 m W rd0 hm hit).mono fun e W' ⟨he, bel⟩ => ?_
  subst he; exact ⟨_, rfl, _, _, _, [], _, [], hW', trodAll_mk1 (shut_bool Tryz.underlying4 _), (trodAll_cons_mk (Below.trod laidOutT (by kernel_rfl) (of_decide_eq_true (by kernel_rfl)) h0 bel (trod_lt h0)) (trodAll_cons_mk (Below.trod laidOutT (by kernel_rfl) (of_decide_eq_true (by kernel_rfl)) h1 bel (trod_lt h1)) (trodAll_cons_mk (Below.trod laidOutT (by kernel_rfl) (of_decide_eq_true (by kernel_rfl)) h2 bel (trod_lt h2)) trodAll_mk0))), rfl, bel.frame _, fun h => by cases h⟩
theorem slackSpoilt_wf : Rows.slackSpoiltRow.wf (OpenSpec.ofChange Rows.slackSpoiltSpec) = true := by kernel_rfl
theorem slackSpoilt_inPlace : (Rows.slackSpoiltRow.inPlace == Tryz.prog.inPlace 13) = true := by kernel_rfl
theorem slackSpoilt_unfollowed : (Rows.slackSpoiltRow.unfollowed == Tryz.prog.unfollowed 13) = true := by kernel_rfl
theorem slackSpoilt_recurses : (Rows.slackSpoiltRow.recurses == Tryz.prog.recurses 13) = true := by kernel_rfl
theorem slackSpoilt_named : (Rows.slackSpoiltRow.named == Tryz.prog.varsNamed 13) = true := by kernel_rfl
theorem slackSpoilt_goes : false = Rows.slackSpoiltRow.goesBy Tryz.prog := by kernel_rfl
theorem slackSpoilt_func : Tryz.prog.funcNamed Rows.slackSpoiltRow.func = some 13 := by kernel_rfl
theorem slackSpoilt_text : Rows.slackSpoiltRow.wfByText (OpenSpec.ofChange Rows.slackSpoiltSpec) = true := by kernel_rfl
theorem slackSpoilt_closed : joinedFacts Tryz.prog 13 Tryz.f13 Rows.slackSpoiltSpec Rows.slackSpoiltRow = true :=
  (and_t (and_t (and_t (and_t (and_t (and_t (and_t (and_t (and_t (and_t (and_t (and_t (and_t (and_t (and_t (and_t (and_t (and_t (and_t (and_t (and_t (and_t (and_t (and_t (and_t (and_t (and_t (and_t (and_t (and_t (and_t slackSpoilt_wf tLaidOut) tMaps) (by kernel_rfl)) (by kernel_rfl)) (by kernel_rfl)) (by kernel_rfl)) (by kernel_rfl)) (by kernel_rfl)) slackSpoilt_inPlace) slackSpoilt_unfollowed) slackSpoilt_recurses) slackSpoilt_named) (by kernel_rfl)) (by kernel_rfl)) (by kernel_rfl)) (by kernel_rfl)) (by kernel_rfl)) (by kernel_rfl)) (by kernel_rfl)) (by kernel_rfl)) (by kernel_rfl)) (by kernel_rfl)) (by kernel_rfl)) tHeard) tMayEnter) (eq_t (α := Bool) tFinal.symm)) (eq_t tMake)) (by kernel_rfl)) (by kernel_rfl)) (by kernel_rfl)) (by kernel_rfl))
theorem slackSpoilt_wrap : Func.isWrapper Tryz.prog Tryz.f13 Rows.slackSpoiltRow.wrapper Rows.slackSpoiltRow.mainSum := by unfold Func.isWrapper; rw [if_neg (of_decide_eq_false (by kernel_rfl))]; exact ⟨rfl, rfl⟩
theorem slackSpoilt_row : Rows.SlackSpoiltSaid :=
  OpenClaim.holds_of_wide 13 Tryz.f13 rfl rfl rfl rfl rfl rfl rfl ⟨rfl, rfl, rfl, rfl, rfl⟩ rfl rfl rfl rfl rfl slackSpoilt_func Tryz.func13 slackSpoilt_closed (of_decide_eq_true (by kernel_rfl)) slackSpoilt_wrap (fun os started H enc _ => slackSpoilt_lifted os started H enc)
theorem slackSpoilt_plain : ∀ (j : Nat) t, Tryz.f13.params[j]? = some t → Tryz.prog.wantsStandIn t = false := fun j t ht => by
  rw [Tryz.params13] at ht; have hm : t ∈ [26, 3, 3] := by simpa using Array.mem_of_getElem? ht
  have hall : ([26, 3, 3].all fun u => !Tryz.prog.wantsStandIn u) = true := by kernel_rfl
  exact (show Tryz.prog.wantsStandIn t = false by simpa using List.all_eq_true.1 hall t hm)
theorem slackSpoilt_holds : Rows.SlackSpoiltCardSaid :=
  Claim7.holds_tied_plain_at .later [] [.data, .data, .data, .data, .pinned] true (true, "be822bbd39a17464ee6526ca2e9d32d2a3a9815fece3866167cb0f3f46fef96e") true slackSpoilt_row (fun _ h => by cases h) slackSpoilt_text (fun _ h => by cases h) slackSpoilt_row_tie rfl ⟨rfl, rfl⟩ tMainIs rfl
    (fun f fn hf hfn => by
      obtain rfl : f = 13 := Option.some.inj (slackSpoilt_func.symm.trans hf) |>.symm
      obtain rfl : fn = Tryz.f13 := (Option.some.inj (Tryz.func13.symm.trans hfn)).symm; exact ⟨tLooks, slackSpoilt_plain⟩)
    slackSpoilt_goes
#print axioms slackSpoilt_holds
end Go.Proofs.YtlednchfifphgabGreatDoor
end
