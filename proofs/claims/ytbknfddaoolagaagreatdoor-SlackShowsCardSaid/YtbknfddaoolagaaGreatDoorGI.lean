/-
  Texts of lines, plain (no program in sight): lines and their ends, parts between single bytes, the check of a text, a spoilt text.
  The log of a piece, plain: its rows, reading it back (no program in sight).
  Logs of pieces as defined, plain: how long they are, a spoilt log, what reading answers (no program in sight).
  The document: a number's text, a text's parts, a line; contracts.
  The log of a piece, row by row: plain facts, and what is laid at once.
  The log of a piece (the walk).
-/
import Derived.Lib.Join
import Derived.Lib.SplitLaws
import Derived.Lib.IndexBytes
import Derived.Lib.ItoaNum
import Derived.Lib.ItoaMem
import Derived.Test.YtbknfddaoolagaaGreatDoorGA
import Derived.Test.YtbknfddaoolagaaGreatDoorGH
import Derived.Test.YtbknfddaoolagaaGreatDoorGF
import Derived.Lib.AppendIntMem
section
namespace Go.Proofs.YtbknfddaoolagaaGreatDoor
open Go
set_option linter.unusedVariables false


def flat : List (List UInt8) → List UInt8
  | [] => []
  | l :: r => l ++ 10 :: flat r
theorem join_flat (x : List UInt8) (r : List (List UInt8)) : Lib.join (x :: r) [10] ++ [10] = flat (x :: r) := by
  induction r generalizing x with
  | nil => rw [Lib.join_one]; rfl
  | cons y r ih =>
    have := ih y; rw [Lib.join_cons] at this ⊢; simp only [flat, Lib.joinTail, List.map_cons, List.flatten_cons, List.append_assoc] at this ⊢; rw [this]; simp
def NoEnd (L : List (List UInt8)) : Prop := ∀ l ∈ L, ∀ b ∈ l, b ≠ 10
theorem NoEnd.tail {l : List UInt8} {r : List (List UInt8)} (h : NoEnd (l :: r)) : NoEnd r := fun x hx => h x (List.mem_cons_of_mem _ hx)
theorem NoEnd.head {l : List UInt8} {r : List (List UInt8)} (h : NoEnd (l :: r)) : ∀ b ∈ l, b ≠ 10 := h l List.mem_cons_self
def cutL (c : UInt8) : List UInt8 → List (List UInt8)
  | [] => [[]]
  | b :: r => if b = c then [] :: cutL c r else (b :: (cutL c r).headD []) :: (cutL c r).tail
theorem cutL_shape (c : UInt8) (s : List UInt8) : ∃ h t, cutL c s = h :: t := by
  cases s with
  | nil => exact ⟨_, _, rfl⟩
  | cons b r => unfold cutL; split <;> exact ⟨_, _, rfl⟩
theorem cutL_hit (c : UInt8) (r : List UInt8) : cutL c (c :: r) = [] :: cutL c r := by
  conv => lhs; unfold cutL
  rw [if_pos rfl]
theorem cutL_other {b c : UInt8} (h : b ≠ c) (r : List UInt8) : cutL c (b :: r) = (b :: (cutL c r).headD []) :: (cutL c r).tail := by
  conv => lhs; unfold cutL
  rw [if_neg h]
theorem cutL_len (c : UInt8) (s : List UInt8) : (cutL c s).length = s.count c + 1 := by
  induction s with
  | nil => rfl
  | cons b r ih =>
    by_cases h : b = c
    · subst h; rw [cutL_hit, List.length_cons, ih, List.count_cons_self]
    · rw [cutL_other h, List.length_cons, List.length_tail, ih, List.count_cons_of_ne h]; omega
theorem cutL_no {c : UInt8} {s : List UInt8} (h : c ∉ s) : cutL c s = [s] := by
  induction s with
  | nil => rfl
  | cons b r ih =>
    have h1 : b ≠ c := fun e => h (by rw [e]; exact List.mem_cons_self)
    rw [cutL_other h1, ih (fun hm => h (List.mem_cons_of_mem _ hm))]; rfl
theorem cutL_app {c : UInt8} {a : List UInt8} (h : c ∉ a) (b : List UInt8) : cutL c (a ++ c :: b) = a :: cutL c b := by
  induction a with
  | nil => exact cutL_hit c b
  | cons x r ih =>
    have h1 : x ≠ c := fun e => h (by rw [e]; exact List.mem_cons_self)
    rw [List.cons_append, cutL_other h1, ih (fun hm => h (List.mem_cons_of_mem _ hm))]; rfl
theorem cutL_snoc {c : UInt8} (a : List UInt8) {d : List UInt8} (h : c ∉ d) : cutL c (a ++ c :: d) = cutL c a ++ [d] := by
  induction a with
  | nil => rw [List.nil_append, cutL_hit, cutL_no h]; rfl
  | cons x r ih =>
    by_cases h1 : x = c
    · subst h1; rw [List.cons_append, cutL_hit, cutL_hit, ih]; rfl
    · obtain ⟨u, v, e⟩ := cutL_shape c r
      rw [List.cons_append, cutL_other h1, cutL_other h1, ih, e]; rfl
theorem indexByte_app {c : UInt8} {a : List UInt8} (h : c ∉ a) (b : List UInt8) : Lib.indexByte (a ++ c :: b) c = (a.length : Int) := by
  induction a with
  | nil => simp [Lib.indexByte]
  | cons x r ih =>
    have h1 : x ≠ c := fun e => h (by rw [e]; exact List.mem_cons_self)
    have h2 : (x == c) = false := beq_eq_false_iff_ne.2 h1; rw [List.cons_append, Lib.indexByte, h2, ih (fun hm => h (List.mem_cons_of_mem _ hm))]; have h3 : ((r.length : Int) == -1) = false := by rw [beq_eq_false_iff_ne]; omega
    rw [h3]; simp
theorem splitK_cut (c : UInt8) : ∀ (k : Nat) (s : List UInt8), s.count c = k → Lib.splitK [c] 0 k s = cutL c s := by
  intro k
  induction k with
  | zero =>
    intro s h; rw [cutL_no (List.count_eq_zero.1 h)]; rfl
  | succ k ih =>
    intro s h; obtain ⟨a, b, rfl, ha⟩ := List.eq_append_cons_of_mem (List.count_pos_iff.1 (show 0 < s.count c by omega)); have hi : Lib.index (a ++ c :: b) [c] = (a.length : Int) := by rw [Lib.index_one]; exact indexByte_app ha b
    have hn : ¬ (((a.length : Int)) == -1) = true := by rw [beq_iff_eq]; omega
    rw [List.count_append, List.count_eq_zero.2 ha, List.count_cons_self] at h; rw [Lib.splitK, hi, if_neg hn, cutL_app ha]; have e1 : (a ++ c :: b).take ((a.length : Int).toNat + 0) = a := by simp
    have e2 : (a ++ c :: b).drop ((a.length : Int).toNat + [c].length) = b := by
      rw [show a ++ c :: b = (a ++ [c]) ++ b by simp]; have : ((a.length : Int).toNat + [c].length) = (a ++ [c]).length := by simp
      rw [this, List.drop_left]
    rw [e1, e2, ih b (by omega)]
def mkB (l : List UInt8) : ByteArray := ⟨l.toArray⟩
theorem mkB_data (x : ByteArray) : mkB x.data.toList = x := by cases x; rfl
theorem data_mkB (l : List UInt8) : (mkB l).data.toList = l := by simp [mkB]
def partsF (c : UInt8) (s : ByteArray) : List ByteArray := (cutL c s.data.toList).map mkB
theorem partsF_len (c : UInt8) (s : ByteArray) : (partsF c s).length = s.data.toList.count c + 1 := by unfold partsF; rw [List.length_map, cutL_len]
theorem countB_one (c : UInt8) (s : ByteArray) : Lib.countB s ⟨#[c]⟩ = s.data.toList.count c := by
  show Lib.count s.data.toList [c] = _; exact Lib.count_one c _
theorem splitB_parts (c : UInt8) (s : ByteArray) : Lib.splitB ⟨#[c]⟩ 0 (Lib.countB s ⟨#[c]⟩) s = partsF c s := by
  have h := Lib.splitB_data ⟨#[c]⟩ 0 (Lib.countB s ⟨#[c]⟩) s; rw [countB_one] at h; have h2 : Lib.splitK (⟨#[c]⟩ : ByteArray).data.toList 0 (s.data.toList.count c) s.data.toList = cutL c s.data.toList := splitK_cut c _ _ rfl; rw [h2] at h; rw [countB_one]; unfold partsF; rw [← h, List.map_map]; have : (mkB ∘ fun x : ByteArray => x.data.toList) = id := by funext x; exact mkB_data x
  rw [this, List.map_id]
def pre (cur : List UInt8) (L : List (List UInt8)) : List (List UInt8) := (cur ++ L.headD []) :: L.tail
theorem dec_mem : ∀ (u : Nat) (b : UInt8), b ∈ Lib.decDigits u → 48 ≤ b.toNat ∧ b.toNat ≤ 57 := by
  intro u
  induction u using Nat.strongRecOn with
  | _ u ih =>
    intro b hb
    by_cases h : u < 10
    · rw [Lib.decDigits, dif_pos h] at hb
      have : b = UInt8.ofNat (48 + u) := by simpa using hb
      subst this; simp only [UInt8.toNat_ofNat']; omega
    · rw [Lib.decDigits, dif_neg h] at hb
      rcases List.mem_append.1 hb with h1 | h1
      · exact ih (u / 10) (by omega) b h1
      · have : b = UInt8.ofNat (48 + u % 10) := by simpa using h1
        subst this; simp only [UInt8.toNat_ofNat']; omega
theorem ne10 {b : UInt8} (h : 11 ≤ b.toNat) : b ≠ 10 := by rintro rfl; simp at h
theorem ba_append (a b : ByteArray) : (a ++ b).data.toList = a.data.toList ++ b.data.toList := by
  rw [ByteArray.data_append, Array.toList_append]
def NoE (l : ByteArray) : Prop := ∀ b ∈ l.data.toList, b ≠ 10
theorem NoE.app {a b : ByteArray} (ha : NoE a) (hb : NoE b) : NoE (a ++ b) := by
  intro x hx; rw [ba_append] at hx
  rcases List.mem_append.1 hx with h | h
  · exact ha x h
  · exact hb x h
theorem noE_dec (u : Nat) : NoE ⟨(Lib.decDigits u).toArray⟩ := by
  intro b hb; have : b ∈ Lib.decDigits u := by simpa using hb
  exact ne10 (by have := dec_mem u b this; omega)
def byteAt (l : ByteArray) (j : Nat) : Int := ((l.data.getD j 0).toNat : Int)
def rowSum (i : Nat) (l : ByteArray) : Nat → Int
  | 0 => 0
  | j + 1 => rowSum i l j + byteAt l j * ((j : Int) + 1) * ((i : Int) + 1)
def sumRows (ls : List ByteArray) : Nat → Int
  | 0 => 0
  | i + 1 => sumRows ls i + rowSum i (ls.getD i ByteArray.empty) (ls.getD i ByteArray.empty).size
theorem byteAt_range (l : ByteArray) (j : Nat) : 0 ≤ byteAt l j ∧ byteAt l j ≤ 255 := by
  unfold byteAt; have : (l.data.getD j 0).toNat < 256 := (l.data.getD j 0).toNat_lt; omega
theorem rowSum_range (i : Nat) (hi : i < 1000) (l : ByteArray) : ∀ j, j ≤ 2500 → 0 ≤ rowSum i l j ∧ rowSum i l j ≤ (j : Int) * 700000000 := by
  intro j
  induction j with
  | zero => intro _; simp [rowSum]
  | succ j ih =>
    intro hj; have h1 := ih (by omega); have h2 := byteAt_range l j; simp only [rowSum]; have h3 : 0 ≤ byteAt l j * ((j : Int) + 1) := Int.mul_nonneg h2.1 (by omega); have h4 : byteAt l j * ((j : Int) + 1) ≤ 255 * 2501 := Int.mul_le_mul h2.2 (by omega) (by omega) (by omega); have h5 : 0 ≤ byteAt l j * ((j : Int) + 1) * ((i : Int) + 1) := Int.mul_nonneg h3 (by omega); have h6 : byteAt l j * ((j : Int) + 1) * ((i : Int) + 1) ≤ (255 * 2501) * 1001 := Int.mul_le_mul h4 (by omega) (by omega) (by omega); omega
theorem sumRows_range (ls : List ByteArray) (hs : ∀ i, i < ls.length → (ls.getD i ByteArray.empty).size ≤ 2500) (hl : ls.length ≤ 1000) : ∀ i, i ≤ ls.length → 0 ≤ sumRows ls i ∧ sumRows ls i ≤ (i : Int) * 1750000000000 := by
  intro i
  induction i with
  | zero => intro _; simp [sumRows]
  | succ i ih =>
    intro hi; have h1 := ih (by omega); have h2 := hs i (by omega); have h3 := rowSum_range i (by omega) (ls.getD i ByteArray.empty) (ls.getD i ByteArray.empty).size h2; simp only [sumRows]; omega
def decA (n : Int) : ByteArray := ⟨(Lib.decDigits n.toNat).toArray⟩
def chkF (s : Int) : ByteArray := ⟨#[101, 110, 100, 32]⟩ ++ decA (s % 113 / 100) ++ decA (s % 113 / 10 % 10) ++ decA (s % 113 % 10)
theorem noE_end (s : Int) : NoE (chkF s) := by
  unfold chkF; exact (((show NoE ⟨#[101, 110, 100, 32]⟩ by intro b hb; simp at hb; rcases hb with rfl | rfl | rfl | rfl <;> decide).app (noE_dec _)).app (noE_dec _)).app (noE_dec _)
theorem ba_inj {a b : ByteArray} (h : a.data.toList = b.data.toList) : a = b := by
  cases a; cases b; simp only at h; rw [ByteArray.mk.injEq]; exact Array.toList_inj.1 h
theorem byteAt_get (l : ByteArray) (j : Nat) : byteAt l j = ((l.data.toList[j]?.getD 0).toNat : Int) := by
  unfold byteAt; rw [Array.getD_eq_getD_getElem?, Array.getElem?_toList]
theorem size_toList (l : ByteArray) : l.size = l.data.toList.length := by rw [Array.length_toList]; rfl
theorem count_part (c d : UInt8) : ∀ (s : List UInt8) (p : List UInt8), p ∈ cutL c s → p.length ≤ s.length := by
  intro s
  induction s with
  | nil => intro p hp; simp [cutL] at hp; subst hp; simp
  | cons b r ih =>
    intro p hp
    by_cases h : b = c
    · subst h
      rw [cutL_hit] at hp
      rcases List.mem_cons.1 hp with rfl | h1
      · simp
      · have := ih p h1; simp; omega
    · rw [cutL_other h] at hp
      obtain ⟨u, v, e⟩ := cutL_shape c r; rw [e] at hp ih
      rcases List.mem_cons.1 hp with rfl | h1
      · have := ih u List.mem_cons_self; simp at this ⊢; omega
      · have := ih p (List.mem_cons_of_mem _ h1); simp; omega
theorem part_size {c : UInt8} {s p : ByteArray} (h : p ∈ partsF c s) : p.size ≤ s.size := by
  unfold partsF at h; obtain ⟨l, hl, rfl⟩ := List.mem_map.1 h; have := count_part c c _ _ hl; rw [size_toList, data_mkB, size_toList s]; exact this
theorem parts_count (c : UInt8) (s : ByteArray) : (partsF c s).length ≤ s.size + 1 := by
  rw [partsF_len, size_toList]; have := List.count_le_length (a := c) (l := s.data.toList); omega
theorem getD_mem {l : List ByteArray} {i : Nat} (h : i < l.length) : l.getD i ByteArray.empty ∈ l := by
  rw [List.getD_eq_getElem?_getD, List.getElem?_eq_getElem h]; exact List.getElem_mem h

def txtL (rows : List ByteArray) : List (List UInt8) := rows.map (·.data.toList) ++ [(chkF (sumRows rows rows.length)).data.toList]
def txtF (rows : List ByteArray) : ByteArray := ⟨(flat (txtL rows)).toArray⟩
theorem txtF_data (rows : List ByteArray) : (txtF rows).data.toList = flat (txtL rows) := by simp [txtF]
theorem txtL_noEnd {rows : List ByteArray} (h : ∀ l ∈ rows, NoE l) : NoEnd (txtL rows) := by
  intro l hl b hb; unfold txtL at hl
  rcases List.mem_append.1 hl with h1 | h1
  · obtain ⟨x, hx, rfl⟩ := List.mem_map.1 h1
    exact h x hx b hb
  · obtain rfl := List.mem_singleton.1 h1
    exact noE_end _ b hb
end Go.Proofs.YtbknfddaoolagaaGreatDoor
end

section
namespace Go.Proofs.YtbknfddaoolagaaGreatDoor
open Go
set_option linter.unusedVariables false

def itoB (n : Int) : ByteArray := ⟨(Lib.itoa n).toArray⟩
def valL (l : List UInt8) : Nat := l.foldl (fun v b => 10 * v + (b.toNat - 48)) 0
theorem valL_snoc (l : List UInt8) (b : UInt8) : valL (l ++ [b]) = 10 * valL l + (b.toNat - 48) := by simp [valL]
theorem valL_dec : ∀ n : Nat, valL (Lib.decDigits n) = n := by
  intro n
  induction n using Nat.strongRecOn with
  | _ n ih =>
    by_cases h : n < 10
    · rw [Lib.decDigits, dif_pos h]
      simp only [valL, List.foldl_cons, List.foldl_nil, UInt8.toNat_ofNat']; omega
    · rw [Lib.decDigits, dif_neg h, valL_snoc, ih (n / 10) (by omega)]
      simp only [UInt8.toNat_ofNat']; omega
theorem dec_len : ∀ (k n : Nat), n < 10 ^ (k + 1) → (Lib.decDigits n).length ≤ k + 1 := by
  intro k
  induction k with
  | zero => intro n h; rw [Lib.decDigits, dif_pos (by omega)]; simp
  | succ k ih =>
    intro n h
    by_cases hn : n < 10
    · rw [Lib.decDigits, dif_pos hn]; simp
    · rw [Lib.decDigits, dif_neg hn, List.length_append, List.length_singleton]
      have := ih (n / 10) (by rw [Nat.pow_succ] at h; omega); omega
theorem dec_pos (n : Nat) : 0 < (Lib.decDigits n).length := by
  rw [Lib.decDigits]
  split <;> simp
def valT (s : ByteArray) : Nat → Int
  | 0 => 0
  | k + 1 => 10 * valT s k + (byteAt s k - 48)
def DigTo (s : ByteArray) (k : Nat) : Prop := ∀ i, i < k → 48 ≤ byteAt s i ∧ byteAt s i ≤ 57
instance (s : ByteArray) (k : Nat) : Decidable (DigTo s k) := by unfold DigTo; infer_instance
theorem valT_range (s : ByteArray) : ∀ k, k ≤ 4 → DigTo s k → 0 ≤ valT s k ∧ valT s k < 10 ^ k := by
  intro k
  induction k with
  | zero => intro _ _; simp [valT]
  | succ k ih =>
    intro hk hd; have h1 := ih (by omega) (fun i hi => hd i (by omega)); have h2 := hd k (by omega); simp only [valT]; rw [Int.pow_succ]
    generalize valT s k = v at *
    generalize byteAt s k = b at *
    generalize (10 : Int) ^ k = P at *
    omega
theorem valT_list (s : ByteArray) : ∀ k, k ≤ s.data.toList.length → DigTo s k → valT s k = (valL (s.data.toList.take k) : Int) := by
  intro k
  induction k with
  | zero => intro _ _; rfl
  | succ k ih =>
    intro hk hd; have h2 := hd k (by omega); rw [List.take_succ_eq_append_getElem (by omega), valL_snoc, valT, ih (by omega) (fun i hi => hd i (by omega))]; have e : byteAt s k = ((s.data.toList[k]).toNat : Int) := by rw [byteAt_get, List.getElem?_eq_getElem (by omega)]; rfl
    rw [e] at h2 ⊢; omega
def hasM (w : ByteArray) : Bool := decide (w.data.toList.head? = some 45)
def digG (w : ByteArray) : ByteArray := if hasM w = true then w.extract 1 w.size else w
def numG (w : ByteArray) : Option Int :=
  if (digG w).size = 0 ∨ 4 < (digG w).size ∨ ¬ DigTo (digG w) (digG w).size then none
  else if itoB (if hasM w = true then -valT (digG w) (digG w).size else valT (digG w) (digG w).size) = w then some (if hasM w = true then -valT (digG w) (digG w).size else valT (digG w) (digG w).size) else none
theorem numG_sound {w : ByteArray} {n : Int} (h : numG w = some n) : (-9999 ≤ n ∧ n ≤ 9999) ∧ itoB n = w := by
  unfold numG at h
  by_cases h1 : (digG w).size = 0 ∨ 4 < (digG w).size ∨ ¬ DigTo (digG w) (digG w).size
  · rw [if_pos h1] at h; cases h
  · rw [if_neg h1] at h
    have h4 : ¬ 4 < (digG w).size := fun hc => h1 (.inr (.inl hc))
    have hd : DigTo (digG w) (digG w).size := Classical.not_not.1 fun hc => h1 (.inr (.inr hc))
    have hv := valT_range (digG w) (digG w).size (by omega) hd
    have hp : (10 : Int) ^ (digG w).size ≤ 10000 := by
      have : (digG w).size = 0 ∨ (digG w).size = 1 ∨ (digG w).size = 2 ∨ (digG w).size = 3 ∨ (digG w).size = 4 := by omega
      rcases this with e | e | e | e | e <;> rw [e] <;> decide
    obtain ⟨v, hv0⟩ : ∃ v, (if hasM w = true then -valT (digG w) (digG w).size else valT (digG w) (digG w).size) = v := ⟨_, rfl⟩; rw [hv0] at h
    by_cases he : itoB v = w
    · rw [if_pos he] at h
      cases h
      refine ⟨?_, he⟩; rw [← hv0]
      split <;> omega
    · rw [if_neg he] at h; cases h
theorem itoa_head {n : Int} : (Lib.itoa n).head? = some 45 ↔ n < 0 := by
  unfold Lib.itoa
  by_cases h : n < 0
  · rw [if_pos h]; simp [h]
  · rw [if_neg h]
    refine ⟨fun hc => ?_, fun hc => absurd hc h⟩; have hm : (45 : UInt8) ∈ Lib.decDigits n.toNat := List.mem_of_mem_head? hc; have := dec_mem _ _ hm; simp at this
theorem dig_dec (n : Nat) : DigTo ⟨(Lib.decDigits n).toArray⟩ (Lib.decDigits n).length := by
  intro i hi
  have e : byteAt ⟨(Lib.decDigits n).toArray⟩ i = (((Lib.decDigits n)[i]).toNat : Int) := by
    rw [byteAt_get]; show (((Lib.decDigits n)[i]?.getD 0).toNat : Int) = _; rw [List.getElem?_eq_getElem hi]; rfl
  rw [e]; have := dec_mem _ _ (List.getElem_mem hi); omega
theorem numG_of {n : Int} (h : -9999 ≤ n ∧ n ≤ 9999) : numG (itoB n) = some n := by
  have hm : hasM (itoB n) = decide (n < 0) := by unfold hasM itoB; exact decide_eq_decide.2 itoa_head
  have hd : digG (itoB n) = ⟨(Lib.decDigits n.natAbs).toArray⟩ := by
    unfold digG; rw [hm]
    by_cases hn : n < 0
    · rw [if_pos (decide_eq_true hn)]
      apply ba_inj; rw [Lib.extract_data]; show ((Lib.itoa n).drop 1).take ((itoB n).size - 1) = Lib.decDigits n.natAbs; have e : Lib.itoa n = 45 :: Lib.decDigits n.natAbs := by unfold Lib.itoa; rw [if_pos hn]
      have e2 : (itoB n).size = (Lib.itoa n).length := rfl; rw [e2, e, List.drop_succ_cons, List.drop_zero, List.length_cons, Nat.add_sub_cancel, List.take_length]
    · rw [if_neg (by simpa using hn)]
      apply ba_inj; show Lib.itoa n = Lib.decDigits n.natAbs; unfold Lib.itoa; rw [if_neg hn]
      congr 1
      omega
  have hz : (⟨(Lib.decDigits n.natAbs).toArray⟩ : ByteArray).size = (Lib.decDigits n.natAbs).length := rfl; have hl := dec_len 3 n.natAbs (by omega); have hp := dec_pos n.natAbs; have hdd := dig_dec n.natAbs
  have hv : valT ⟨(Lib.decDigits n.natAbs).toArray⟩ (Lib.decDigits n.natAbs).length = (n.natAbs : Int) := by
    rw [valT_list _ _ (Nat.le_refl _) hdd]; show (valL ((Lib.decDigits n.natAbs).take (Lib.decDigits n.natAbs).length) : Int) = _; rw [List.take_length, valL_dec]
  unfold numG
  have hno : ¬ ((Lib.decDigits n.natAbs).length = 0 ∨ 4 < (Lib.decDigits n.natAbs).length ∨ ¬ DigTo ⟨(Lib.decDigits n.natAbs).toArray⟩ (Lib.decDigits n.natAbs).length) := by
    rintro (h1 | h1 | h1)
    · omega
    · omega
    · exact h1 hdd
  rw [hd, hz, hv, hm, if_neg hno]
  have e : (if decide (n < 0) = true then -(n.natAbs : Int) else (n.natAbs : Int)) = n := by
    by_cases hn : n < 0
    · rw [if_pos (decide_eq_true hn)]; omega
    · rw [if_neg (by simpa using hn)]; omega
  rw [e, if_pos rfl]
theorem noB_ito {n : Int} {b : UInt8} (hb : b.toNat < 45) : b ∉ Lib.itoa n := by
  intro hm; unfold Lib.itoa at hm
  by_cases h : n < 0
  · rw [if_pos h] at hm
    rcases List.mem_cons.1 hm with rfl | hm
    · simp at hb
    · have := dec_mem _ _ hm; omega
  · rw [if_neg h] at hm
    have := dec_mem _ _ hm; omega

def rowT (word : ByteArray) (xs : List Int) (k : Nat) : ByteArray := (xs.take k).foldl (fun acc x => acc ++ (⟨#[32]⟩ ++ itoB x)) word
theorem rowT_step (word : ByteArray) (xs : List Int) (k : Nat) (hk : k < xs.length) : rowT word xs (k + 1) = rowT word xs k ++ (⟨#[32]⟩ ++ itoB (gi xs k)) := by
  unfold rowT; rw [List.take_succ_eq_append_getElem hk, List.foldl_append, gi_get _ _ hk]; rfl
def InG (xs : List Int) : Prop := ∀ i, i < xs.length → -9999 ≤ gi xs i ∧ gi xs i ≤ 9999
theorem inG_mem {xs : List Int} (h : InG xs) {x : Int} (hx : x ∈ xs) : -9999 ≤ x ∧ x ≤ 9999 := by
  obtain ⟨i, hi, rfl⟩ := List.getElem_of_mem hx; have := h i hi
  rwa [gi_get _ _ hi] at this
theorem ito_len {n : Int} (h : -9999 ≤ n ∧ n ≤ 9999) : (Lib.itoa n).length ≤ 5 := by
  unfold Lib.itoa
  by_cases hn : n < 0
  · rw [if_pos hn, List.length_cons]
    have := dec_len 3 n.natAbs (by omega); omega
  · rw [if_neg hn]
    have := dec_len 3 n.toNat (by omega); omega
theorem rowT_size (word : ByteArray) (xs : List Int) (hs : InG xs) : ∀ k, k ≤ xs.length → (rowT word xs k).size ≤ word.size + 6 * k := by
  intro k
  induction k with
  | zero => intro _; simp [rowT]
  | succ k ih =>
    intro hk; have := ih (by omega); have h2 := ito_len (hs k (by omega)); rw [rowT_step word xs k hk, ByteArray.size_append, ByteArray.size_append]; have e1 : (⟨#[32]⟩ : ByteArray).size = 1 := rfl; have e2 : (itoB (gi xs k)).size = (Lib.itoa (gi xs k)).length := rfl; rw [e1, e2]; omega
theorem row_cut {word : ByteArray} (hw : 32 ∉ word.data.toList) (xs : List Int) : ∀ k, k ≤ xs.length → cutL 32 (rowT word xs k).data.toList = word.data.toList :: (xs.take k).map Lib.itoa := by
  intro k
  induction k with
  | zero => intro _; exact cutL_no hw
  | succ k ih =>
    intro hk; rw [rowT_step word xs k (by omega), ba_append, ba_append]; have e : (⟨#[32]⟩ : ByteArray).data.toList ++ (itoB (gi xs k)).data.toList = 32 :: Lib.itoa (gi xs k) := by simp [itoB]
    rw [e, cutL_snoc _ (noB_ito (by decide)), ih (by omega), List.take_succ_eq_append_getElem (by omega), List.map_append, List.cons_append, gi_get _ _ (by omega)]
    rfl
theorem row_parts {word : ByteArray} (hw : 32 ∉ word.data.toList) (xs : List Int) : partsF 32 (rowT word xs xs.length) = word :: xs.map itoB := by
  unfold partsF; rw [row_cut hw xs xs.length (Nat.le_refl _), List.map_cons, mkB_data, List.take_length, List.map_map]
  rfl
theorem noE_rowT {word : ByteArray} (hw : NoE word) (xs : List Int) : ∀ k, k ≤ xs.length → NoE (rowT word xs k) := by
  intro k
  induction k with
  | zero => intro _; exact hw
  | succ k ih =>
    intro hk; rw [rowT_step word xs k (by omega)]
    exact (ih (by omega)).app (NoE.app (by intro b hb; simp at hb; subst hb; decide) (by
      intro b hb; have hb' : b ∈ Lib.itoa (gi xs k) := by simpa [itoB] using hb
      rintro rfl; exact noB_ito (by decide) hb'))
def headP (l : List ByteArray) : ByteArray := l.getD 0 ByteArray.empty
def NumsG (l : List ByteArray) : Prop := ∀ i, i < l.length → (numG (l.getD i ByteArray.empty)).isSome = true
instance (l : List ByteArray) : Decidable (NumsG l) := by unfold NumsG; infer_instance
def valG (w : ByteArray) : Int := (numG w).getD 0
def toldG (word row : ByteArray) : Option (List Int) :=
  if headP (partsF 32 row) = word ∧ NumsG (partsF 32 row).tail then some ((partsF 32 row).tail.map valG) else none
theorem gi_map (f : ByteArray → Int) (l : List ByteArray) (i : Nat) (h : i < l.length) : gi (l.map f) i = f (l.getD i ByteArray.empty) := by
  unfold gi; rw [List.getD_eq_getElem?_getD, List.getD_eq_getElem?_getD, List.getElem?_map, List.getElem?_eq_getElem h]; rfl
theorem valG_range {w : ByteArray} (h : (numG w).isSome = true) : -9999 ≤ valG w ∧ valG w ≤ 9999 := by
  obtain ⟨n, hn⟩ := Option.isSome_iff_exists.1 h; unfold valG; rw [hn]; exact (numG_sound hn).1
theorem nums_in {l : List ByteArray} (h : NumsG l) : InG (l.map valG) := by
  intro i hi; rw [List.length_map] at hi; rw [gi_map valG l i hi]; exact valG_range (h i hi)
theorem told_in {w r : ByteArray} {xs : List Int} (h : toldG w r = some xs) : InG xs ∧ xs.length ≤ r.size := by
  unfold toldG at h
  split at h
  · rename_i hc
    cases h
    refine ⟨nums_in hc.2, ?_⟩; rw [List.length_map, List.length_tail]; have := parts_count 32 r; omega
  · cases h
theorem told_row {word : ByteArray} (hw : 32 ∉ word.data.toList) {xs : List Int} (h : InG xs) : toldG word (rowT word xs xs.length) = some xs := by
  unfold toldG; have hall : ∀ x ∈ xs, numG (itoB x) = some x := fun x hx => numG_of (inG_mem h hx)
  rw [row_parts hw, if_pos, List.tail_cons]
  · congr 1
    rw [List.map_map]
    conv => rhs; rw [← List.map_id xs]
    refine List.map_congr_left fun x hx => ?_
    show valG (itoB x) = x; unfold valG; rw [hall x hx]; rfl
  · refine ⟨rfl, fun i hi => ?_⟩
    rw [List.tail_cons, List.length_map] at hi; rw [List.tail_cons]
    have e : (xs.map itoB).getD i ByteArray.empty = itoB (gi xs i) := by
      rw [List.getD_eq_getElem?_getD, List.getElem?_map, List.getElem?_eq_getElem hi, gi_get _ _ hi]; rfl
    rw [e, numG_of (h i hi)]; rfl
def pieceW : ByteArray := ⟨#[112, 105, 101, 99, 101]⟩
def meshW : ByteArray := ⟨#[109, 101, 115, 104]⟩
def movesW : ByteArray := ⟨#[109, 111, 118, 101, 115]⟩
def readW : ByteArray := ⟨#[114, 101, 97, 100, 105, 110, 103]⟩
theorem noB_piece : (32 : UInt8) ∉ pieceW.data.toList := by simp [pieceW]
theorem noB_mesh : (32 : UInt8) ∉ meshW.data.toList := by simp [meshW]
theorem noB_moves : (32 : UInt8) ∉ movesW.data.toList := by simp [movesW]
theorem noB_read : (32 : UInt8) ∉ readW.data.toList := by simp [readW]
theorem noE_word : NoE pieceW ∧ NoE meshW ∧ NoE movesW ∧ NoE readW := by
  refine ⟨?_, ?_, ?_, ?_⟩ <;> (intro b hb; simp [pieceW, meshW, movesW, readW] at hb; rintro rfl; simp at hb)
def meL (m : Int × Int) : List Int := [m.1, m.2]
def rdL (r : Rd) : List Int := [r.aft, r.arb, r.seen, r.off]
def meR (m : Int × Int) : ByteArray := rowT meshW (meL m) 2
def rdR (r : Rd) : ByteArray := rowT readW (rdL r) 4
def rowsP (p : Pc) : List ByteArray := rowT pieceW [(p.ms.length : Int)] 1 :: (p.ms.map meR ++ rowT movesW p.mv p.mv.length :: p.rs.map rdR)
def textP (p : Pc) : ByteArray := txtF (rowsP p)
theorem rowsP_len (p : Pc) : (rowsP p).length = p.ms.length + p.rs.length + 2 := by unfold rowsP; simp; omega
theorem rowsP_noE (p : Pc) : ∀ l ∈ rowsP p, NoE l := by
  intro l hl; unfold rowsP at hl
  rcases List.mem_cons.1 hl with rfl | h
  · exact noE_rowT noE_word.1 _ 1 (by simp)
  · rcases List.mem_append.1 h with h | h
    · obtain ⟨m, _, rfl⟩ := List.mem_map.1 h
      exact noE_rowT noE_word.2.1 _ 2 (by simp [meL])
    · rcases List.mem_cons.1 h with rfl | h
      · exact noE_rowT noE_word.2.2.1 _ _ (Nat.le_refl _)
      · obtain ⟨r, _, rfl⟩ := List.mem_map.1 h
        exact noE_rowT noE_word.2.2.2 _ 4 (by simp [rdL])
theorem cut_flat : ∀ (L : List (List UInt8)), NoEnd L → cutL 10 (flat L) = L ++ [[]] := by
  intro L
  induction L with
  | nil => intro _; rfl
  | cons l r ih =>
    intro h; rw [flat, cutL_app (fun hm => h.head 10 hm rfl), ih h.tail]; rfl
theorem parts_text {rows : List ByteArray} (h : ∀ l ∈ rows, NoE l) : partsF 10 (txtF rows) = rows ++ [chkF (sumRows rows rows.length), ⟨#[]⟩] := by
  unfold partsF; rw [txtF_data, cut_flat _ (txtL_noEnd h), List.map_append]; unfold txtL; rw [List.map_append, List.map_map]; have : (mkB ∘ fun x : ByteArray => x.data.toList) = id := by funext x; exact mkB_data x
  rw [this, List.map_id, List.map_cons, List.map_nil, mkB_data, List.append_assoc]
  rfl
structure SmallP (p : Pc) : Prop where
  n : p.ms.length ≤ 9999
  ms : ∀ i, i < p.ms.length → InG (meL (gm p.ms i))
  mv : InG p.mv
  rs : ∀ i, i < p.rs.length → InG (rdL (gr p.rs i))
def BkP (s : ByteArray) (p : Pc) : Prop := SmallP p ∧ textP p = s
structure ParsedP (s : ByteArray) (p : Pc) : Prop where
  head : toldG pieceW (headP (partsF 10 s)) = some [(p.ms.length : Int)]
  len : (partsF 10 s).length = p.ms.length + p.rs.length + 4
  ms : ∀ i, i < p.ms.length → toldG meshW ((partsF 10 s).getD (i + 1) ByteArray.empty) = some (meL (gm p.ms i))
  mv : toldG movesW ((partsF 10 s).getD (p.ms.length + 1) ByteArray.empty) = some p.mv
  rs : ∀ i, i < p.rs.length → toldG readW ((partsF 10 s).getD (p.ms.length + 2 + i) ByteArray.empty) = some (rdL (gr p.rs i))
  text : textP p = s
theorem rowsP_at (p : Pc) (R : List ByteArray) : ((rowsP p ++ R).getD 0 ByteArray.empty = rowT pieceW [(p.ms.length : Int)] 1) ∧ (∀ i, i < p.ms.length → (rowsP p ++ R).getD (i + 1) ByteArray.empty = meR (gm p.ms i)) ∧
    (rowsP p ++ R).getD (p.ms.length + 1) ByteArray.empty = rowT movesW p.mv p.mv.length ∧ ∀ i, i < p.rs.length → (rowsP p ++ R).getD (p.ms.length + 2 + i) ByteArray.empty = rdR (gr p.rs i) := by
  refine ⟨rfl, fun i hi => ?_, ?_, fun i hi => ?_⟩
  · unfold rowsP
    rw [List.getD_eq_getElem?_getD, List.cons_append, List.getElem?_cons_succ, List.append_assoc, List.getElem?_append_left (by rw [List.length_map]; exact hi), List.getElem?_map, List.getElem?_eq_getElem hi, gm_get _ _ hi]; rfl
  · unfold rowsP
    rw [List.getD_eq_getElem?_getD, List.cons_append, List.getElem?_cons_succ, List.append_assoc, List.getElem?_append_right (by rw [List.length_map]; exact Nat.le_refl _), List.length_map, Nat.sub_self]; rfl
  · unfold rowsP
    rw [List.getD_eq_getElem?_getD, List.cons_append, show p.ms.length + 2 + i = (p.ms.length + (i + 1)) + 1 by omega, List.getElem?_cons_succ, List.append_assoc, List.getElem?_append_right (by rw [List.length_map]; omega), List.length_map, show p.ms.length + (i + 1) - p.ms.length = i + 1 by omega, List.cons_append, List.getElem?_cons_succ, List.getElem?_append_left (by rw [List.length_map]; exact hi), List.getElem?_map, List.getElem?_eq_getElem hi, gr_get _ _ hi]; rfl
theorem parsed_of_bk {s : ByteArray} {p : Pc} (h : BkP s p) : ParsedP s p := by
  obtain ⟨h1, rfl⟩ := h; have e : partsF 10 (textP p) = rowsP p ++ [chkF (sumRows (rowsP p) (rowsP p).length), ⟨#[]⟩] := parts_text (rowsP_noE p); obtain ⟨a1, a2, a3, a4⟩ := rowsP_at p [chkF (sumRows (rowsP p) (rowsP p).length), ⟨#[]⟩]; have hn := h1.n; refine ⟨?_, ?_, fun i hi => ?_, ?_, fun i hi => ?_, rfl⟩
  · rw [e]; unfold headP; rw [a1]
    exact told_row noB_piece (xs := [(p.ms.length : Int)]) (fun i hi => by
      have : i = 0 := by simpa using hi
      subst this; show -9999 ≤ (p.ms.length : Int) ∧ (p.ms.length : Int) ≤ 9999; omega)
  · rw [e, List.length_append, rowsP_len]; simp
  · rw [e, a2 i hi]; exact told_row noB_mesh (h1.ms i hi)
  · rw [e, a3]; exact told_row noB_moves h1.mv
  · rw [e, a4 i hi]; exact told_row noB_read (h1.rs i hi)
theorem bk_of_parsed {s : ByteArray} {p : Pc} (h : ParsedP s p) : BkP s p := by
  refine ⟨⟨?_, fun i hi => (told_in (h.ms i hi)).1, (told_in h.mv).1, fun i hi => (told_in (h.rs i hi)).1⟩, h.text⟩; have := (told_in h.head).1 0 (by simp); have e : gi [(p.ms.length : Int)] 0 = p.ms.length := rfl; omega
theorem meL_inj {a b : Int × Int} (h : meL a = meL b) : a = b := by
  unfold meL at h; simp at h; exact Prod.ext h.1 h.2
theorem rdL_inj {a b : Rd} (h : rdL a = rdL b) : a = b := by
  unfold rdL at h
  cases a; cases b
  simp at h ⊢; exact h
theorem gm_ext {a b : List (Int × Int)} (hl : a.length = b.length) (h : ∀ i, i < a.length → gm a i = gm b i) : a = b := by
  refine List.ext_getElem hl fun i h1 h2 => ?_
  have := h i h1
  rwa [gm_get _ _ h1, gm_get _ _ h2] at this
theorem gr_ext {a b : List Rd} (hl : a.length = b.length) (h : ∀ i, i < a.length → gr a i = gr b i) : a = b := by
  refine List.ext_getElem hl fun i h1 h2 => ?_
  have := h i h1
  rwa [gr_get _ _ h1, gr_get _ _ h2] at this
theorem bk_unique {s : ByteArray} {p q : Pc} (h : BkP s p) (h' : BkP s q) : p = q := by
  have a := parsed_of_bk h; have b := parsed_of_bk h'
  have hn : p.ms.length = q.ms.length := by
    have e := Option.some.inj (a.head.symm.trans b.head); have : (p.ms.length : Int) = q.ms.length := by simpa using e
    omega
  have hr : p.rs.length = q.rs.length := by have := a.len; have := b.len; omega
  have e1 : p.ms = q.ms := gm_ext hn fun i hi => meL_inj (Option.some.inj ((a.ms i hi).symm.trans (b.ms i (by omega))))
  have e2 : p.mv = q.mv := by
    have h1 := a.mv; rw [hn] at h1; exact Option.some.inj (h1.symm.trans b.mv)
  have e3 : p.rs = q.rs := gr_ext hr fun i hi => rdL_inj (by have h1 := a.rs i hi; rw [hn] at h1; exact Option.some.inj (h1.symm.trans (b.rs i (by omega))))
  cases p; cases q
  simp only at e1 e2 e3; subst e1; subst e2; subst e3; rfl

end Go.Proofs.YtbknfddaoolagaaGreatDoor
end

section
namespace Go.Proofs.YtbknfddaoolagaaGreatDoor
open Go
set_option linter.unusedVariables false

theorem small_of {p : Pc} (hp : PieceOk p) : SmallP p := by
  refine ⟨by have := hp.n4; omega, fun i hi => ?_, fun i hi => by have := hp.move i hi; omega, fun i hi => ?_⟩
  · have := hp.mesh i hi
    intro j hj; have hj2 : j < 2 := hj
    match j, hj2 with
    | 0, _ => show -9999 ≤ (gm p.ms i).1 ∧ (gm p.ms i).1 ≤ 9999; omega
    | 1, _ => show -9999 ≤ (gm p.ms i).2 ∧ (gm p.ms i).2 ≤ 9999; omega
  · have := hp.read i hi
    have := hp.m8; have := hp.n4; intro j hj; have hj2 : j < 4 := hj
    match j, hj2 with
    | 0, _ => show -9999 ≤ (gr p.rs i).aft ∧ (gr p.rs i).aft ≤ 9999; omega
    | 1, _ => show -9999 ≤ (gr p.rs i).arb ∧ (gr p.rs i).arb ≤ 9999; omega
    | 2, _ => show -9999 ≤ (gr p.rs i).seen ∧ (gr p.rs i).seen ≤ 9999; omega
    | 3, _ => show -9999 ≤ (gr p.rs i).off ∧ (gr p.rs i).off ≤ 9999; omega
theorem bk_text {p : Pc} (hp : PieceOk p) : BkP (textP p) p := ⟨small_of hp, rfl⟩
theorem me_size {p : Pc} (hs : SmallP p) {l : ByteArray} (h : l ∈ p.ms.map meR) : l.size ≤ 16 := by
  obtain ⟨m, hm, rfl⟩ := List.mem_map.1 h; obtain ⟨i, hi, rfl⟩ := List.getElem_of_mem hm; have h1 := hs.ms i hi; rw [gm_get _ _ hi] at h1; exact rowT_size meshW _ h1 2 (by simp [meL])
theorem rd_size {p : Pc} (hs : SmallP p) {l : ByteArray} (h : l ∈ p.rs.map rdR) : l.size ≤ 31 := by
  obtain ⟨m, hm, rfl⟩ := List.mem_map.1 h; obtain ⟨i, hi, rfl⟩ := List.getElem_of_mem hm; have h1 := hs.rs i hi; rw [gr_get _ _ hi] at h1; exact rowT_size readW _ h1 4 (by simp [rdL])
theorem head_size {p : Pc} (hs : SmallP p) : (rowT pieceW [(p.ms.length : Int)] 1).size ≤ 11 := by
  refine rowT_size pieceW _ (fun i hi => ?_) 1 (by simp); have : i = 0 := by simpa using hi
  subst this; have := hs.n; show -9999 ≤ (p.ms.length : Int) ∧ (p.ms.length : Int) ≤ 9999; omega
theorem mv_size {p : Pc} (hs : SmallP p) : (rowT movesW p.mv p.mv.length).size ≤ 5 + 6 * p.mv.length := rowT_size movesW _ hs.mv _ (Nat.le_refl _)
theorem flat_app (A B : List (List UInt8)) : flat (A ++ B) = flat A ++ flat B := by
  induction A with
  | nil => rfl
  | cons a r ih => simp [flat, ih]
def noP : Pc := ⟨[], [], []⟩
def ReadR (s : ByteArray) (p : Pc) (er : Int) : Prop :=
  (((400 < s.size ∧ er = 3) ∨ (s.size ≤ 400 ∧ (∀ q, ¬ BkP s q) ∧ er = 4) ∨ (s.size ≤ 400 ∧ (∃ q, BkP s q ∧ pieceB q = false) ∧ er = 2)) ∧ p = noP) ∨ (s.size ≤ 400 ∧ BkP s p ∧ pieceB p = true ∧ er = 0)
theorem read_good {s : ByteArray} {p q : Pc} {er : Int} (hs : s.size ≤ 400) (hb : BkP s p) (hf : pieceB p = true) (h : ReadR s q er) : q = p ∧ er = 0 := by
  rcases h with ⟨⟨h1, _⟩ | ⟨_, h1, _⟩ | ⟨_, ⟨x, h1, h3⟩, _⟩, _⟩ | ⟨_, h1, _, h2⟩
  · omega
  · exact absurd hb (h1 _)
  · rw [bk_unique h1 hb, hf] at h3; cases h3
  · exact ⟨bk_unique h1 hb, h2⟩
end Go.Proofs.YtbknfddaoolagaaGreatDoor
end

section
namespace Go.Proofs.YtbknfddaoolagaaGreatDoor
open Go Go.RowKit Go.Proofs Go.Shelf
set_option linter.unusedVariables false

theorem strV_get (ls : List ByteArray) (i : Nat) (hi : i < ls.length) : (ls.map Value.string)[i]? = some (.string (ls.getD i ByteArray.empty)) := by simp [hi]
def RdSt (w : World) (p : Option Addr) (ls : List ByteArray) : Prop := ∃ b, p = some ⟨b, 0, none⟩ ∧ ∀ i, i < ls.length → w.cell? ⟨b, i, none⟩ = some (.string (ls.getD i ByteArray.empty))
def ItoaG (w : World) : Prop := ∀ w', Below w.heap.size w w' → ∀ n : Int, -9999 ≤ n ∧ n ≤ 9999 → Calls Tryz.prog 98 #[.int .i64 n] w' fun e w'' => e = .returned (.string (itoB n)) ∧ Below w'.heap.size w' w''
theorem ItoaG.below {w w1 : World} (h : ItoaG w) (hb : Below w.heap.size w w1) : ItoaG w1 := fun w' hb' n hn => h w' (hb.trans (hb'.mono hb.size)) n hn
theorem itoaG_of {w : World} (htab : Lib.TabIs Tryz.prog w "internal/strconv.uint64pow10" .u64 Lib.pow10Tab) : ItoaG w := by
  intro w' hb n hn; have ht := Lib.tabBelow_of_tabIs htab w' hb; refine (Tryz.strconv_Itoa n (by omega) (by omega) w' ht).mono ?_; rintro e w'' ⟨rfl, k, os, rfl⟩; exact ⟨rfl, Lib.below_grow _ _ (Nat.le_refl _) _ _⟩
def MaxL (m : Int) (w : World) : Prop := w.cell? ⟨0, 0, none⟩ = some (.int .i64 m)
theorem MaxL.below {m : Int} {w w' : World} (h : MaxL m w) (hb : Below w.heap.size w w') : MaxL m w' := (hb.cell (lt_of_cellq h)).trans h
theorem c_split (s : ByteArray) (c : UInt8) (m : Int) (w : World) (hs : s.size ≤ 1000000) (hm : MaxL m w) :
    Calls Tryz.prog 84 #[.string s, .string ⟨#[c]⟩] w fun e w' => (∃ g, w.heap.size ≤ g ∧ e = .returned (.slice (some ⟨g, 0, none⟩) (partsF c s).length (partsF c s).length) ∧ RdSt w' (some ⟨g, 0, none⟩) (partsF c s)) ∧ Below w.heap.size w w' := by
  have h := Tryz.strings_Split s ⟨#[c]⟩ m w (by omega) hm (Nat.le_refl 1); have hl : Lib.countB s ⟨#[c]⟩ + 1 = (partsF c s).length := by rw [countB_one, partsF_len]
  rw [splitB_parts] at h; refine h.mono ?_; rintro e w' ⟨rfl, rfl⟩; rw [hl]; refine ⟨⟨w.heap.size, Nat.le_refl _, rfl, w.heap.size, rfl, fun i hi => ?_⟩, below_alloc1 _ _⟩; rw [at_new, List.getElem?_toArray]; exact strV_get _ i hi
theorem ito_size {n : Int} (h : -9999 ≤ n ∧ n ≤ 9999) : (itoB n).size ≤ 5 := ito_len h

set_option maxRecDepth 100000 in
set_option maxHeartbeats 1000000 in
theorem c_line (word : ByteArray) (p : Option Addr) (cap : Nat) (xs : List Int) (w : World) (hx : RdI w p xs) (hl : xs.length ≤ 1000) (hs : InG xs) (hw : word.size ≤ 10) (hI : ItoaG w) :
    Calls Tryz.prog 96 #[.string word, .slice p xs.length cap] w fun e w' => e = .returned (.string (rowT word xs xs.length)) ∧ Below w.heap.size w w' := by
  have HX := Lib.hid hx; have HS := Lib.hid hs; have HI := Lib.hid hI; have HWD := Lib.hid hw; clear hx hs hI hw
  go_enter Tryz.func96, Tryz.ntmps96
  go_wp2
  go_loopw [0, 9] (fun s i wr => ∃ k : Nat, k ≤ xs.length ∧ i = .int .i64 k ∧ s = .string (rowT word xs k) ∧ Hid (Below w.heap.size w wr)) (fun _ i _ => xs.length - (intOf i).toNat)
  case atStart => exact ⟨0, Nat.zero_le _, rfl, rfl, Lib.hid (Below.refl _ _)⟩
  case round =>
    obtain ⟨k, hk, rfl, rfl, HB1⟩ := hrel
    by_cases hlt : k < xs.length
    · have hltI : decide ((k : Int) < (xs.length : Int)) = true := by simp; omega
      obtain ⟨b, off, rfl, hc⟩ := (HX.out.below HB1.out).at hlt; have e1 := hc k hlt; have hxr := HS.out k hlt; have HST := Lib.hid (rowT_step word xs k hlt); have hit := HI.out wr HB1.out (gi xs k) hxr; have hd1 := ito_size hxr; obtain ⟨x, hxe⟩ : ∃ x, gi xs k = x := ⟨_, rfl⟩; rw [hxe] at e1 hit hd1 HST; obtain ⟨t, ht⟩ : ∃ t, itoB x = t := ⟨_, rfl⟩; rw [ht] at hit hd1 HST; clear hc hxe hxr ht; have hd2 := rowT_size word xs HS.out k (by omega); have hd0 := HWD.out; obtain ⟨R, hR⟩ : ∃ R, rowT word xs k = R := ⟨_, rfl⟩; rw [hR] at hd2 HST ⊢; have hd3 : ¬ 9223372036854775807 < 1 + t.size := by omega
      have hd4 : ¬ 9223372036854775807 < R.size + (1 + t.size) := by omega
      clear hR hd0 hd1 hd2; go_wp2_with fail; refine hit.mono ?_; clear hit; rintro e w' ⟨rfl, hb⟩; have HB2 := Lib.hid (HB1.out.trans (hb.mono HB1.out.size)); clear hb; go_wp2; go_roundw
      case rel => exact ⟨k + 1, by omega, by go_num, by rw [HST.out], HB2⟩
      case measure => simp [intOf]; omega
    · obtain rfl : k = xs.length := by omega
      have hltI : decide ((xs.length : Int) < (xs.length : Int)) = false := by simp
      go_wp2; go_ret; exact ⟨rfl, HB1.out⟩
end Go.Proofs.YtbknfddaoolagaaGreatDoor
end

section
namespace Go.Proofs.YtbknfddaoolagaaGreatDoor
open Go Go.RowKit Go.Proofs Go.Shelf
set_option linter.unusedVariables false

theorem rd_lit (w : World) (xs : List Int) (t : TypeId) : RdI (w.alloc (.cells (inV xs).toArray t)) (some ⟨w.heap.size, 0, none⟩) xs := by
  refine .inr ⟨w.heap.size, 0, rfl, fun i hi => ?_⟩; rw [Nat.zero_add, at_new]; rw [List.getElem?_toArray]; exact inV_get xs i hi
theorem infStr : (Tryz.prog.info? 9).map (fun i => (i.zero, i.size, i.bytes)) = some (some (.string ByteArray.empty), 1, 16) := by kernel_rfl
theorem one_own (w : World) (base : Nat) (hb : base ≤ w.heap.size) (l : ByteArray) : (w.alloc (.cells #[.string l] 9)).ownsRow base 9 1 (.slice (some ⟨w.heap.size, 0, none⟩) 1 1) 1 [.string l] :=
  ⟨by simp, .inr ⟨w.heap.size, 1, #[.string l], rfl, hb, alloc_new w _, Nat.le_refl _, by unfold maxLen; omega, rfl, rfl⟩⟩
theorem ix_byte (l : ByteArray) (j : Nat) (hj : j < l.size) (w : World) : (Instr.index 9 (.string l) (.int .i64 (j : Int))).run Tryz.prog w = .ok (.int .u8 (byteAt l j)) w := by
  rw [run_index_string (P := Tryz.prog) w 9 l .i64 j Tryz.underlying9, dif_pos ⟨by omega, by omega⟩]; unfold byteAt
  have e : l.data.getD j 0 = l[j] := by
    unfold Array.getD; rw [dif_pos (show j < l.data.size from hj)]; rfl
  rw [e]; rfl
theorem own_cap {w : World} {base : Nat} {e : TypeId} {size n g cap : Nat} {xs : List Value} (h : w.ownsRow base e size (.slice (some ⟨g, 0, none⟩) n cap) n xs) (hs : 1 ≤ size) : n ≤ cap := by
  rcases h.2 with ⟨h1, _⟩ | ⟨g', cap', cur, h1, _, _, hcm, _⟩
  · cases h1
  · injection h1 with _ _ h3
    subst h3; exact hcm

def rowsA (p : Pc) (k : Nat) : List ByteArray := rowT pieceW [(p.ms.length : Int)] 1 :: (p.ms.take k).map meR
def rowsB (p : Pc) (k : Nat) : List ByteArray := rowsA p p.ms.length ++ rowT movesW p.mv p.mv.length :: (p.rs.take k).map rdR
theorem rowsA_len (p : Pc) (k : Nat) (h : k ≤ p.ms.length) : (rowsA p k).length = k + 1 := by unfold rowsA; simp; omega
theorem rowsB_len (p : Pc) (k : Nat) (h : k ≤ p.rs.length) : (rowsB p k).length = p.ms.length + 2 + k := by unfold rowsB; rw [List.length_append, rowsA_len _ _ (Nat.le_refl _)]; simp; omega
theorem rowsA_zero (p : Pc) : rowsA p 0 = [rowT pieceW [(p.ms.length : Int)] 1] := rfl
theorem rowsA_succ (p : Pc) (k : Nat) (h : k < p.ms.length) : rowsA p (k + 1) = rowsA p k ++ [meR (gm p.ms k)] := by
  unfold rowsA; rw [List.take_succ_eq_append_getElem h, List.map_append, gm_get _ _ h]; rfl
theorem rowsB_zero (p : Pc) : rowsB p 0 = rowsA p p.ms.length ++ [rowT movesW p.mv p.mv.length] := by unfold rowsB; rw [List.take_zero]; rfl
theorem rowsB_succ (p : Pc) (k : Nat) (h : k < p.rs.length) : rowsB p (k + 1) = rowsB p k ++ [rdR (gr p.rs k)] := by
  unfold rowsB; rw [List.take_succ_eq_append_getElem h, List.map_append, gr_get _ _ h, List.append_assoc]; rfl
theorem rowsB_all (p : Pc) : rowsB p p.rs.length = rowsP p := by
  unfold rowsB rowsA rowsP; rw [List.take_length, List.take_length]; rfl
structure TextOk (p : Pc) : Prop where
  small : SmallP p
  ms : p.ms.length ≤ 450
  mv : p.mv.length ≤ 400
  rs : p.rs.length ≤ 450
theorem textOk_of {p : Pc} (hp : PieceOk p) : TextOk p := by
  have h := pieceB_iff.2 hp; refine ⟨small_of hp, ?_, ?_, ?_⟩
  · have := hp.n1; have := hp.n4; omega
  · have := hp.m8; omega
  · have := hp.r6; omega
theorem rows_size {p : Pc} (h : TextOk p) : ∀ i, i < (rowsP p).length → ((rowsP p).getD i ByteArray.empty).size ≤ 2500 := by
  intro i hi; have hm := getD_mem hi; obtain ⟨l, hl⟩ : ∃ l, (rowsP p).getD i ByteArray.empty = l := ⟨_, rfl⟩; rw [hl] at hm ⊢; unfold rowsP at hm
  rcases List.mem_cons.1 hm with rfl | h1
  · have := head_size h.small; omega
  · rcases List.mem_append.1 h1 with h1 | h1
    · have := me_size h.small h1; omega
    · rcases List.mem_cons.1 h1 with rfl | h1
      · have := mv_size h.small; have := h.mv; omega
      · have := rd_size h.small h1; omega
theorem join_le (B : Nat) (sep : List UInt8) : ∀ xs : List (List UInt8), (∀ x ∈ xs, x.length ≤ B) → (Lib.join xs sep).length ≤ xs.length * (B + sep.length) := by
  intro xs h
  cases xs with
  | nil => simp [Lib.join_nil]
  | cons x r =>
    rw [Lib.join_length]
    have hl : ∀ ys : List (List UInt8), (∀ y ∈ ys, y.length ≤ B) → Lib.lens ys ≤ ys.length * B := by
      intro ys
      induction ys with
      | nil => intro _; simp [Lib.lens]
      | cons y ys ih =>
        intro hy; have h1 := hy y (by simp); have h2 := ih (fun z hz => hy z (by simp [hz])); simp only [Lib.lens, List.map_cons, List.sum_cons, List.length_cons, Nat.succ_mul] at *; omega
    have := hl (x :: r) h; simp only [List.length_cons] at *; rw [Nat.mul_add, Nat.succ_mul r.length sep.length, Nat.mul_comm sep.length]; omega
theorem join_len {p : Pc} (h : TextOk p) : (Lib.join ((rowsP p).map (·.data.toList)) [10]).length ≤ 2600000 := by
  refine Nat.le_trans (join_le 2500 [10] _ ?_) ?_
  · intro x hx
    obtain ⟨y, hy, rfl⟩ := List.mem_map.1 hx; show y.data.toList.length ≤ 2500; rw [← size_toList]; obtain ⟨i, hi, rfl⟩ := List.mem_iff_getElem.1 hy; have := rows_size h i hi
    rwa [List.getD_eq_getElem?_getD, List.getElem?_eq_getElem hi] at this
  · rw [List.length_map, rowsP_len]
    have := h.ms; have := h.rs
    simp
    omega
theorem dec_le : ∀ x, x < 100 → (Lib.decDigits x).length ≤ 2 := by decide +kernel
theorem txt_join (rows : List ByteArray) (h : rows ≠ []) : (((((⟨(Lib.join (rows.map (·.data.toList)) [10]).toArray⟩ : ByteArray) ++ ⟨#[10, 101, 110, 100, 32]⟩) ++ decA (sumRows rows rows.length % 113 / 100)) ++ decA (sumRows rows rows.length % 113 / 10 % 10)) ++ decA (sumRows rows rows.length % 113 % 10)) ++ ⟨#[10]⟩ = txtF rows := by
  apply ba_inj; rw [txtF_data]; unfold txtL chkF; rw [flat_app]
  cases rows with
  | nil => exact absurd rfl h
  | cons x r =>
    rw [List.map_cons, ← join_flat]; simp only [ba_append, flat]
    simp
theorem tmodN (s n t : Nat) (h : s % n = t) : Int.tmod (s : Int) (n : Int) = (t : Int) := by rw [← h]; exact Int.tmod_eq_emod_of_nonneg (by omega)
theorem tdivN (s n t : Nat) (h : s / n = t) : Int.tdiv (s : Int) (n : Int) = (t : Int) := by rw [← h]; exact Int.tdiv_eq_ediv_of_nonneg (by omega)
theorem decA_nat (k : Nat) : decA (k : Int) = ⟨(Lib.decDigits k).toArray⟩ := by unfold decA; rw [Int.toNat_natCast]
theorem txt_end (rows : List ByteArray) (h : rows ≠ []) (J : List UInt8) (hJ : Lib.join (rows.map (·.data.toList)) [10] = J) (s tt a e b c : Nat) (hs : sumRows rows rows.length = (s : Int)) (htt : s % 113 = tt) (ha : tt / 100 = a) (he : tt / 10 = e) (hb : e % 10 = b) (hc : tt % 10 = c) :
    (((((⟨J.toArray⟩ : ByteArray) ++ ⟨#[10, 101, 110, 100, 32]⟩) ++ ⟨(Lib.decDigits a).toArray⟩) ++ ⟨(Lib.decDigits b).toArray⟩) ++ ⟨(Lib.decDigits c).toArray⟩) ++ ⟨#[10]⟩ = txtF rows := by
  rw [← txt_join rows h, hJ, hs]; have e1 : (s : Int) % 113 / 100 = (a : Int) := by omega
  have e2 : (s : Int) % 113 / 10 % 10 = (b : Int) := by omega
  have e3 : (s : Int) % 113 % 10 = (c : Int) := by omega
  rw [e1, e2, e3, decA_nat, decA_nat, decA_nat]
end Go.Proofs.YtbknfddaoolagaaGreatDoor
end

section
namespace Go.Proofs.YtbknfddaoolagaaGreatDoor
open Go Go.RowKit Go.Proofs Go.Shelf
set_option linter.unusedVariables false
set_option linter.unusedSimpArgs false

def TextPost (p : Pc) (w : World) (e : Ending) (w' : World) : Prop := e = .returned (.string (textP p)) ∧ Below w.heap.size w w'
set_option maxRecDepth 100000 in
set_option maxHeartbeats 4000000 in
theorem c_text (pm pv pr : Option Addr) (cm cv cr : Nat) (p : Pc) (w : World) (hp : RdP w pm pv pr p) (ht : TextOk p) (hI : ItoaG w) :
    Calls Tryz.prog 47 #[.agg #[.slice pm p.ms.length cm, .slice pv p.mv.length cv, .slice pr p.rs.length cr]] w (TextPost p w) := by
  obtain ⟨i0, hi0, hy0, hy1, hy2⟩ := info_parts infStr; obtain ⟨w0, e0, HS0, k0, k1, k2, b0⟩ := box3 w (.slice pm p.ms.length cm) (.slice pv p.mv.length cv) (.slice pr p.rs.length cr) 27; obtain ⟨w1, e1, HS1, _, _, b1⟩ := box1 w0 (.int .i64 p.ms.length) 3; have hn9 := ht.small.n
  have hh : Calls Tryz.prog 96 #[.string pieceW, .slice (some ⟨w0.heap.size, 0, none⟩) 1 1] w1 fun e w' => e = .returned (.string (rowT pieceW [(p.ms.length : Int)] 1)) ∧ Below w1.heap.size w1 w' :=
    c_line pieceW (some ⟨w0.heap.size, 0, none⟩) 1 [(p.ms.length : Int)] w1 (by rw [← e1]; exact rd_lit w0 [(p.ms.length : Int)] 3) (by simp) (fun i hi => by
      have : i = 0 := by simpa using hi
      subst this; show -9999 ≤ (p.ms.length : Int) ∧ (p.ms.length : Int) ≤ 9999; omega) (by decide) ((hI.below b0).below b1)
  have HP := Lib.hid (hp.below (b0.trans (b1.mono b0.size))); have HI := Lib.hid ((hI.below b0).below b1); have HT := Lib.hid ht; have HB1 := Lib.hid (b0.trans (b1.mono b0.size)); have hm450 := ht.ms; have hr450 := ht.rs; have hv400 := ht.mv; have HK := Lib.hid (show w1.cell? ⟨w.heap.size, 0, none⟩ = some (.slice pm p.ms.length cm) ∧ w1.cell? ⟨w.heap.size, 1, none⟩ = some (.slice pv p.mv.length cv) ∧ w1.cell? ⟨w.heap.size, 2, none⟩ = some (.slice pr p.rs.length cr) from ⟨(b1.cell (lt_of_cellq k0)).trans k0, (b1.cell (lt_of_cellq k1)).trans k1, (b1.cell (lt_of_cellq k2)).trans k2⟩); clear hp ht hI b0 b1 k1 k2 hn9
  go_enter Tryz.func47, Tryz.ntmps47
  go_wp2_with fail; refine hh.mono ?_; rintro e w2 ⟨rfl, hb2⟩; have HB2 := Lib.hid hb2; have k0 := (hb2.cell (lt_of_cellq HK.out.1)).trans HK.out.1; clear hh hb2 e0 e1; obtain ⟨H, hH⟩ : ∃ H, rowT pieceW [(p.ms.length : Int)] 1 = H := ⟨_, rfl⟩; have HHE := Lib.hid (show rowsA p 0 = [H] by rw [rowsA_zero, hH]); rw [hH]; clear hH; obtain ⟨w3, e3, HS3, _, _, b3⟩ := box1 w2 (.string H) 9; have HO0 := Lib.hid (show w3.ownsRow w2.heap.size 9 1 (.slice (some ⟨w2.heap.size, 0, none⟩) 1 1) 1 [.string H] by rw [← e3]; exact one_own w2 w2.heap.size (Nat.le_refl _) H); have HBE0 := Lib.hid b3; have k0 := (b3.cell (lt_of_cellq k0)).trans k0; clear b3; go_wp2; clear e3
  go_loopw [3, 21] (fun v i wr => ∃ k : Nat, k ≤ p.ms.length ∧ i = .int .i64 k ∧ Hid (wr.ownsRow w2.heap.size 9 1 v (k + 1) (stV (rowsA p k))) ∧ Hid (Below w2.heap.size w2 wr)) (fun _ i _ => p.ms.length - (intOf i).toNat)
  case atStart => exact ⟨0, Nat.zero_le _, rfl, Lib.hid (by rw [HHE.out]; exact HO0.out), HBE0⟩
  case round =>
    obtain ⟨k, hk, rfl, HO, HB⟩ := hrel; have HBW := Lib.hid (HB2.out.trans (HB.out.mono HB2.out.size))
    by_cases hlt : k < p.ms.length
    · obtain ⟨b, off, rfl, hc⟩ := ((HP.out.below HBW.out).ms).at hlt
      obtain ⟨d0, d1⟩ := hc k hlt; have hsm := HT.out.small.ms k hlt; have HST := Lib.hid (rowsA_succ p k hlt); obtain ⟨M, hM⟩ : ∃ M, gm p.ms k = M := ⟨_, rfl⟩; rw [hM] at d0 d1 hsm HST; obtain ⟨lo, hi⟩ := M; obtain ⟨w4, e4, HS4, y0, y1, b4⟩ := box2 wr (.int .i64 lo) (.int .i64 hi) 78; obtain ⟨w5, e5, HS5, z0, z1, b5⟩ := box2 w4 (.int .i64 lo) (.int .i64 hi) 3; have b45 := b4.trans (b5.mono b4.size)
      have hcl : Calls Tryz.prog 96 #[.string meshW, .slice (some ⟨w4.heap.size, 0, none⟩) 2 2] w5 fun e w' => e = .returned (.string (meR (lo, hi))) ∧ Below w5.heap.size w5 w' :=
        c_line meshW (some ⟨w4.heap.size, 0, none⟩) 2 [lo, hi] w5 (by rw [← e5]; exact rd_lit w4 [lo, hi] 3) (by simp) hsm (by decide) ((HI.out.below HBW.out).below b45)
      have HO5 := Lib.hid (own_kept HO.out b45); have HB5 := Lib.hid (HB.out.trans (b45.mono HB.out.size)); clear hc hM hsm b4 b5 b45 z0 z1; go_wp2_with fail; refine hcl.mono ?_; clear hcl; rintro e w6 ⟨rfl, b6⟩; have HO6 := Lib.hid (own_kept HO5.out b6); have HB6 := Lib.hid (HB5.out.trans (b6.mono HB5.out.size)); clear b6 e4 e5; go_wp2_with (at_builtin; refine wpList_append_own _ rfl _ _ 82 rfl w2.heap.size 9 i0 _ 1 16 Tryz.underlying82 hi0 hy0 hy1 hy2 rfl (by decide) _ _ _ rfl (HO6.out.alloc _) ⟨w6.heap.size, 0, none⟩ 1 1 [.string (meR (lo, hi))] rfl rfl ?c1 ?c2 ?c3 ?c4 ?c5 ?_)
      case c1 => exact news_of _ _ _
      case c2 => intro u hu; simp at hu; subst hu; rfl
      case c3 => unfold maxLen; omega
      case c4 => omega
      case c5 => have := HB6.out.size; simp; omega
      intro v' w7 hown' hgrow _; have HO7 := Lib.hid hown'; have HB7 := Lib.hid ((HB6.out.alloc HB6.out.size _).grown hgrow (by have := HB6.out.size; simp; omega) (fun j hj => (HO6.out.lt j hj).1)); clear hown' hgrow; go_wp2; go_roundw
      case rel => exact ⟨k + 1, by omega, by go_num, Lib.hid (by rw [HST.out, stV_append]; exact HO7.out), HB7⟩
      case measure => simp [intOf]; omega
    · obtain rfl : k = p.ms.length := by omega
      have k1 := (HBW.out.cell (lt_of_cellq HK.out.2.1)).trans HK.out.2.1; have hcl := c_line movesW pv cv p.mv wr ((HP.out.below HBW.out).mv) (by omega) HT.out.small.mv (by decide) (HI.out.below HBW.out); obtain ⟨V, hV⟩ : ∃ V, rowT movesW p.mv p.mv.length = V := ⟨_, rfl⟩; have HVE := Lib.hid (show rowsB p 0 = rowsA p p.ms.length ++ [V] by rw [rowsB_zero, hV]); rw [hV] at hcl; clear hV; go_wp2_with fail; refine hcl.mono ?_; clear hcl; rintro e w3 ⟨rfl, b3⟩; have HO3 := Lib.hid (own_kept HO.out b3); have HB3 := Lib.hid (HB.out.trans (b3.mono HB.out.size)); clear b3; go_wp2_with (at_builtin; refine wpList_append_own _ rfl _ _ 82 rfl w2.heap.size 9 i0 _ 1 16 Tryz.underlying82 hi0 hy0 hy1 hy2 rfl (by decide) _ _ _ rfl (HO3.out.alloc _) ⟨w3.heap.size, 0, none⟩ 1 1 [.string V] rfl rfl ?c1 ?c2 ?c3 ?c4 ?c5 ?_)
      case c1 => exact news_of _ _ _
      case c2 => intro u hu; simp at hu; subst hu; rfl
      case c3 => unfold maxLen; omega
      case c4 => omega
      case c5 => have := HB3.out.size; simp; omega
      intro v' w7 hown' hgrow _; have HO7 := Lib.hid hown'; have HB7 := Lib.hid ((HB3.out.alloc HB3.out.size _).grown hgrow (by have := HB3.out.size; simp; omega) (fun j hj => (HO3.out.lt j hj).1)); clear hown' hgrow; have HBX := Lib.hid (HB2.out.trans (HB7.out.mono HB2.out.size)); have k2 := (HBX.out.cell (lt_of_cellq HK.out.2.2)).trans HK.out.2.2; go_wp2
      go_loopw [3, 46] (fun v i wr => ∃ k : Nat, k ≤ p.rs.length ∧ i = .int .i64 k ∧ Hid (wr.ownsRow w2.heap.size 9 1 v (p.ms.length + 2 + k) (stV (rowsB p k))) ∧ Hid (Below w2.heap.size w2 wr)) (fun _ i _ => p.rs.length - (intOf i).toNat)
      case atStart => exact ⟨0, Nat.zero_le _, rfl, Lib.hid (by rw [HVE.out, stV_append]; exact HO7.out), HB7⟩
      case round =>
        obtain ⟨k, hk, rfl, HO, HB⟩ := hrel; have HBW := Lib.hid (HB2.out.trans (HB.out.mono HB2.out.size))
        by_cases hlt : k < p.rs.length
        · obtain ⟨b, off, rfl, hc⟩ := ((HP.out.below HBW.out).rs).at hlt
          obtain ⟨d0, d1, d2, d3⟩ := hc k hlt; have hsm := HT.out.small.rs k hlt; have HST := Lib.hid (rowsB_succ p k hlt); obtain ⟨M, hM⟩ : ∃ M, gr p.rs k = M := ⟨_, rfl⟩; rw [hM] at d0 d1 d2 d3 hsm HST; obtain ⟨a, c, s, o⟩ := M; obtain ⟨w4, e4, HS4, y0, y1, y2, y3, b4⟩ := box4 wr (.int .i64 a) (.int .i64 c) (.int .i64 s) (.int .i64 o) 87; obtain ⟨w5, e5, HS5, z0, z1, z2, z3, b5⟩ := box4 w4 (.int .i64 a) (.int .i64 c) (.int .i64 s) (.int .i64 o) 3; have b45 := b4.trans (b5.mono b4.size)
          have hcl : Calls Tryz.prog 96 #[.string readW, .slice (some ⟨w4.heap.size, 0, none⟩) 4 4] w5 fun e w' => e = .returned (.string (rdR ⟨a, c, s, o⟩)) ∧ Below w5.heap.size w5 w' :=
            c_line readW (some ⟨w4.heap.size, 0, none⟩) 4 [a, c, s, o] w5 (by rw [← e5]; exact rd_lit w4 [a, c, s, o] 3) (by simp) hsm (by decide) ((HI.out.below HBW.out).below b45)
          have HO5 := Lib.hid (own_kept HO.out b45); have HB5 := Lib.hid (HB.out.trans (b45.mono HB.out.size)); clear hc hM hsm b4 b5 b45 z0 z1 z2 z3; go_wp2_with fail; refine hcl.mono ?_; clear hcl; rintro e w6 ⟨rfl, b6⟩; have HO6 := Lib.hid (own_kept HO5.out b6); have HB6 := Lib.hid (HB5.out.trans (b6.mono HB5.out.size)); clear b6 e4 e5; go_wp2_with (at_builtin; refine wpList_append_own _ rfl _ _ 82 rfl w2.heap.size 9 i0 _ 1 16 Tryz.underlying82 hi0 hy0 hy1 hy2 rfl (by decide) _ _ _ rfl (HO6.out.alloc _) ⟨w6.heap.size, 0, none⟩ 1 1 [.string (rdR ⟨a, c, s, o⟩)] rfl rfl ?c1 ?c2 ?c3 ?c4 ?c5 ?_)
          case c1 => exact news_of _ _ _
          case c2 => intro u hu; simp at hu; subst hu; rfl
          case c3 => unfold maxLen; omega
          case c4 => omega
          case c5 => have := HB6.out.size; simp; omega
          intro v' w7 hown' hgrow _; have HO7 := Lib.hid hown'; have HB7 := Lib.hid ((HB6.out.alloc HB6.out.size _).grown hgrow (by have := HB6.out.size; simp; omega) (fun j hj => (HO6.out.lt j hj).1)); clear hown' hgrow; go_wp2; go_roundw
          case rel => exact ⟨k + 1, by omega, by go_num, Lib.hid (by rw [HST.out, stV_append]; exact HO7.out), HB7⟩
          case measure => simp [intOf]; omega
        · obtain rfl : k = p.rs.length := by omega
          obtain ⟨n, hn⟩ : ∃ n, p.ms.length + 2 + p.rs.length = n := ⟨_, rfl⟩; have HON := Lib.hid (show wr.ownsRow w2.heap.size 9 1 u3 n (stV (rowsP p)) by rw [← rowsB_all, ← hn]; exact HO.out); have HLL := Lib.hid (show (rowsP p).length = n by rw [rowsP_len]; omega); have hn9 : n ≤ 902 := by omega
          have hn2 : 2 ≤ n := by omega
          obtain ⟨g, cap5, hv⟩ : ∃ g cap, u3 = .slice (some ⟨g, 0, none⟩) n cap := by
            have h := HON.out; obtain ⟨n', rfl⟩ : ∃ n', n = n' + 1 := ⟨n - 1, by omega⟩; exact own_form h
          subst hv; rw [show p.ms.length + 2 + p.rs.length = n from hn] at *
          have HCE := Lib.hid (show ∀ i, i < n → wr.cell? ⟨g, i, none⟩ = some (.string ((rowsP p).getD i ByteArray.empty)) from fun i hi' => by
            have h := HON.out.cells (g := g) rfl i _ (stV_get _ i (by rw [HLL.out]; exact hi'))
            rwa [add_new] at h)
          have HSZ := Lib.hid (show ∀ i, i < n → ((rowsP p).getD i ByteArray.empty).size ≤ 2500 from fun i hi' => rows_size HT.out i (by rw [HLL.out]; exact hi')); obtain ⟨ls, hls⟩ : ∃ ls, rowsP p = ls := ⟨_, rfl⟩; have HJL := Lib.hid (join_len HT.out); rw [hls] at HCE HSZ HLL HON HJL; have HLS := Lib.hid hls; clear hn hls HO; go_wp2
          go_loopw [8, 66] (fun s i w4 => ∃ k : Nat, k ≤ n ∧ i = .int .i64 k ∧ s = .int .i64 (sumRows ls k) ∧ w4 = wr) (fun _ i _ => n - (intOf i).toNat)
          case atStart => exact ⟨0, Nat.zero_le _, rfl, rfl, rfl⟩
          case round =>
            rename_i w3
            obtain ⟨k, hk, rfl, rfl, rfl⟩ := hrel
            by_cases hlt : k < n
            · have hltI : decide ((k : Int) < (n : Int)) = true := by simp; omega
              have e1 := HCE.out k hlt; have hsk := HSZ.out k hlt; obtain ⟨l, hl⟩ : ∃ l, ls.getD k ByteArray.empty = l := ⟨_, rfl⟩; rw [hl] at e1 hsk; have HST := Lib.hid (show sumRows ls (k + 1) = sumRows ls k + rowSum k l l.size by simp only [sumRows]; rw [hl]); have hsr := sumRows_range ls (fun i hi' => HSZ.out i (by rw [HLL.out] at hi'; exact hi')) (by rw [HLL.out]; omega) k (by rw [HLL.out]; omega); have HSR := Lib.hid (show 0 ≤ sumRows ls k ∧ sumRows ls k ≤ 2000000000000000 by omega); obtain ⟨S, hS⟩ : ∃ S, sumRows ls k = S := ⟨_, rfl⟩; rw [hS] at HST HSR ⊢; clear hl hsr hS; go_wp2
              go_loopw [8, 73] (fun s i w5 => ∃ j : Nat, j ≤ l.size ∧ i = .int .i64 j ∧ s = .int .i64 (S + rowSum k l j) ∧ w5 = wr) (fun _ i _ => l.size - (intOf i).toNat)
              case atStart => exact ⟨0, Nat.zero_le _, rfl, by simp [rowSum], rfl⟩
              case round =>
                obtain ⟨j, hj, rfl, rfl, rfl⟩ := hrel
                by_cases hjl : j < l.size
                · have hjlI : decide ((j : Int) < (l.size : Int)) = true := by simp; omega
                  have hix := ix_byte l j hjl; have hby := byteAt_range l j; have hrs := rowSum_range k (by omega) l j (by omega); have hSR := HSR.out; have HRS := Lib.hid (show rowSum k l (j + 1) = rowSum k l j + byteAt l j * ((j : Int) + 1) * ((k : Int) + 1) from rfl); obtain ⟨B, hB⟩ : ∃ B, byteAt l j = B := ⟨_, rfl⟩; obtain ⟨R, hR⟩ : ∃ R, rowSum k l j = R := ⟨_, rfl⟩; rw [hB] at hix hby HRS; rw [hR] at hrs HRS; have hm1 : 0 ≤ B * ((j : Int) + 1) ∧ B * ((j : Int) + 1) ≤ 255 * 2501 := ⟨Int.mul_nonneg hby.1 (by omega), Int.mul_le_mul hby.2 (by omega) (by omega) (by omega)⟩; have hm2 : 0 ≤ B * ((j : Int) + 1) * ((k : Int) + 1) ∧ B * ((j : Int) + 1) * ((k : Int) + 1) ≤ (255 * 2501) * 1001 := ⟨Int.mul_nonneg hm1.1 (by omega), Int.mul_le_mul hm1.2 (by omega) (by omega) (by omega)⟩; have hw0 : IntKind.i64.wrap B = B := w64 _ (by omega) (by omega); have hw1 : IntKind.i64.wrap (B * ((j : Int) + 1)) = B * ((j : Int) + 1) := w64 _ (by omega) (by omega)
                  have hw2 : IntKind.i64.wrap (B * ((j : Int) + 1) * ((k : Int) + 1)) = B * ((j : Int) + 1) * ((k : Int) + 1) := w64 _ (by omega) (by omega); have hw3 : IntKind.i64.wrap (S + R + B * ((j : Int) + 1) * ((k : Int) + 1)) = S + R + B * ((j : Int) + 1) * ((k : Int) + 1) := w64 _ (by omega) (by omega); rw [hR]; go_wp2; go_roundw
                  case rel => exact ⟨j + 1, by omega, by go_num, by rw [HRS.out, Int.add_assoc], trivial⟩
                  case measure => simp [intOf]; omega
                · obtain rfl : j = l.size := by omega
                  have hjlI : decide ((l.size : Int) < (l.size : Int)) = false := by simp
                  go_wp2; go_roundw
                  case rel => exact ⟨k + 1, by omega, by go_num, by rw [HST.out], trivial⟩
                  case measure => simp [intOf]; omega
            · obtain rfl : k = n := by omega
              have hltI : decide ((k : Int) < (k : Int)) = false := by simp
              have hsr := sumRows_range ls (fun i hi' => HSZ.out i (by rw [HLL.out] at hi'; exact hi')) (by rw [HLL.out]; omega) k (by rw [HLL.out]; omega); obtain ⟨S, hS⟩ : ∃ S, sumRows ls k = S := ⟨_, rfl⟩; rw [hS] at hsr ⊢; obtain ⟨s, hs⟩ : ∃ s : Nat, S = s := ⟨S.toNat, by omega⟩; subst hs; have HS := Lib.hid (show sumRows ls ls.length = (s : Int) by rw [HLL.out]; exact hS); obtain ⟨tt, htt⟩ : ∃ tt : Nat, s % 113 = tt := ⟨_, rfl⟩; obtain ⟨a, ha⟩ : ∃ a : Nat, tt / 100 = a := ⟨_, rfl⟩; obtain ⟨e, he⟩ : ∃ e : Nat, tt / 10 = e := ⟨_, rfl⟩; obtain ⟨b, hb⟩ : ∃ b : Nat, e % 10 = b := ⟨_, rfl⟩; obtain ⟨c, hc⟩ : ∃ c : Nat, tt % 10 = c := ⟨_, rfl⟩; have ba : a < 100 := by omega
              have bb : b < 100 := by omega
              have bc : c < 100 := by omega
              have hd1 := dec_le a ba; have hd2 := dec_le b bb; have hd3 := dec_le c bc; have hq0 : Int.tmod (s : Int) 113 = (tt : Int) := tmodN s 113 tt htt; have hr0 : (s : Int) % 113 = (tt : Int) := by omega
              have hr1 : (tt : Int) / 100 = (a : Int) := by omega
              have hr2 : (tt : Int) / 10 = (e : Int) := by omega
              have hr3 : (e : Int) % 10 = (b : Int) := by omega
              have hr4 : (tt : Int) % 10 = (c : Int) := by omega
              have hjoin := Tryz.strings_Join g 0 cap5 ls ⟨#[10]⟩ wr (fun j x hj => by
                have h := HON.out.cells (g := g) rfl j (.string x) (by unfold stV; rw [List.getElem?_map, hj]; rfl); rw [add_new] at h; rw [Nat.zero_add]; exact h) (by have h := HON.out.lt g rfl; exact h.2) (by rw [HLL.out]; omega) (by rw [HLL.out]; exact own_cap HON.out (Nat.le_refl _)) (Nat.le_trans HJL.out (by omega))
              rw [HLL.out] at hjoin; have hlen := HJL.out; obtain ⟨J, hJ⟩ : ∃ J, Lib.join (ls.map (·.data.toList)) [10] = J := ⟨_, rfl⟩; have hjoin2 : Calls Tryz.prog 97 #[.slice (some ⟨g, 0, none⟩) k cap5, .string ⟨#[10]⟩] wr fun e w' => e = .returned (.string ⟨J.toArray⟩) ∧ Below wr.heap.size wr w' := by rw [← hJ]; exact hjoin
              rw [hJ] at hlen; have HEND := Lib.hid (txt_end ls (by intro hc; have := HLL.out; rw [hc] at this; simp at this; omega) J hJ s tt a e b c HS.out htt ha he hb hc); have HTX := Lib.hid (show textP p = txtF ls by unfold textP; rw [HLS.out]); have h1 := Tryz.strconv_Itoa_small a ba; have h2 := Tryz.strconv_Itoa_small b bb; have h3 := Tryz.strconv_Itoa_small c bc; obtain ⟨A, hA⟩ : ∃ A : ByteArray, (⟨(Lib.decDigits a).toArray⟩ : ByteArray) = A := ⟨_, rfl⟩; obtain ⟨B, hB⟩ : ∃ B : ByteArray, (⟨(Lib.decDigits b).toArray⟩ : ByteArray) = B := ⟨_, rfl⟩; obtain ⟨C, hC⟩ : ∃ C : ByteArray, (⟨(Lib.decDigits c).toArray⟩ : ByteArray) = C := ⟨_, rfl⟩; obtain ⟨JB, hJB⟩ : ∃ JB : ByteArray, (⟨J.toArray⟩ : ByteArray) = JB := ⟨_, rfl⟩; have zA : A.size ≤ 2 := by rw [← hA]; exact hd1
              have zB : B.size ≤ 2 := by rw [← hB]; exact hd2
              have zC : C.size ≤ 2 := by rw [← hC]; exact hd3
              have zJ : JB.size ≤ 2600000 := by rw [← hJB]; exact hlen
              rw [hA] at h1; rw [hB] at h2; rw [hC] at h3; rw [hJB] at hjoin2; rw [hA, hB, hC, hJB] at HEND; have hl1 : ¬ 9223372036854775807 < JB.size + 5 := by omega
              have hl2 : ¬ 9223372036854775807 < JB.size + 5 + A.size := by omega
              have hl3 : ¬ 9223372036854775807 < JB.size + 5 + A.size + B.size := by omega
              have hl4 : ¬ 9223372036854775807 < JB.size + 5 + A.size + B.size + C.size := by omega
              have hl5 : ¬ 9223372036854775807 < JB.size + 5 + A.size + B.size + C.size + 1 := by omega
              have HBF := Lib.hid (HB1.out.trans ((HB2.out.trans (HB.out.mono HB2.out.size)).mono HB1.out.size)); clear htt ha he hb hc hA hB hC hJB hJ hjoin hlen hd1 hd2 hd3 zA zB zC zJ hS hsr; go_wp2_with fail; refine hjoin2.mono ?_; clear hjoin2; rintro e1 w5 ⟨rfl, hb5⟩; have HB5 := Lib.hid (HBF.out.trans (hb5.mono HBF.out.size)); clear hb5; go_wp2_with fail; refine (h1 _).mono ?_; rintro e1 w' ⟨rfl, rfl⟩; go_wp2_with fail; refine (h2 _).mono ?_; rintro e1 w' ⟨rfl, rfl⟩; go_wp2_with fail; refine (h3 _).mono ?_; rintro e1 w' ⟨rfl, rfl⟩; go_wp2; go_ret; refine ⟨?_, HB5.out⟩; rw [HTX.out, ← HEND.out]; rfl
end Go.Proofs.YtbknfddaoolagaaGreatDoor
end
