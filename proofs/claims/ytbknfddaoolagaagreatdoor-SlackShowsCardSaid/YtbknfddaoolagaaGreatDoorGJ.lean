/-
  A word read as a number by the program (the walk); what is given up with.
  A line read as a word and numbers by the program (the walk).
  What the program's reader asks of a text's lines, plain; a struct of three cells that is stored.
  A word for walks through a drawn region: the world at hand gets a name.
-/
import Derived.Test.YtbknfddaoolagaaGreatDoorGI
import Derived.Laws.RangeAny
import Derived.Laws.IdiomStrings
import Derived.Deep.RegionHeld3
section
namespace Go.Proofs.YtbknfddaoolagaaGreatDoor
open Go Go.RowKit Go.Proofs Go.Shelf
set_option linter.unusedVariables false
set_option linter.unusedSimpArgs false

def noneE (s : ByteArray) : Ending := .panicked [{ v := .iface 80 (.agg #[.string s]), recovered := false }]
theorem c_sure_t (s : ByteArray) (w : World) : Calls Tryz.prog 86 #[.bool true, .string s] w fun e w' => e = .returned (.tuple #[]) ∧ w = w' := by
  go_enter Tryz.func86, Tryz.ntmps86
  go_wp2; refine bodyPost_end (results_none rfl _ _ _) rfl ?_; exact ⟨rfl, rfl⟩
theorem c_sure_f (s : ByteArray) (w : World) : Calls Tryz.prog 86 #[.bool false, .string s] w fun e w' => e = noneE s ∧ Below w.heap.size w w' := by
  go_enter Tryz.func86, Tryz.ntmps86
  go_wp2; refine ⟨rfl, rfl, Below.refl _ _⟩

theorem trim_dig (w : ByteArray) : (⟨(Lib.trimPrefix w.data.toList [45]).toArray⟩ : ByteArray) = digG w := by
  apply ba_inj; unfold digG hasM Lib.trimPrefix
  have e : Lib.hasPrefix w.data.toList [45] = decide (w.data.toList.head? = some 45) := by
    unfold Lib.hasPrefix
    cases w.data.toList with
    | nil => rfl
    | cons a r =>
      show (([45] : List UInt8).isPrefixOf (a :: r)) = _
      by_cases h : a = 45
      · subst h; simp
      · simp [List.isPrefixOf, h]; intro hc; exact h hc.symm
  rw [e]
  by_cases h : w.data.toList.head? = some 45
  · rw [decide_eq_true h]
    simp
    cases hw : w.data.toList with
    | nil => rw [hw] at h; simp at h
    | cons a r =>
      have : w.data = (a :: r).toArray := by rw [← hw]
      simp [ByteArray.extract, ByteArray.copySlice, this]; rw [List.take_of_length_le]; rw [size_toList, hw]; simp
  · rw [decide_eq_false h]
    simp
theorem dig_size (w : ByteArray) : (digG w).size = if hasM w = true then w.size - 1 else w.size := by
  unfold digG
  split <;> simp
theorem hasM_pos {w : ByteArray} (h : hasM w = true) : 0 < w.size := by
  unfold hasM at h; have h := of_decide_eq_true h; rw [size_toList]
  cases hw : w.data.toList with
  | nil => rw [hw] at h; simp at h
  | cons a r => simp
theorem numG_bad {w : ByteArray} (h : (digG w).size = 0 ∨ 4 < (digG w).size ∨ ¬ DigTo (digG w) (digG w).size) : numG w = none := by unfold numG; rw [if_pos h]
def valS (w : ByteArray) : Int := if hasM w = true then -valT (digG w) (digG w).size else valT (digG w) (digG w).size
theorem numG_if {w : ByteArray} (h0 : (digG w).size ≠ 0) (h4 : (digG w).size ≤ 4) (hd : DigTo (digG w) (digG w).size) : numG w = if itoB (valS w) = w then some (valS w) else none := by
  unfold numG valS; rw [if_neg (by rintro (h | h | h); exact h0 h; omega; exact h hd)]
theorem decode_digit {x : ByteArray} {k : Nat} (h : k < x.size) : (48 ≤ ((Utf8.decode x k).1 : Int) ∧ ((Utf8.decode x k).1 : Int) ≤ 57) ↔ (48 ≤ byteAt x k ∧ byteAt x k ≤ 57) := by
  have e : byteAt x k = ((x[k]'h).toNat : Int) := by
    unfold byteAt Array.getD; rw [dif_pos (show k < x.data.size from h)]; rfl
  rw [e]
  by_cases ha : (x[k]'h).toNat < 128
  · rw [decode_ascii x k h ha]
  · have := (decode_high x k h (by omega)).1
    omega
theorem decode_byte {x : ByteArray} {k : Nat} (h : k < x.size) (hd : 48 ≤ byteAt x k ∧ byteAt x k ≤ 57) : ((Utf8.decode x k).1 : Int) = byteAt x k ∧ (Utf8.decode x k).2 = 1 := by
  have e : byteAt x k = ((x[k]'h).toNat : Int) := by
    unfold byteAt Array.getD; rw [dif_pos (show k < x.data.size from h)]; rfl
  rw [e] at hd ⊢; rw [decode_ascii x k h (by omega)]; exact ⟨rfl, rfl⟩
theorem pow4 {k : Nat} (h : k ≤ 4) : (10 : Int) ^ k ≤ 10000 := by
  have : k = 0 ∨ k = 1 ∨ k = 2 ∨ k = 3 ∨ k = 4 := by omega
  rcases this with rfl | rfl | rfl | rfl | rfl <;> decide
theorem toList_nil {x : ByteArray} : x.toList = [] ↔ x.size = 0 := by
  rw [ByteArray.toList_eq, size_toList, List.length_eq_zero_iff]
theorem beq_no {a b : ByteArray} (h : a ≠ b) : (a.toList == b.toList) = false := by
  rw [beq_eq_false_iff_ne]; intro hc; exact h (ByteArray.ext (Array.ext' (by simpa [ByteArray.toList_eq] using hc)))
theorem beq_yes {a b : ByteArray} (h : a = b) : (a.toList == b.toList) = true := by rw [h]; exact beq_self_eq_true _

def NumPost (x : ByteArray) (w : World) (e : Ending) (w' : World) : Prop := ((∃ n, numG x = some n ∧ e = .returned (.int .i64 n)) ∨ (numG x = none ∧ ∃ y, e = noneE y)) ∧ Below w.heap.size w w'
set_option maxRecDepth 100000 in
set_option maxHeartbeats 1600000 in
theorem c_number (x : ByteArray) (w : World) (hx : x.size ≤ 1000000) (hI : ItoaG w) : Calls Tryz.prog 123 #[.string x] w (NumPost x w) := by
  have htr := Tryz.strings_TrimPrefix x ⟨#[45]⟩ w; have htr2 : Calls Tryz.prog 138 #[.string x, .string ⟨#[45]⟩] w fun e w' => e = .returned (.string (digG x)) ∧ w' = w := by rw [← trim_dig]; exact htr
  have HI := Lib.hid hI; have HSZ := Lib.hid (dig_size x); have HM := Lib.hid (@hasM_pos x); have HIF := Lib.hid (@numG_if x); have HBAD := Lib.hid (@numG_bad x); have HVS := Lib.hid (show valS x = if hasM x = true then -valT (digG x) (digG x).size else valT (digG x) (digG x).size from rfl); obtain ⟨d, hd0⟩ : ∃ d, digG x = d := ⟨_, rfl⟩; rw [hd0] at htr2 HSZ HIF HBAD HVS; have HDX := Lib.hid hd0; have hdx : d.size ≤ 1000000 := by have := HSZ.out; split at this <;> omega
  clear htr hI hd0
  go_enter Tryz.func123, Tryz.ntmps123
  go_wp2_with fail; refine htr2.mono ?_; clear htr2; rintro e wn ⟨rfl, hww⟩; subst hww; go_wp2
  go_loopw [3] (fun v wr => ∃ k : Nat, k ≤ d.size ∧ v = .int .i64 (valT d k) ∧ Hid (DigTo d k) ∧ Hid (d.size ≤ 4 ∨ k = 0) ∧ wr = wn.iter d k) (fun _ wr => d.size - wr.iterPos wn.heap.size)
  case atStart => exact ⟨0, Nat.zero_le _, rfl, Lib.hid (fun i h => by omega), Lib.hid (.inr rfl), rfl⟩
  case round =>
    obtain ⟨k, hk, rfl, HD, H3, rfl⟩ := hrel
    by_cases hkx : k < d.size
    · have hnx : ∀ ty, (Instr.next (.pointer (some ⟨wn.heap.size, 0, none⟩)) true ty).run Tryz.prog (wn.iter d k) = _ := fun ty => run_next_any wn d k ty hkx
      have HDD := Lib.hid (decode_digit hkx)
      by_cases hd : 48 ≤ ((Utf8.decode d k).1 : Int) ∧ ((Utf8.decode d k).1 : Int) ≤ 57
      · by_cases h3 : d.size ≤ 4
        · have hb := HDD.out.1 hd
          obtain ⟨hrb, hw1⟩ := decode_byte hkx hb; have hv := valT_range d k (by omega) HD.out; have hpw := pow4 (k := k) (by omega); have HV := Lib.hid (show valT d (k + 1) = 10 * valT d k + (byteAt d k - 48) from rfl)
          have HD2 := Lib.hid (show DigTo d (k + 1) from fun i hi => by
            by_cases h : i < k
            · exact HD.out i h
            · obtain rfl : i = k := by omega
              exact hb)
          rw [hw1, hrb] at hnx; rw [hrb] at hd; clear hrb hw1 HDD; obtain ⟨b, hbb⟩ : ∃ b, byteAt d k = b := ⟨_, rfl⟩; rw [hbb] at hnx hd hb HV; obtain ⟨v, hve⟩ : ∃ v, valT d k = v := ⟨_, rfl⟩; rw [hve] at hv HV; rw [hve]; clear hbb hve hb; have hd1 : decide (b ≥ 48) = true := decide_eq_true hd.1; have hd2 : decide (b ≤ 57) = true := decide_eq_true hd.2; have hs3 : decide ((d.size : Int) ≤ 4) = true := decide_eq_true (by omega); have hm1 : IntKind.i64.wrap (10 * v) = 10 * v := w64 _ (by omega) (by omega); have hm2 : IntKind.i32.wrap (b - 48) = b - 48 := by rw [IntKind.wrap_i32]; omega
          have hm3 : IntKind.i64.wrap (b - 48) = b - 48 := w64 _ (by omega) (by omega); have hm4 : IntKind.i64.wrap (10 * v + (b - 48)) = 10 * v + (b - 48) := w64 _ (by omega) (by omega); have h3' := Lib.hid h3; clear h3 hpw; go_wp2_with fail; refine (c_sure_t x _).mono ?_; rintro e w' ⟨rfl, rfl⟩; go_wp2; go_roundw
          case rel => exact ⟨k + 1, by omega, by rw [HV.out], HD2, Lib.hid (.inl h3'.out), rfl⟩
          case measure => simp; omega
        · have HT := Lib.hid (HBAD.out (.inr (.inl (by omega))))
          have hbi : Below wn.heap.size wn (wn.iter d (k + (Utf8.decode d k).2)) := below_alloc1 wn (.stringIter d (k + (Utf8.decode d k).2)); obtain ⟨wi, hwi⟩ : ∃ wi, wn.iter d (k + (Utf8.decode d k).2) = wi := ⟨_, rfl⟩; rw [hwi] at hnx hbi; obtain ⟨r, hr⟩ : ∃ r : Int, ((Utf8.decode d k).1 : Int) = r := ⟨_, rfl⟩; rw [hr] at hnx hd; clear hr hwi HDD; have hd1 : decide (r ≥ 48) = true := decide_eq_true hd.1; have hd2 : decide (r ≤ 57) = true := decide_eq_true hd.2; have hs3 : decide ((d.size : Int) ≤ 4) = false := decide_eq_false (by omega); clear h3; go_wp2_with fail; refine (c_sure_f x _).mono ?_; rintro e w' ⟨he, b2⟩; unfold noneE at he; subst he; have HBZ := Lib.hid (hbi.trans (b2.mono hbi.size)); clear b2 hbi; go_wp2; exact ⟨rfl, .inr ⟨HT.out, _, rfl⟩, HBZ.out⟩
      · have HT := Lib.hid (HBAD.out (.inr (.inr (fun hc => hd (HDD.out.2 (hc k hkx))))))
        have hbi : Below wn.heap.size wn (wn.iter d (k + (Utf8.decode d k).2)) := below_alloc1 wn (.stringIter d (k + (Utf8.decode d k).2)); obtain ⟨wi, hwi⟩ : ∃ wi, wn.iter d (k + (Utf8.decode d k).2) = wi := ⟨_, rfl⟩; rw [hwi] at hnx hbi; obtain ⟨r, hr⟩ : ∃ r : Int, ((Utf8.decode d k).1 : Int) = r := ⟨_, rfl⟩; rw [hr] at hnx hd; clear hr hwi HDD
        by_cases h48 : r ≥ 48
        · have hd1 : decide (r ≥ 48) = true := decide_eq_true h48
          have hd2 : decide (r ≤ 57) = false := decide_eq_false (fun hc => hd ⟨h48, hc⟩); clear hd h48; go_wp2_with fail; refine (c_sure_f x _).mono ?_; rintro e w' ⟨he, b2⟩; unfold noneE at he; subst he; have HBZ := Lib.hid (hbi.trans (b2.mono hbi.size)); clear b2 hbi; go_wp2; exact ⟨rfl, .inr ⟨HT.out, _, rfl⟩, HBZ.out⟩
        · have hd1 : decide (r ≥ 48) = false := decide_eq_false h48
          clear hd h48; go_wp2_with fail; refine (c_sure_f x _).mono ?_; rintro e w' ⟨he, b2⟩; unfold noneE at he; subst he; have HBZ := Lib.hid (hbi.trans (b2.mono hbi.size)); clear b2 hbi; go_wp2; exact ⟨rfl, .inr ⟨HT.out, _, rfl⟩, HBZ.out⟩
    · obtain rfl : k = d.size := by omega
      have hnx : ∀ ty, (Instr.next (.pointer (some ⟨wn.heap.size, 0, none⟩)) true ty).run Tryz.prog (wn.iter d d.size) = _ := fun ty => run_next_end wn d d.size ty (by omega)
      have hbi : Below wn.heap.size wn (wn.iter d d.size) := below_alloc1 wn (.stringIter d d.size); have HBI := Lib.hid hbi; obtain ⟨wi, hwi⟩ : ∃ wi, wn.iter d d.size = wi := ⟨_, rfl⟩; rw [hwi] at hnx HBI ⊢; clear hwi hbi; obtain ⟨v, hv0⟩ : ∃ v, valT d d.size = v := ⟨_, rfl⟩; rw [hv0]
      by_cases h0 : d.size = 0
      · have HT := Lib.hid (HBAD.out (.inl h0))
        have hxl : d.toList = [] := toList_nil.2 h0; have hv1 : v = 0 := by rw [← hv0, h0]; rfl
        subst hv1; have hneg : IntKind.i64.wrap (-(0 : Int)) = 0 := by decide
        clear h0 hv0 hk hkx
        rcases Nat.lt_or_ge d.size x.size with hlt | hlt
        · have hltI : (d.size : Int) < (x.size : Int) := by omega
          clear hlt; go_wp2_with fail; refine (c_sure_f x _).mono ?_; rintro e w' ⟨he, b2⟩; unfold noneE at he; subst he; have HBZ := Lib.hid (HBI.out.trans (b2.mono HBI.out.size)); clear b2; go_wp2; exact ⟨rfl, .inr ⟨HT.out, _, rfl⟩, HBZ.out⟩
        · have hltI : ¬ (d.size : Int) < (x.size : Int) := by omega
          clear hlt; go_wp2_with fail; refine (c_sure_f x _).mono ?_; rintro e w' ⟨he, b2⟩; unfold noneE at he; subst he; have HBZ := Lib.hid (HBI.out.trans (b2.mono HBI.out.size)); clear b2; go_wp2; exact ⟨rfl, .inr ⟨HT.out, _, rfl⟩, HBZ.out⟩
      · have hx3 : d.size ≤ 4 := by rcases H3.out with h | h <;> omega
        have hv := valT_range d d.size hx3 HD.out; have hpw := pow4 hx3; rw [hv0] at hv; have hxl : ¬ d.toList = [] := fun h => h0 (toList_nil.1 h)
        have hxe : d.toList.isEmpty = false := by simpa using hxl
        have HNI := Lib.hid (HIF.out h0 hx3 HD.out); rw [hv0] at HVS; have hsz := HSZ.out; clear hv0 hx3 h0 hk hkx
        cases hm : hasM x with
        | true =>
          have hltI : (d.size : Int) < (x.size : Int) := by rw [hm] at hsz; have := HM.out hm; simp at hsz; omega
          have HVN := Lib.hid (show valS x = -v by rw [HVS.out, hm]; rfl); have hneg : IntKind.i64.wrap (-v) = -v := w64 _ (by omega) (by omega); have hit := HI.out wi HBI.out (-v) (by omega); rw [HVN.out] at HNI; obtain ⟨t, ht⟩ : ∃ t, itoB (-v) = t := ⟨_, rfl⟩; rw [ht] at hit HNI; clear hm hsz hpw hv ht HVS
          by_cases he : t = x
          · have hbe := beq_yes he
            have HT := Lib.hid (show numG x = some (-v) by rw [HNI.out, if_pos he]); clear he; go_wp2_with fail; refine hit.mono ?_; clear hit; rintro e w2 ⟨rfl, b2⟩; have HBJ := Lib.hid (HBI.out.trans (b2.mono HBI.out.size)); clear b2; go_wp2_with fail; refine (c_sure_t x _).mono ?_; rintro e w' ⟨rfl, rfl⟩; go_wp2; go_ret; exact ⟨.inl ⟨_, HT.out, rfl⟩, HBJ.out⟩
          · have hbe := beq_no he
            have HT := Lib.hid (show numG x = none by rw [HNI.out, if_neg he]); clear he; go_wp2_with fail; refine hit.mono ?_; clear hit; rintro e w2 ⟨rfl, b2⟩; have HBJ := Lib.hid (HBI.out.trans (b2.mono HBI.out.size)); clear b2; go_wp2_with fail; refine (c_sure_f x _).mono ?_; rintro e w' ⟨he, b2⟩; unfold noneE at he; subst he; have HBZ := Lib.hid (HBJ.out.trans (b2.mono HBJ.out.size)); clear b2; go_wp2; exact ⟨rfl, .inr ⟨HT.out, _, rfl⟩, HBZ.out⟩
        | false =>
          have hltI : ¬ (d.size : Int) < (x.size : Int) := by rw [hm] at hsz; simp at hsz; omega
          have HVN := Lib.hid (show valS x = v by rw [HVS.out, hm]; rfl); have hit := HI.out wi HBI.out v (by omega); rw [HVN.out] at HNI; obtain ⟨t, ht⟩ : ∃ t, itoB v = t := ⟨_, rfl⟩; rw [ht] at hit HNI; clear hm hsz hpw hv ht HVS
          by_cases he : t = x
          · have hbe := beq_yes he
            have HT := Lib.hid (show numG x = some v by rw [HNI.out, if_pos he]); clear he; go_wp2_with fail; refine hit.mono ?_; clear hit; rintro e w2 ⟨rfl, b2⟩; have HBJ := Lib.hid (HBI.out.trans (b2.mono HBI.out.size)); clear b2; go_wp2_with fail; refine (c_sure_t x _).mono ?_; rintro e w' ⟨rfl, rfl⟩; go_wp2; go_ret; exact ⟨.inl ⟨_, HT.out, rfl⟩, HBJ.out⟩
          · have hbe := beq_no he
            have HT := Lib.hid (show numG x = none by rw [HNI.out, if_neg he]); clear he; go_wp2_with fail; refine hit.mono ?_; clear hit; rintro e w2 ⟨rfl, b2⟩; have HBJ := Lib.hid (HBI.out.trans (b2.mono HBI.out.size)); clear b2; go_wp2_with fail; refine (c_sure_f x _).mono ?_; rintro e w' ⟨he, b2⟩; unfold noneE at he; subst he; have HBZ := Lib.hid (HBJ.out.trans (b2.mono HBJ.out.size)); clear b2; go_wp2; exact ⟨rfl, .inr ⟨HT.out, _, rfl⟩, HBZ.out⟩
end Go.Proofs.YtbknfddaoolagaaGreatDoor
end

section
namespace Go.Proofs.YtbknfddaoolagaaGreatDoor
open Go Go.RowKit Go.Proofs Go.Shelf
set_option linter.unusedVariables false
set_option linter.unusedSimpArgs false

def numsF (word row : ByteArray) (many : Int) : Option (List Int) :=
  match toldG word row with
  | some xs => if many < 0 ∨ (xs.length : Int) = many then some xs else none
  | none => none
theorem numsF_word {word row : ByteArray} {many : Int} (h : headP (partsF 32 row) ≠ word) : numsF word row many = none := by
  unfold numsF toldG; rw [if_neg fun hc => h hc.1]
theorem numsF_num {word row : ByteArray} {many : Int} {j : Nat} (hj : j < (partsF 32 row).tail.length) (h : numG ((partsF 32 row).tail.getD j ByteArray.empty) = none) : numsF word row many = none := by
  unfold numsF toldG; rw [if_neg fun hc => by have := hc.2 j hj; rw [h] at this; cases this]
theorem numsF_len {word row : ByteArray} {many : Int} (h : ¬ (many < 0 ∨ (((partsF 32 row).tail.length : Nat) : Int) = many)) : numsF word row many = none := by
  unfold numsF toldG
  split
  · rename_i xs hx
    split at hx
    · cases hx
      rw [List.length_map, if_neg h]
    · cases hx
  · rfl
theorem numsF_all {word row : ByteArray} {many : Int} (hw : headP (partsF 32 row) = word) (h : NumsG (partsF 32 row).tail) (hm : many < 0 ∨ (((partsF 32 row).tail.length : Nat) : Int) = many) : numsF word row many = some ((partsF 32 row).tail.map valG) := by
  unfold numsF toldG; rw [if_pos ⟨hw, h⟩]
  dsimp only
  rw [List.length_map, if_pos hm]
theorem numsF_some {word row : ByteArray} {many : Int} {xs : List Int} (h : numsF word row many = some xs) : toldG word row = some xs ∧ (many < 0 ∨ (xs.length : Int) = many) := by
  unfold numsF at h
  split at h
  · rename_i ys hy
    by_cases hm : many < 0 ∨ (ys.length : Int) = many
    · rw [if_pos hm] at h; cases h; exact ⟨hy, hm⟩
    · rw [if_neg hm] at h; cases h
  · cases h
theorem numsF_of {word row : ByteArray} {many : Int} {xs : List Int} (h : toldG word row = some xs) (hm : many < 0 ∨ (xs.length : Int) = many) : numsF word row many = some xs := by
  unfold numsF; rw [h]; dsimp only; rw [if_pos hm]
theorem numsTo_step {l : List ByteArray} {j : Nat} (hj : j < l.length) : inV ((l.take (j + 1)).map valG) = inV ((l.take j).map valG) ++ [.int .i64 (valG (l.getD j ByteArray.empty))] := by
  rw [List.take_succ_eq_append_getElem hj, List.map_append, inV_append, List.getD_eq_getElem?_getD, List.getElem?_eq_getElem hj]; rfl

def NumsPost (word row : ByteArray) (many : Int) (w : World) (e : Ending) (w' : World) : Prop :=
  ((∃ xs hv, numsF word row many = some xs ∧ e = .returned hv ∧ w'.ownsRow w.heap.size 3 1 hv xs.length (inV xs)) ∨ (numsF word row many = none ∧ ∃ x, e = noneE x)) ∧ Below w.heap.size w w'

set_option maxRecDepth 100000 in
set_option maxHeartbeats 1600000 in
theorem c_numbers (word row : ByteArray) (many m : Int) (w : World) (hr : row.size ≤ 100000) (hmn : -10 ≤ many ∧ many ≤ 10) (hm : MaxL m w) (hI : ItoaG w) :
    Calls Tryz.prog 85 #[.string row, .string word, .int .i64 many] w (NumsPost word row many w) := by
  have hsp := c_split row 32 m w (by omega) hm; obtain ⟨i0, hi0, hy0, hy1, hy2⟩ := info_parts infI; have HI := Lib.hid hI; have hpl := parts_count 32 row; have HPS := Lib.hid (fun p hp => part_size (c := 32) (s := row) (p := p) hp); have HWD := Lib.hid (@numsF_word word row many); have HNUM := Lib.hid (show ∀ j : Nat, j < (partsF 32 row).tail.length → numG ((partsF 32 row).tail.getD j ByteArray.empty) = none → numsF word row many = none from fun j hj h => numsF_num hj h); have HLEN := Lib.hid (@numsF_len word row many); have HALL := Lib.hid (@numsF_all word row many); obtain ⟨ps, hpe⟩ : ∃ ps, partsF 32 row = ps := ⟨_, rfl⟩; obtain ⟨N, hN⟩ : ∃ N, ps.length = N + 1 := ⟨ps.length - 1, by have := partsF_len 32 row; rw [hpe] at this; omega⟩; rw [hpe] at hsp hpl HPS HWD HNUM HLEN HALL; rw [hN] at hsp hpl; have HN := Lib.hid hN; have HTN := Lib.hid (show ps.tail.length = N by rw [List.length_tail, hN]; rfl)
  clear hm hI hpe hN; have hwm : IntKind.i64.wrap (many + 1) = many + 1 := w64 _ (by omega) (by omega)
  go_enter Tryz.func85, Tryz.ntmps85
  go_wp2_with fail; refine hsp.mono ?_; clear hsp; rintro e w1 ⟨⟨g, hg, rfl, hrd⟩, b1⟩; have HB1 := Lib.hid b1
  have hcell : ∀ i, i < N + 1 → w1.cell? ⟨g, i, none⟩ = some (.string (ps.getD i ByteArray.empty)) := fun i hi => by
    obtain ⟨b, hb, hc⟩ := hrd
    cases hb
    exact hc i (by rw [HN.out]; exact hi)
  have HCE := Lib.hid hcell; have e0 := hcell 0 (by omega); clear b1 hrd hcell; obtain ⟨p0, hp0⟩ : ∃ p0, ps.getD 0 ByteArray.empty = p0 := ⟨_, rfl⟩; rw [hp0] at e0; have HP0 := Lib.hid (show headP ps = p0 from hp0); clear hp0
  by_cases hok : p0 = word ∧ (many < 0 ∨ (N : Int) = many)
  · obtain ⟨hw, hmm⟩ := hok
    have HW := Lib.hid (show headP ps = word by rw [HP0.out]; exact hw); have HMM := Lib.hid (show many < 0 ∨ ((ps.tail.length : Nat) : Int) = many by rw [HTN.out]; exact hmm); have hbe := beq_yes hw; clear hw
    by_cases hm0 : many < 0
    case' pos =>
      have hd0 : decide (many < 0) = true := decide_eq_true hm0; clear hmm hm0; go_wp2_with fail; refine (c_sure_t row _).mono ?_; rintro e w' ⟨rfl, rfl⟩
    case' neg =>
      have hd0 : decide (many < 0) = false := decide_eq_false hm0; have hNm : (N : Int) = many := by rcases hmm with h | h; exact absurd h hm0; exact h
      have hln : (((N : Int) + 1) == many + 1) = true := by rw [beq_iff_eq]; omega
      clear hmm hm0 hNm; go_wp2_with fail; refine (c_sure_t row _).mono ?_; rintro e w' ⟨rfl, rfl⟩
    all_goals
      (try clear hln); clear e0 hbe hd0 hwm
      by_cases hN0 : N = 0
      · subst hN0
        have HT := Lib.hid (show numsF word row many = some [] by
          rw [HALL.out HW.out (fun i hi => by rw [HTN.out] at hi; omega) HMM.out, List.length_eq_zero_iff.1 HTN.out]; rfl)
        go_wp2
        go_loopw [8, 35] (fun v i wr => v = .slice none 0 0 ∧ i = .int .i64 0 ∧ wr = w1) (fun _ _ _ => 0)
        case atStart => exact ⟨rfl, rfl, rfl⟩
        case round =>
          obtain ⟨rfl, rfl, rfl⟩ := hrel; go_wp2; go_ret; exact ⟨.inl ⟨[], _, HT.out, rfl, World.ownsRow_nil _ _ _ _⟩, HB1.out⟩
      · obtain ⟨tl, htl⟩ : ∃ tl, ps.tail = tl := ⟨_, rfl⟩
        have HTC := Lib.hid (show ∀ j, j < N → w1.cell? ⟨g, 1 + j, none⟩ = some (.string (tl.getD j ByteArray.empty)) from fun j hj => by
          have h := HCE.out (j + 1) (by omega)
          have e : ps.getD (j + 1) ByteArray.empty = tl.getD j ByteArray.empty := by
            rw [← htl, List.getD_eq_getElem?_getD, List.getD_eq_getElem?_getD, List.getElem?_tail]
          rw [← e, Nat.add_comm 1 j]; exact h)
        have HTS := Lib.hid (show ∀ j, j < N → (tl.getD j ByteArray.empty).size ≤ 1000000 from fun j hj => by
          have hm : tl.getD j ByteArray.empty ∈ ps := List.mem_of_mem_tail (by rw [htl]; exact getD_mem (by rw [← htl, HTN.out]; exact hj)); have := HPS.out _ hm; omega)
        rw [htl] at HTN HNUM HALL HMM; have hN1 : 1 ≤ N := by omega
        have hNb : (N : Int) ≤ 100001 := by omega
        clear htl hpl hN0; go_wp2
        go_loopw [8, 35] (fun v i wr => ∃ j : Nat, j ≤ N ∧ i = .int .i64 j ∧ Hid (wr.ownsRow w1.heap.size 3 1 v j (inV ((tl.take j).map valG))) ∧ Hid (∀ i, i < j → (numG (tl.getD i ByteArray.empty)).isSome = true) ∧ Hid (Below w1.heap.size w1 wr)) (fun _ i _ => N - (intOf i).toNat)
        case atStart => exact ⟨0, Nat.zero_le _, rfl, Lib.hid (World.ownsRow_nil _ _ _ _), Lib.hid (fun i h => by omega), Lib.hid (Below.refl _ _)⟩
        case round =>
          obtain ⟨j, hj, rfl, HO, HNM, HB⟩ := hrel
          by_cases hlt : j < N
          · have hltI : (j : Int) < (N : Int) := by omega
            have e1 := (HB.out.cell (lt_of_cellq (HTC.out j hlt))).trans (HTC.out j hlt); have HSZ := Lib.hid (HTS.out j hlt); have HST := Lib.hid (numsTo_step (l := tl) (j := j) (by rw [HTN.out]; exact hlt)); have HBad := Lib.hid (fun h => HNUM.out j (by rw [HTN.out]; exact hlt) h)
            have HSO := Lib.hid (show ∀ n, numG (tl.getD j ByteArray.empty) = some n → valG (tl.getD j ByteArray.empty) = n ∧ ∀ i, i < j + 1 → (numG (tl.getD i ByteArray.empty)).isSome = true from fun n hn => ⟨by unfold valG; rw [hn]; rfl, fun i hi => by
              by_cases h : i < j
              · exact HNM.out i h
              · obtain rfl : i = j := by omega
                rw [hn]; rfl⟩)
            obtain ⟨x, hx⟩ : ∃ x, tl.getD j ByteArray.empty = x := ⟨_, rfl⟩; rw [hx] at e1 HSZ HST HBad HSO; have HBN := Lib.hid (HB1.out.trans (HB.out.mono HB1.out.size)); have hnb := c_number x wr HSZ.out (HI.out.below HBN.out); clear hx; go_wp2_with fail; refine hnb.mono ?_; clear hnb; rintro e w2 ⟨⟨n, hn, rfl⟩ | ⟨hn, y, he⟩, b2⟩
            · obtain ⟨hv, hnm⟩ := HSO.out n hn
              rw [hv] at HST; have HNM2 := Lib.hid hnm; have HO2 := Lib.hid (own_kept HO.out b2); have HB2 := Lib.hid (HB.out.trans (b2.mono HB.out.size)); clear hn hv hnm b2 e1; go_wp2_with (at_builtin; refine wpList_append_own _ rfl _ _ 24 rfl w1.heap.size 3 i0 _ 1 8 Tryz.underlying24 hi0 hy0 hy1 hy2 rfl (by decide) _ _ _ rfl (HO2.out.alloc _) ⟨w2.heap.size, 0, none⟩ 1 1 [.int .i64 n] rfl rfl ?c1 ?c2 ?c3 ?c4 ?c5 ?_)
              case c1 => exact news_of _ _ _
              case c2 => intro u hu; simp at hu; subst hu; rfl
              case c3 => unfold maxLen; omega
              case c4 => omega
              case c5 => have := HB2.out.size; simp; omega
              intro v' w5 hown' hgrow _; have HB5 := Lib.hid ((HB2.out.alloc HB2.out.size _).grown hgrow (by have := HB2.out.size; simp; omega) (fun j hj => (HO2.out.lt j hj).1)); have HO5 := Lib.hid hown'; clear hown' hgrow; go_wp2; go_roundw
              case rel => exact ⟨j + 1, by omega, by go_num, Lib.hid (by rw [HST.out, List.map_take]; exact HO5.out), HNM2, HB5⟩
              case measure => simp [intOf]; omega
            · unfold noneE at he
              subst he; have HT := Lib.hid (HBad.out hn); have HBZ := Lib.hid (HBN.out.trans (b2.mono HBN.out.size)); clear b2 hn; go_wp2; exact ⟨rfl, .inr ⟨HT.out, _, rfl⟩, HBZ.out⟩
          · obtain rfl : j = N := by omega
            have hltI : ¬ (j : Int) < (j : Int) := by omega
            have HT := Lib.hid (HALL.out HW.out (fun i hi => HNM.out i (by rw [HTN.out] at hi; exact hi)) HMM.out); go_wp2; go_ret; refine ⟨.inl ⟨_, _, HT.out, rfl, ?_⟩, HB1.out.trans (HB.out.mono HB1.out.size)⟩; have h := HO.out; rw [List.length_map, HTN.out]; rw [List.take_of_length_le (by rw [HTN.out]; exact Nat.le_refl _)] at h; exact own_mono h HB1.out.size
  · have HT := Lib.hid (show numsF word row many = none by
      by_cases hw : p0 = word
      · exact HLEN.out (fun hc => hok ⟨hw, by rw [HTN.out] at hc; exact hc⟩)
      · exact HWD.out (by rw [HP0.out]; exact hw))
    by_cases hw : p0 = word
    · have hbe := beq_yes hw
      have hm0 : ¬ many < 0 := fun h => hok ⟨hw, .inl h⟩
      have hd0 : decide (many < 0) = false := decide_eq_false hm0; have hln : (((N : Int) + 1) == many + 1) = false := by rw [beq_eq_false_iff_ne]; intro h; exact hok ⟨hw, .inr (by omega)⟩
      clear hok hw hm0; go_wp2_with fail; refine (c_sure_f row _).mono ?_; rintro e w' ⟨he, b2⟩; unfold noneE at he; subst he; have HBZ := Lib.hid (HB1.out.trans (b2.mono HB1.out.size)); clear b2; go_wp2; exact ⟨rfl, .inr ⟨HT.out, _, rfl⟩, HBZ.out⟩
    · have hbe := beq_no hw
      clear hok hw; go_wp2_with fail; refine (c_sure_f row _).mono ?_; rintro e w' ⟨he, b2⟩; unfold noneE at he; subst he; have HBZ := Lib.hid (HB1.out.trans (b2.mono HB1.out.size)); clear b2; go_wp2; exact ⟨rfl, .inr ⟨HT.out, _, rfl⟩, HBZ.out⟩
end Go.Proofs.YtbknfddaoolagaaGreatDoor
end

section
namespace Go.Proofs.YtbknfddaoolagaaGreatDoor
open Go Go.RowKit Go.Proofs Go.Shelf
set_option linter.unusedVariables false

structure PreP (s : ByteArray) (p : Pc) : Prop where
  head : numsF pieceW (headP (partsF 10 s)) 1 = some [(p.ms.length : Int)]
  len : (partsF 10 s).length = p.ms.length + p.rs.length + 4
  ms : ∀ i, i < p.ms.length → numsF meshW ((partsF 10 s).getD (i + 1) ByteArray.empty) 2 = some (meL (gm p.ms i))
  mv : numsF movesW ((partsF 10 s).getD (p.ms.length + 1) ByteArray.empty) (-1) = some p.mv
  rs : ∀ i, i < p.rs.length → numsF readW ((partsF 10 s).getD (p.ms.length + 2 + i) ByteArray.empty) 4 = some (rdL (gr p.rs i))
theorem pre_of {s : ByteArray} {p : Pc} (h : BkP s p) : PreP s p := by
  obtain ⟨h1, h2, h3, h4, h5, h6⟩ := parsed_of_bk h; exact ⟨numsF_of h1 (.inr rfl), h2, fun i hi => numsF_of (h3 i hi) (.inr rfl), numsF_of h4 (.inl (by decide)), fun i hi => numsF_of (h5 i hi) (.inr rfl)⟩
theorem pre_bk {s : ByteArray} {p : Pc} (h : PreP s p) (ht : textP p = s) : BkP s p :=
  bk_of_parsed ⟨(numsF_some h.head).1, h.len, fun i hi => (numsF_some (h.ms i hi)).1, (numsF_some h.mv).1, fun i hi => (numsF_some (h.rs i hi)).1, ht⟩
theorem pre_unique {s : ByteArray} {p q : Pc} (h : PreP s p) (h' : PreP s q) : p = q := by
  have e0 : p.ms.length = q.ms.length := by
    have := h.head.symm.trans h'.head; simp at this; omega
  have e1 : p.ms = q.ms := gm_ext e0 fun i hi => meL_inj (Option.some.inj ((h.ms i hi).symm.trans (h'.ms i (by omega))))
  have e2 : p.mv = q.mv := by
    have h1 := h.mv; rw [e0] at h1; exact Option.some.inj (h1.symm.trans h'.mv)
  have e3 : p.rs.length = q.rs.length := by have := h.len; have := h'.len; omega
  have e4 : p.rs = q.rs := gr_ext e3 fun i hi => by
    have h1 := h.rs i hi; rw [e0] at h1; exact rdL_inj (Option.some.inj (h1.symm.trans (h'.rs i (by omega))))
  cases p; cases q; simp_all
theorem noBk_text {s : ByteArray} {p : Pc} (h : PreP s p) (ht : textP p ≠ s) : ∀ q, ¬ BkP s q := fun q hb => by
  have := pre_unique h (pre_of hb); subst this; exact ht hb.2
theorem noBk_head {s : ByteArray} (h : numsF pieceW (headP (partsF 10 s)) 1 = none) : ∀ q, ¬ BkP s q := fun q hb => by
  have := (pre_of hb).head; rw [h] at this; cases this
theorem head_one {s : ByteArray} {xs : List Int} (h : numsF pieceW (headP (partsF 10 s)) 1 = some xs) : ∃ n, xs = [n] ∧ -9999 ≤ n ∧ n ≤ 9999 := by
  obtain ⟨h1, h2⟩ := numsF_some h; have hl : xs.length = 1 := by omega
  match xs, hl with
  | [n], _ => exact ⟨n, rfl, (told_in h1).1 0 (by simp)⟩
theorem noBk_count {s : ByteArray} {n : Int} (h : numsF pieceW (headP (partsF 10 s)) 1 = some [n]) (hn : ¬ (0 ≤ n ∧ n + 4 ≤ ((partsF 10 s).length : Int))) : ∀ q, ¬ BkP s q := fun q hb => by
  have hp := pre_of hb; have h1 := h.symm.trans hp.head; have h2 := hp.len; simp at h1; omega
theorem bk_ms {s : ByteArray} {n : Nat} (h : numsF pieceW (headP (partsF 10 s)) 1 = some [(n : Int)]) {q : Pc} (hb : BkP s q) : q.ms.length = n := by
  have h1 := h.symm.trans (pre_of hb).head; simp at h1; omega
theorem noBk_mesh {s : ByteArray} {n k : Nat} (h : numsF pieceW (headP (partsF 10 s)) 1 = some [(n : Int)]) (hk : k < n) (hn : numsF meshW ((partsF 10 s).getD (k + 1) ByteArray.empty) 2 = none) : ∀ q, ¬ BkP s q := fun q hb => by
  have e := bk_ms h hb; have := (pre_of hb).ms k (by omega); rw [hn] at this; cases this
theorem noBk_moves {s : ByteArray} {n : Nat} (h : numsF pieceW (headP (partsF 10 s)) 1 = some [(n : Int)]) (hn : numsF movesW ((partsF 10 s).getD (n + 1) ByteArray.empty) (-1) = none) : ∀ q, ¬ BkP s q := fun q hb => by
  have e := bk_ms h hb; have := (pre_of hb).mv; rw [e, hn] at this; cases this
theorem noBk_read {s : ByteArray} {n k R : Nat} (h : numsF pieceW (headP (partsF 10 s)) 1 = some [(n : Int)]) (hL : (partsF 10 s).length = n + R + 4) (hk : k < R) (hn : numsF readW ((partsF 10 s).getD (n + 2 + k) ByteArray.empty) 4 = none) : ∀ q, ¬ BkP s q := fun q hb => by
  have e := bk_ms h hb; have hp := pre_of hb; have := hp.len; have := hp.rs k (by omega); rw [e, hn] at this; cases this
theorem mesh_two {w r : ByteArray} {xs : List Int} (h : numsF w r 2 = some xs) : ∃ a b, xs = [a, b] := by
  obtain ⟨h1, h2⟩ := numsF_some h; have hl : xs.length = 2 := by omega
  match xs, hl with
  | [a, b], _ => exact ⟨a, b, rfl⟩
theorem read_four {w r : ByteArray} {xs : List Int} (h : numsF w r 4 = some xs) : ∃ a b c d, xs = [a, b, c, d] := by
  obtain ⟨h1, h2⟩ := numsF_some h; have hl : xs.length = 4 := by omega
  match xs, hl with
  | [a, b, c, d], _ => exact ⟨a, b, c, d, rfl⟩
theorem pre_textOk {s : ByteArray} {p : Pc} (h : PreP s p) (hs : s.size ≤ 400) (hL : (partsF 10 s).length ≤ 401) : TextOk p := by
  have hl := h.len; refine ⟨⟨by omega, fun i hi => (told_in (numsF_some (h.ms i hi)).1).1, (told_in (numsF_some h.mv).1).1, fun i hi => (told_in (numsF_some (h.rs i hi)).1).1⟩, by omega, ?_, by omega⟩; have h1 := (told_in (numsF_some h.mv).1).2; have h2 := part_size (getD_mem (l := partsF 10 s) (i := p.ms.length + 1) (by omega)); omega

theorem set3 (w : World) (B : Nat) (t : TypeId) (v0 v1 v2 a b c : Value) (h : w.heap[B]? = some (.cells #[v0, v1, v2] t)) :
    ∃ w1 w2 w3, w.setCell ⟨B, 0, none⟩ a = w1 ∧ w1.setCell ⟨B, 1, none⟩ b = w2 ∧ w2.setCell ⟨B, 2, none⟩ c = w3 ∧
      (w.cell? ⟨B, 0, none⟩ = some v0 ∧ w.frozen? ⟨B, 0, none⟩ = false) ∧ (w1.cell? ⟨B, 1, none⟩ = some v1 ∧ w1.frozen? ⟨B, 1, none⟩ = false) ∧ (w2.cell? ⟨B, 2, none⟩ = some v2 ∧ w2.frozen? ⟨B, 2, none⟩ = false) ∧
      w3.heap[B]? = some (.cells #[a, b, c] t) ∧ (∀ k, k ≠ B → w3.heap[k]? = w.heap[k]?) ∧ Hid (w3.heap.size = w.heap.size) ∧ ∀ W n0, n0 ≤ B → Below n0 W w → Below n0 W w3 := by
  have h1 := heap_setCell_same w B 0 _ t a h; have h2 := heap_setCell_same _ B 1 _ t b h1; have h3 := heap_setCell_same _ B 2 _ t c h2; refine ⟨_, _, _, rfl, rfl, rfl, ⟨?_, frozen_of_row _ _ _ _ _ h⟩, ⟨?_, frozen_of_row _ _ _ _ _ h1⟩, ⟨?_, frozen_of_row _ _ _ _ _ h2⟩, ?_, ?_, Lib.hid ?_, ?_⟩
  · rw [cell_of_row _ _ _ _ _ _ h]; rfl
  · rw [cell_of_row _ _ _ _ _ _ h1]; rfl
  · rw [cell_of_row _ _ _ _ _ _ h2]; rfl
  · rw [h3]; rfl
  · intro k hk
    rw [Below.heap_setCell _ _ _ k hk, Below.heap_setCell _ _ _ k hk, Below.heap_setCell _ _ _ k hk]
  · simp
  · intro W n0 hn hb
    exact ((hb.setCell hn _).setCell hn _).setCell hn _
theorem cells3 {w : World} {B : Nat} {t : TypeId} {a b c : Value} (h : w.heap[B]? = some (.cells #[a, b, c] t)) : w.cell? ⟨B, 0, none⟩ = some a ∧ w.cell? ⟨B, 1, none⟩ = some b ∧ w.cell? ⟨B, 2, none⟩ = some c := by
  refine ⟨?_, ?_, ?_⟩ <;> (rw [cell_of_row _ _ _ _ _ _ h]; rfl)
theorem put3_0 (w : World) (B : Nat) (t : TypeId) (a b c x : Value) (h : w.heap[B]? = some (.cells #[a, b, c] t)) : ∃ w1, w.setCell ⟨B, 0, none⟩ x = w1 ∧ w.cell? ⟨B, 0, none⟩ = some a ∧ w.frozen? ⟨B, 0, none⟩ = false ∧
    w1.heap[B]? = some (.cells #[x, b, c] t) ∧ (∀ k, k ≠ B → w1.heap[k]? = w.heap[k]?) ∧ Hid (w1.heap.size = w.heap.size) ∧ ∀ W n0, n0 ≤ B → Below n0 W w → Below n0 W w1 :=
  ⟨_, rfl, (cells3 h).1, frozen_of_row _ _ _ _ _ h, by rw [heap_setCell_same w B 0 _ t x h]; rfl, fun k hk => Below.heap_setCell _ _ _ k hk, Lib.hid (by simp), fun W n0 hn hb => hb.setCell hn _⟩
theorem put3_1 (w : World) (B : Nat) (t : TypeId) (a b c x : Value) (h : w.heap[B]? = some (.cells #[a, b, c] t)) : ∃ w1, w.setCell ⟨B, 1, none⟩ x = w1 ∧ w.cell? ⟨B, 1, none⟩ = some b ∧ w.frozen? ⟨B, 1, none⟩ = false ∧
    w1.heap[B]? = some (.cells #[a, x, c] t) ∧ (∀ k, k ≠ B → w1.heap[k]? = w.heap[k]?) ∧ Hid (w1.heap.size = w.heap.size) ∧ ∀ W n0, n0 ≤ B → Below n0 W w → Below n0 W w1 :=
  ⟨_, rfl, (cells3 h).2.1, frozen_of_row _ _ _ _ _ h, by rw [heap_setCell_same w B 1 _ t x h]; rfl, fun k hk => Below.heap_setCell _ _ _ k hk, Lib.hid (by simp), fun W n0 hn hb => hb.setCell hn _⟩
theorem put3_2 (w : World) (B : Nat) (t : TypeId) (a b c x : Value) (h : w.heap[B]? = some (.cells #[a, b, c] t)) : ∃ w1, w.setCell ⟨B, 2, none⟩ x = w1 ∧ w.cell? ⟨B, 2, none⟩ = some c ∧ w.frozen? ⟨B, 2, none⟩ = false ∧
    w1.heap[B]? = some (.cells #[a, b, x] t) ∧ (∀ k, k ≠ B → w1.heap[k]? = w.heap[k]?) ∧ Hid (w1.heap.size = w.heap.size) ∧ ∀ W n0, n0 ≤ B → Below n0 W w → Below n0 W w1 :=
  ⟨_, rfl, (cells3 h).2.2, frozen_of_row _ _ _ _ _ h, by rw [heap_setCell_same w B 2 _ t x h]; rfl, fun k hk => Below.heap_setCell _ _ _ k hk, Lib.hid (by simp), fun W n0 hn hb => hb.setCell hn _⟩
def rdV : List Rd → List Value
  | [] => []
  | r :: l => .int .i64 r.aft :: .int .i64 r.arb :: .int .i64 r.seen :: .int .i64 r.off :: rdV l
theorem rdV_append (a b : List Rd) : rdV (a ++ b) = rdV a ++ rdV b := by
  induction a with
  | nil => rfl
  | cons x a ih => simp only [List.cons_append, rdV, ih]
theorem rdV_get : ∀ (l : List Rd) (i : Nat), i < l.length → (rdV l)[i * 4]? = some (.int .i64 (gr l i).aft) ∧ (rdV l)[i * 4 + 1]? = some (.int .i64 (gr l i).arb) ∧ (rdV l)[i * 4 + 2]? = some (.int .i64 (gr l i).seen) ∧ (rdV l)[i * 4 + 3]? = some (.int .i64 (gr l i).off) := by
  intro l
  induction l with
  | nil => intro i h; exact absurd h (Nat.not_lt_zero _)
  | cons r l ih =>
    intro i h
    cases i with
    | zero => exact ⟨rfl, rfl, rfl, rfl⟩
    | succ i =>
      have := ih i (by simp at h; omega); rw [show (i + 1) * 4 = i * 4 + 1 + 1 + 1 + 1 by omega]; simp only [rdV, List.getElem?_cons_succ]; exact this
theorem rdr_of_own {w : World} {base : Nat} {v : Value} {rs : List Rd} (h : w.ownsRow base 87 4 v rs.length (rdV rs)) : ∃ p cap, v = .slice p rs.length cap ∧ RdR w p rs := by
  rcases h.2 with ⟨rfl, h0⟩ | ⟨g, cap, cur, rfl, hb, hg, hnc, hcm, hsz, htk⟩
  · have : rs = [] := List.length_eq_zero_iff.1 h0
    subst this; exact ⟨none, 0, rfl, .inl rfl⟩
  · refine ⟨some ⟨g, 0, none⟩, cap, rfl, .inr ⟨g, 0, rfl, fun i hi => ?_⟩⟩
    obtain ⟨e1, e2, e3, e4⟩ := rdV_get rs i hi; have h1 := h.cells (g := g) rfl _ _ e1; have h2 := h.cells (g := g) rfl _ _ e2; have h3 := h.cells (g := g) rfl _ _ e3; have h4 := h.cells (g := g) rfl _ _ e4; rw [add_new] at h1 h2 h3 h4; rw [Nat.zero_add]; exact ⟨h1, h2, h3, h4⟩
theorem own_anyE {w : World} {B e size n : Nat} {v : Value} {xs : List Value} (h : w.ownsRow B e size v n xs) : ∃ a cap, v = .slice a n cap := by
  rcases h.2 with ⟨rfl, rfl⟩ | ⟨g, cap, cur, rfl, _⟩
  · exact ⟨_, _, rfl⟩
  · exact ⟨_, _, rfl⟩
theorem rdI_at {w : World} {B n c : Nat} {p : Option Addr} {xs : List Int} (h : w.ownsRow B 3 1 (.slice p n c) n (inV xs)) (hn : xs.length = n) : RdI w p xs := by
  subst hn; obtain ⟨p', c', e, h'⟩ := rd_of_own h
  injection e with e1 _ _
  rw [e1]; exact h'
theorem rdS_at {w : World} {B e n c : Nat} {p : Option Addr} {xs : List (Int × Int)} (h : w.ownsRow B e 2 (.slice p n c) n (spV xs)) (hn : xs.length = n) : RdS w p xs := by
  subst hn; obtain ⟨p', c', e, h'⟩ := rds_of_own h
  injection e with e1 _ _
  rw [e1]; exact h'
theorem rdR_at {w : World} {B n c : Nat} {p : Option Addr} {xs : List Rd} (h : w.ownsRow B 87 4 (.slice p n c) n (rdV xs)) (hn : xs.length = n) : RdR w p xs := by
  subst hn; obtain ⟨p', c', e, h'⟩ := rdr_of_own h
  injection e with e1 _ _
  rw [e1]; exact h'
end Go.Proofs.YtbknfddaoolagaaGreatDoor
end

section
namespace Go.Proofs.YtbknfddaoolagaaGreatDoor
open Go
theorem wpAnyH_gen {P : Program} {md : Region.Mode} {ops : Array Oper} {Q : Exit → Act → World → Prop} {S : World → Prop} {fuel : Nat} {listed : Array Bool} {a : Act} {W : World}
    (h : ∀ wa, wa = W → wpAnyH P md ops Q S fuel listed a wa) : wpAnyH P md ops Q S fuel listed a W := h W rfl
end Go.Proofs.YtbknfddaoolagaaGreatDoor
end
