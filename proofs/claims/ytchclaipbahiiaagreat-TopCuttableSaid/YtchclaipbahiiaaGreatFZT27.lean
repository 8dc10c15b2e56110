/-
  TopCuttable, plain: the nearest train has one to three pairs, all of teeth that the rule lets in.
  Whether a function says true of one of some numbers: contracts for whatever function.
  One cell of three is stored (as in E6, for the seat of the top statements).
  Three cells are stored (as in E6, for the seat of the top statements); a region without conditions.
  What is a divider, and a number of teeth, as defined: contracts.
  Whether a divider cuts so many teeth: contracts.
  What the reference tells of a rule, a fraction and a divider: contracts.
  Whether some circles are enough for some numbers of teeth: contracts of the closures.
  All lists of circles that suit: what is found lies in a box; plain words and what is kept.
  All lists of circles that suit: the search: contract.
  All lists of circles that suit: contract of plate.some.
  The best of some lists is one of them: contracts of slices.Compare, shorter and best.
  The fewest circles for some numbers of teeth: contract of plate.Circles.
  TopCuttable, plain: whether circles are enough.
-/
import Derived.Test.YtchclaipbahiiaaGreatFZT21
import Derived.Test.YtchclaipbahiiaaGreatFZT22
import Derived.Test.YtchclaipbahiiaaGreatFZT26
section
namespace Go.Proofs.YtchclaipbahiiaaGreat
set_option linter.unusedVariables false
theorem prodV_perm {a b : List Int} (h : a.Perm b) : prodV a = prodV b := by
  induction h with
  | nil => rfl
  | cons x _ ih => simp only [prodV, ih]
  | swap x y l => simp only [prodV]; rw [← Int.mul_assoc, ← Int.mul_assoc, Int.mul_comm y]
  | trans _ _ h1 h2 => exact h1.trans h2
theorem prodV_map (t : List Int) (l : List Nat) : prodV (l.map fun i => gi t i) = prodI t l := by
  induction l with
  | nil => rfl
  | cons i r ih => show gi t i * _ = gi t i * _; rw [ih]
def FrOf (all : List Int) (st : List (Int × Int) × (Int × Int)) : Prop := ∀ y ∈ st.1, ∃ d ∈ all, ∃ b ∈ all, y = redF d b
theorem nearS_of {f : Int × Int} {dr : Int} {all : List Int} {st : List (Int × Int) × (Int × Int)} {i : Int} (h : FrOf all st) (hd : dr ∈ all) : FrOf all (nearS f dr all st i) := by
  unfold nearS
  split
  · exact h
  · rename_i hin
    have hin : inB i 0 ((all.length : Int) - 1) = true := by simpa using hin
    have hi := inB_iff.1 hin
    have hb : gi all i.toNat ∈ all := by
      unfold gi; rw [List.getD_eq_getElem?_getD, List.getElem?_eq_getElem (by omega)]; exact List.getElem_mem _
    have hx : ∃ d ∈ all, ∃ b ∈ all, redF dr (gi all i.toNat) = redF d b := ⟨dr, hd, _, hb, rfl⟩
    have h1 : FrOf all (if st.1 = [] ∨ cmpF (dstF (redF dr (gi all i.toNat)) f) st.2 < 0 then ([], dstF (redF dr (gi all i.toNat)) f) else st) := by
      split
      · intro y hy; cases hy
      · exact h
    obtain ⟨s1, hs1⟩ : ∃ s1, (if st.1 = [] ∨ cmpF (dstF (redF dr (gi all i.toNat)) f) st.2 < 0 then ([], dstF (redF dr (gi all i.toNat)) f) else st) = s1 := ⟨_, rfl⟩; rw [hs1] at h1; simp only [hs1]
    by_cases hc : cmpF (dstF (redF dr (gi all i.toNat)) f) s1.2 = 0 ∧ s1.1.contains (redF dr (gi all i.toNat)) = false
    · rw [if_pos hc]
      intro y hy
      rcases List.mem_append.1 hy with hy | hy
      · exact h1 y hy
      · rw [List.mem_singleton] at hy; subst hy; exact hx
    · rw [if_neg hc]; exact h1
theorem near_of (f : Int × Int) (all : List Int) : FrOf all (nearFr all f) := by
  have key : ∀ (L : List Int) (st : List (Int × Int) × (Int × Int)), (∀ x ∈ L, x ∈ all) → FrOf all st → FrOf all (L.foldl (nearD f all) st) := by
    intro L
    induction L with
    | nil => intro st _ h; exact h
    | cons d r ih =>
      intro st hL h; exact ih _ (fun x hx => hL x (.tail _ hx)) (nearS_of (nearS_of h (hL d (.head _))) (hL d (.head _)))
  exact key all _ (fun x hx => hx) (fun y hy => by cases hy)
theorem fst_mem {t : List Int} : ∀ (k : Nat) (now : List (Int × Int)) (left : Int × Int) (l : List (Int × Int)), (∀ p ∈ now, p.1 ∈ t ∧ p.2 ∈ t) → fstF t k now left = some l → ∀ p ∈ l, p.1 ∈ t ∧ p.2 ∈ t := by
  intro k
  induction k with
  | zero => intro now left l hn h; cases h; exact hn
  | succ k ih =>
    intro now left l hn h; rw [fstF_succ] at h; obtain ⟨a, ha, h⟩ := List.exists_of_findSome?_eq_some h; obtain ⟨b, hb, h⟩ := List.exists_of_findSome?_eq_some h; unfold fstG at h
    split at h
    · cases h
    · split at h
      · refine ih _ _ l (fun p hp => ?_) h
        rcases List.mem_append.1 hp with hp | hp
        · exact hn p hp
        · rw [List.mem_singleton] at hp; subst hp; exact ⟨ha, hb⟩
      · cases h
theorem gi_mem_t {t : List Int} {i : Nat} (h : i < t.length) : gi t i ∈ t := by
  unfold gi; rw [List.getD_eq_getElem?_getD, List.getElem?_eq_getElem h]; exact List.getElem_mem h
theorem fst_prod {t : List Int} (ht : ∀ x ∈ t, 1 ≤ x ∧ x ≤ 60) {n : Nat} {d b : Int} (hd : d ∈ srtF t n) (hb : b ∈ srtF t n) : fstF t n [] (redF d b) ≠ none := by
  obtain ⟨la, a1, a2, rfl⟩ := srtF_of hd; obtain ⟨lb, b1, b2, rfl⟩ := srtF_of hb; obtain ⟨us, hus⟩ : ∃ us, la.map (fun i => gi t i) = us := ⟨_, rfl⟩; obtain ⟨vs, hvs⟩ : ∃ vs, lb.map (fun i => gi t i) = vs := ⟨_, rfl⟩; have eu : prodI t la = prodV us := by rw [← hus, prodV_map]
  have ev : prodI t lb = prodV vs := by rw [← hvs, prodV_map]
  have hlu : us.length = n := by rw [← hus, List.length_map, a1]
  have hlv : vs.length = n := by rw [← hvs, List.length_map, b1]
  have mu : ∀ x ∈ us, x ∈ t := fun x hx => by rw [← hus, List.mem_map] at hx; obtain ⟨i, hi, rfl⟩ := hx; exact gi_mem_t (a2 i hi)
  have mv : ∀ x ∈ vs, x ∈ t := fun x hx => by rw [← hvs, List.mem_map] at hx; obtain ⟨i, hi, rfl⟩ := hx; exact gi_mem_t (b2 i hi)
  have pu := prodV_in (l := us) fun x hx => ht x (mu x hx)
  have pv := prodV_in (l := vs) fun x hx => ht x (mv x hx)
  rw [eu, ev]; have hp := List.mergeSort_perm (us.zip vs) (fun x y => !ordB y x); have hs := List.pairwise_mergeSort (le := fun (x y : Int × Int) => !ordB y x) (fun x y z h1 h2 => by unfold ordB at *; simp at *; omega) (fun x y => by unfold ordB; simp; omega) (us.zip vs); obtain ⟨qs, hqs⟩ : ∃ qs, (us.zip vs).mergeSort (fun x y => !ordB y x) = qs := ⟨_, rfl⟩; rw [hqs] at hp hs; have hlq : qs.length = n := by rw [hp.length_eq, List.length_zip]; omega
  have h1 : prodV (qs.map Prod.fst) = prodV us := by rw [prodV_perm (hp.map Prod.fst), List.map_fst_zip (by omega)]
  have h2 : prodV (qs.map Prod.snd) = prodV vs := by rw [prodV_perm (hp.map Prod.snd), List.map_snd_zip (by omega)]
  obtain ⟨g, g1, e1, e2, e3, e4, e5⟩ := red_facts pu.1 pv.1
  have := fst_some ht qs [] (redF (prodV us) (prodV vs)) (fun p hp' => by
      have := hp.mem_iff.1 hp'; obtain ⟨x, y⟩ := p; have hz := List.of_mem_zip this; exact ⟨mu _ hz.1, mv _ hz.2⟩) (hs.imp fun h => by simpa using h) (fun l h => by cases h) e4 e5 (by
      rw [h1, h2]
      have h3 : g * ((redF (prodV us) (prodV vs)).1 * prodV vs) = g * ((redF (prodV us) (prodV vs)).2 * prodV us) := by
        rw [← Int.mul_assoc, ← Int.mul_assoc, Int.mul_comm g, Int.mul_comm g, e1, e2, Int.mul_comm]
      exact Int.eq_of_mul_eq_mul_left (by omega) h3)
  rw [hlq] at this; exact this
theorem nrst_ok {lo hi pr se : Int} {nv : List Int} {f : Int × Int} {l : List (Int × Int)} (h : RuleOk lo hi pr se nv) (hf : 0 ≤ f.1 ∧ 1 ≤ f.2) (hl : nrstF (tthF lo hi nv) se pr.toNat f = some l) :
    (1 ≤ l.length ∧ l.length ≤ 3) ∧ ∀ i, i < l.length → (gm l i).1 ∈ tthF lo hi nv ∧ (gm l i).2 ∈ tthF lo hi nv := by
  have ht : ∀ x ∈ tthF lo hi nv, 1 ≤ x ∧ x ≤ 60 := fun x hx => by
    unfold tthF at hx; rw [List.mem_filter] at hx; have h1 := hx.1; unfold rng at h1; rw [List.mem_map] at h1; obtain ⟨i, hi2, rfl⟩ := h1; rw [List.mem_range] at hi2; have := h.flo; have := h.fhi; omega
  obtain ⟨t, hte⟩ : ∃ t, tthF lo hi nv = t := ⟨_, rfl⟩; rw [hte] at hl ht ⊢; unfold nrstF at hl; rw [Option.bind_eq_some_iff] at hl; obtain ⟨x, hx, hy⟩ := hl; have hxm := bestO_mem _ _ _ hx; have hym := bestO_mem _ _ _ hy; rw [List.mem_map] at hym; obtain ⟨y, hyx, rfl⟩ := hym; obtain ⟨i, hi, rfl, _⟩ := foundTo_mem (show x ∈ foundTo t se pr.toNat f by rw [foundTo_all]; exact hxm)
  dsimp only at hyx ⊢
  obtain ⟨d, hd, b, hb, rfl⟩ := near_of f (srtF t (i + 1)) y hyx; have hne := fst_prod ht hd hb
  cases hff : fstF t (i + 1) [] (redF d b) with
  | none => exact absurd hff hne
  | some l' =>
    have hlen := fstF_len t (i + 1) [] _ l' hff; have hmem := fst_mem (i + 1) [] _ l' (fun p hp => by cases hp) hff; have hp3 := h.fpr; rw [List.length_nil] at hlen; refine ⟨⟨by show 1 ≤ l'.length; omega, by show l'.length ≤ 3; omega⟩, fun j hj => ?_⟩; have hj' : j < l'.length := hj; show (gm l' j).1 ∈ t ∧ (gm l' j).2 ∈ t; rw [gm_get _ _ hj']; exact hmem _ (List.getElem_mem hj')
end Go.Proofs.YtchclaipbahiiaaGreat
end

section
namespace Go.Proofs.YtchclaipbahiiaaGreat
open Go Go.RowKit Go.Proofs
set_option linter.unusedVariables false
set_option linter.unusedSimpArgs false
attribute [local go_sem] imax2 imin2
set_option maxHeartbeats 400000 in
set_option maxRecDepth 100000 in
theorem x_ix0 (F : FuncId) (f : Int → Bool) (p : Option Addr) (cap : Nat) (xs : List Int) (w : World) (hx : RdI w p xs) (hl : xs.length ≤ 1000000) (hE : ∀ args W, (callFunc F args).run Tryz.prog W = .ok (.enter F args) W)
    (hf : ∀ j, j < xs.length → ∀ W, Below w.heap.size w W → Calls Tryz.prog F #[.int .i64 (gi xs j)] W fun e w' => e = .returned (.bool (!f (gi xs j))) ∧ Below W.heap.size W w') :
    Calls Tryz.prog 89 #[.slice p xs.length cap, .func (.func F) #[] #[]] w (BadPost xs.length (fun j => f (gi xs j)) w) := by
  have HX := Lib.hid hx; have HF := Lib.hid hf; clear hx hf
  go_enter Tryz.func89, Tryz.ntmps89
  go_wp2
  go_loopw [8] (fun i wr => ∃ k : Nat, k ≤ xs.length ∧ i = .int .i64 k ∧ Hid (∀ j, j < k → f (gi xs j) = true) ∧ Below w.heap.size w wr) (fun i _ => xs.length - (intOf i).toNat)
  case atStart => exact ⟨0, by omega, rfl, Lib.hid (by intro j hj; omega), Below.refl _ _⟩
  case round =>
    obtain ⟨k, hk, rfl, HH, hnx⟩ := hrel; have HN := Lib.hid hnx
    by_cases hlt : k < xs.length
    · obtain ⟨b, off, rfl, hc⟩ := (HX.out.below hnx).at hlt
      obtain e1 := hc k hlt; have hcl := HF.out k hlt wr hnx; clear hc hnx
      rcases hb : f (gi xs k) with _ | _
      · have HB := Lib.hid hb
        rw [hb] at hcl; clear hb; go_wp2_with fail; refine hcl.mono ?_; rintro e w4 ⟨rfl, b4⟩; have HN2 := Lib.hid (HN.out.trans (b4.mono HN.out.size)); clear hcl b4; go_wp2; go_ret; exact ⟨k, .inr ⟨by omega, k, hlt, HB.out⟩, rfl, HN2.out⟩
      · have HB := Lib.hid hb
        rw [hb] at hcl; clear hb; go_wp2_with fail; refine hcl.mono ?_; rintro e w4 ⟨rfl, b4⟩; have HN2 := Lib.hid (HN.out.trans (b4.mono HN.out.size)); clear hcl b4; go_wp2; go_roundw
        case rel =>
          refine ⟨k + 1, by omega, by go_num, Lib.hid fun j hj => ?_, HN2.out⟩
          rcases Nat.lt_or_ge j k with h | h
          · exact HH.out j h
          · obtain rfl : j = k := by omega
            exact HB.out
        case measure => simp [intOf]; omega
    · obtain rfl : k = xs.length := by omega
      go_wp2; go_ret; exact ⟨-1, .inl ⟨rfl, HH.out⟩, rfl, HN.out⟩
set_option maxRecDepth 100000 in
theorem x_cf0 (F : FuncId) (f : Int → Bool) (p : Option Addr) (cap : Nat) (xs : List Int) (w : World) (hx : RdI w p xs) (hl : xs.length ≤ 1000000) (hE : ∀ args W, (callFunc F args).run Tryz.prog W = .ok (.enter F args) W)
    (hf : ∀ j, j < xs.length → ∀ W, Below w.heap.size w W → Calls Tryz.prog F #[.int .i64 (gi xs j)] W fun e w' => e = .returned (.bool (!f (gi xs j))) ∧ Below W.heap.size W w') :
    Calls Tryz.prog 42 #[.slice p xs.length cap, .func (.func F) #[] #[]] w fun e w' => e = .returned (.bool (!xs.all f)) ∧ Below w.heap.size w w' := by
  have h := x_ix0 F  f p cap xs w hx hl hE hf; clear hx hf hE
  go_enter Tryz.func42, Tryz.ntmps42
  go_wp2_with fail; refine h.mono ?_; rintro e w' ⟨r, hr, rfl, hb⟩; have HB := Lib.hid hb; clear h hb
  rcases hr with ⟨rfl, hh⟩ | ⟨h0, j, hj, hb⟩
  · have HG := Lib.hid (all_ok (f := f) (d := 0) (l := xs) hh)
    clear hh; go_wp2; go_ret; exact ⟨by rw [HG.out]; rfl, HB.out⟩
  · have HG := Lib.hid (all_bad (f := f) (d := 0) (l := xs) hj hb)
    clear hb; go_wp2; go_ret; exact ⟨by rw [HG.out]; simp, HB.out⟩
set_option maxHeartbeats 400000 in
set_option maxRecDepth 100000 in
theorem x_ix2 (F : FuncId) (c1 c2 : Value) (f : Int → Bool) (p : Option Addr) (cap : Nat) (xs : List Int) (w : World) (hx : RdI w p xs) (hl : xs.length ≤ 1000000) (hE : ∀ args W, (callFunc F args).run Tryz.prog W = .ok (.enter F args) W)
    (hf : ∀ j, j < xs.length → ∀ W, Below w.heap.size w W → Calls Tryz.prog F #[.int .i64 (gi xs j), c1, c2] W fun e w' => e = .returned (.bool (!f (gi xs j))) ∧ Below W.heap.size W w') :
    Calls Tryz.prog 89 #[.slice p xs.length cap, .func (.func F) #[] #[c1, c2]] w (BadPost xs.length (fun j => f (gi xs j)) w) := by
  have HX := Lib.hid hx; have HF := Lib.hid hf; clear hx hf
  go_enter Tryz.func89, Tryz.ntmps89
  go_wp2
  go_loopw [8] (fun i wr => ∃ k : Nat, k ≤ xs.length ∧ i = .int .i64 k ∧ Hid (∀ j, j < k → f (gi xs j) = true) ∧ Below w.heap.size w wr) (fun i _ => xs.length - (intOf i).toNat)
  case atStart => exact ⟨0, by omega, rfl, Lib.hid (by intro j hj; omega), Below.refl _ _⟩
  case round =>
    obtain ⟨k, hk, rfl, HH, hnx⟩ := hrel; have HN := Lib.hid hnx
    by_cases hlt : k < xs.length
    · obtain ⟨b, off, rfl, hc⟩ := (HX.out.below hnx).at hlt
      obtain e1 := hc k hlt; have hcl := HF.out k hlt wr hnx; clear hc hnx
      rcases hb : f (gi xs k) with _ | _
      · have HB := Lib.hid hb
        rw [hb] at hcl; clear hb; go_wp2_with fail; refine hcl.mono ?_; rintro e w4 ⟨rfl, b4⟩; have HN2 := Lib.hid (HN.out.trans (b4.mono HN.out.size)); clear hcl b4; go_wp2; go_ret; exact ⟨k, .inr ⟨by omega, k, hlt, HB.out⟩, rfl, HN2.out⟩
      · have HB := Lib.hid hb
        rw [hb] at hcl; clear hb; go_wp2_with fail; refine hcl.mono ?_; rintro e w4 ⟨rfl, b4⟩; have HN2 := Lib.hid (HN.out.trans (b4.mono HN.out.size)); clear hcl b4; go_wp2; go_roundw
        case rel =>
          refine ⟨k + 1, by omega, by go_num, Lib.hid fun j hj => ?_, HN2.out⟩
          rcases Nat.lt_or_ge j k with h | h
          · exact HH.out j h
          · obtain rfl : j = k := by omega
            exact HB.out
        case measure => simp [intOf]; omega
    · obtain rfl : k = xs.length := by omega
      go_wp2; go_ret; exact ⟨-1, .inl ⟨rfl, HH.out⟩, rfl, HN.out⟩
set_option maxRecDepth 100000 in
theorem x_cf2 (F : FuncId) (c1 c2 : Value) (f : Int → Bool) (p : Option Addr) (cap : Nat) (xs : List Int) (w : World) (hx : RdI w p xs) (hl : xs.length ≤ 1000000) (hE : ∀ args W, (callFunc F args).run Tryz.prog W = .ok (.enter F args) W)
    (hf : ∀ j, j < xs.length → ∀ W, Below w.heap.size w W → Calls Tryz.prog F #[.int .i64 (gi xs j), c1, c2] W fun e w' => e = .returned (.bool (!f (gi xs j))) ∧ Below W.heap.size W w') :
    Calls Tryz.prog 42 #[.slice p xs.length cap, .func (.func F) #[] #[c1, c2]] w fun e w' => e = .returned (.bool (!xs.all f)) ∧ Below w.heap.size w w' := by
  have h := x_ix2 F c1 c2 f p cap xs w hx hl hE hf; clear hx hf hE
  go_enter Tryz.func42, Tryz.ntmps42
  go_wp2_with fail; refine h.mono ?_; rintro e w' ⟨r, hr, rfl, hb⟩; have HB := Lib.hid hb; clear h hb
  rcases hr with ⟨rfl, hh⟩ | ⟨h0, j, hj, hb⟩
  · have HG := Lib.hid (all_ok (f := f) (d := 0) (l := xs) hh)
    clear hh; go_wp2; go_ret; exact ⟨by rw [HG.out]; rfl, HB.out⟩
  · have HG := Lib.hid (all_bad (f := f) (d := 0) (l := xs) hj hb)
    clear hb; go_wp2; go_ret; exact ⟨by rw [HG.out]; simp, HB.out⟩
end Go.Proofs.YtchclaipbahiiaaGreat
end

section
namespace Go.Proofs.YtchclaipbahiiaaGreat
open Go Go.RowKit Go.Proofs Go.Shelf
set_option linter.unusedVariables false
theorem cls3 {w : World} {B : Nat} {t : TypeId} {a b c : Value} (h : w.heap[B]? = some (.cells #[a, b, c] t)) : w.cell? ⟨B, 0, none⟩ = some a ∧ w.cell? ⟨B, 1, none⟩ = some b ∧ w.cell? ⟨B, 2, none⟩ = some c := by
  refine ⟨?_, ?_, ?_⟩ <;> (rw [cell_of_row _ _ _ _ _ _ h]; rfl)
end Go.Proofs.YtchclaipbahiiaaGreat
end

section
namespace Go.Proofs.YtchclaipbahiiaaGreat
open Go Go.RowKit Go.Proofs Go.Shelf
set_option linter.unusedVariables false
theorem st3 (w : World) (B : Nat) (t : TypeId) (v0 v1 v2 a b c : Value) (h : w.heap[B]? = some (.cells #[v0, v1, v2] t)) :
    ∃ w1 w2 w3, w.setCell ⟨B, 0, none⟩ a = w1 ∧ w1.setCell ⟨B, 1, none⟩ b = w2 ∧ w2.setCell ⟨B, 2, none⟩ c = w3 ∧
      (w.cell? ⟨B, 0, none⟩ = some v0 ∧ w.frozen? ⟨B, 0, none⟩ = false) ∧ (w1.cell? ⟨B, 1, none⟩ = some v1 ∧ w1.frozen? ⟨B, 1, none⟩ = false) ∧ (w2.cell? ⟨B, 2, none⟩ = some v2 ∧ w2.frozen? ⟨B, 2, none⟩ = false) ∧
      w3.heap[B]? = some (.cells #[a, b, c] t) ∧ (∀ k, k ≠ B → w3.heap[k]? = w.heap[k]?) ∧ Hid (w3.heap.size = w.heap.size) ∧ ∀ W n0, n0 ≤ B → Below n0 W w → Below n0 W w3 := by
  have h1 := heap_setCell_same w B 0 _ t a h; have h2 := heap_setCell_same _ B 1 _ t b h1; have h3 := heap_setCell_same _ B 2 _ t c h2; refine ⟨_, _, _, rfl, rfl, rfl, ⟨?_, frozen_of_row _ _ _ _ _ h⟩, ⟨?_, frozen_of_row _ _ _ _ _ h1⟩, ⟨?_, frozen_of_row _ _ _ _ _ h2⟩, ?_, ?_, Lib.hid ?_, ?_⟩
  · rw [cell_of_row _ _ _ _ _ _ h]; rfl
  · rw [cell_of_row _ _ _ _ _ _ h1]; rfl
  · rw [cell_of_row _ _ _ _ _ _ h2]; rfl
  · rw [h3]; rfl
  · intro k hk
    rw [Below.heap_setCell _ _ _ k hk, Below.heap_setCell _ _ _ k hk, Below.heap_setCell _ _ _ k hk]
  · simp
  · intro W n0 hn hb
    exact ((hb.setCell hn _).setCell hn _).setCell hn _
theorem pt2_1 (w : World) (B : Nat) (t : TypeId) (a b x : Value) (h : w.heap[B]? = some (.cells #[a, b] t)) : ∃ w1, w.setCell ⟨B, 1, none⟩ x = w1 ∧ w.cell? ⟨B, 1, none⟩ = some b ∧ w.frozen? ⟨B, 1, none⟩ = false ∧
    w1.heap[B]? = some (.cells #[a, x] t) ∧ (∀ k, k ≠ B → w1.heap[k]? = w.heap[k]?) ∧ Hid (w1.heap.size = w.heap.size) ∧ ∀ W n0, n0 ≤ B → Below n0 W w → Below n0 W w1 :=
  ⟨_, rfl, by rw [cell_of_row _ _ _ _ _ _ h]; rfl, frozen_of_row _ _ _ _ _ h, by rw [heap_setCell_same w B 1 _ t x h]; rfl, fun k hk => Below.heap_setCell _ _ _ k hk, Lib.hid (by simp), fun W n0 hn hb => hb.setCell hn _⟩
section
variable {P : Program} {ops : Array Oper} {Q : Exit → Act → World → Prop} {id : Nat} {a : Act} {w : World}
theorem held0 (k : ∀ W0, Below w.heap.size w W0 → wpAnyH P .any ops Q (fun _ => True) ops.size (Array.replicate ops.size false) a W0)
    (hm : P.follows .mixedOrders = true := by kernel_rfl) : (Code.region id ops true).wp P Q a w :=
  wp_region_held_drew (S := fun _ => True) hm trivial (fun _ => k _ (Below.refl _ _).drew)
end
end Go.Proofs.YtchclaipbahiiaaGreat
end

section
namespace Go.Proofs.YtchclaipbahiiaaGreat
open Go Go.RowKit Go.Proofs
set_option linter.unusedVariables false
set_option linter.unusedSimpArgs false
attribute [local go_sem] imax2 imin2
structure DvOk (wm : Int) (cs : List Int) : Prop where
  worm : 1 ≤ wm ∧ wm ≤ 60
  len : 1 ≤ cs.length ∧ cs.length ≤ 6
  hole : cs.all (fun x => inB x 1 120) = true
theorem DvOk.at {wm : Int} {cs : List Int} (h : DvOk wm cs) {i : Nat} (hi : i < cs.length) : 1 ≤ gi cs i ∧ gi cs i ≤ 120 := by
  have := List.all_eq_true.1 h.hole (gi cs i) (by unfold gi; rw [List.getD_eq_getElem?_getD, List.getElem?_eq_getElem hi]; exact List.getElem_mem hi); exact inB_iff.1 this
set_option maxRecDepth 100000 in
theorem x_count (n : Int) (w : World) : Calls Tryz.prog 44 #[.int .i64 n] w fun e w' => e = .returned (.bool (inB n 1 400)) ∧ w = w' := by
  go_enter Tryz.func44, Tryz.ntmps44
  go_wp2_with fail; refine (p_in n 1 400 w).mono ?_; rintro e w' ⟨rfl, rfl⟩; go_wp2; go_ret; exact ⟨rfl, rfl⟩
set_option maxRecDepth 100000 in
theorem x_notHole (n : Int) (w : World) : Calls Tryz.prog 88 #[.int .i64 n] w fun e w' => e = .returned (.bool (!inB n 1 120)) ∧ Below w.heap.size w w' := by
  go_enter Tryz.func88, Tryz.ntmps88
  go_wp2_with fail; refine (p_in n 1 120 w).mono ?_; rintro e w' ⟨rfl, rfl⟩; go_wp2; go_ret; exact ⟨rfl, Below.refl _ _⟩
set_option maxRecDepth 100000 in
theorem x_notCount (n : Int) (w : World) : Calls Tryz.prog 43 #[.int .i64 n] w fun e w' => e = .returned (.bool (!inB n 1 400)) ∧ Below w.heap.size w w' := by
  go_enter Tryz.func43, Tryz.ntmps43
  go_wp2_with fail; refine (x_count n w).mono ?_; rintro e w' ⟨rfl, rfl⟩; go_wp2; go_ret; exact ⟨rfl, Below.refl _ _⟩
set_option maxRecDepth 100000 in
theorem x_isDivider (wm : Int) (p : Option Addr) (c : Nat) (cs : List Int) (w : World) (hx : RdI w p cs) (h : DvOk wm cs) :
    Calls Tryz.prog 40 #[.agg #[.int .i64 wm, .slice p cs.length c]] w fun e w' => e = .returned (.bool true) ∧ Below w.heap.size w w' := by
  obtain ⟨w1, e1, HS1, k0, k1, b1⟩ := box2 w (.int .i64 wm) (.slice p cs.length c) 29; have h1 := p_in wm 1 60 w1; have h2 := p_in (cs.length : Int) 1 6 w1; rw [inB_iff.2 h.worm] at h1; rw [inB_iff.2 ⟨by have := h.len; omega, by have := h.len; omega⟩] at h2; have h3 := x_cf0 88 (fun x => inB x 1 120) p c cs w1 (hx.below b1) (by have := h.len; omega) (fun args W => by kernel_rfl) (fun j hj W hb => x_notHole _ W); rw [h.hole] at h3; have HB := Lib.hid b1; clear hx h b1
  go_enter Tryz.func40, Tryz.ntmps40
  go_wp2_with fail; refine h1.mono ?_; clear h1; rintro e w' ⟨rfl, rfl⟩; go_wp2_with fail; refine h2.mono ?_; clear h2; rintro e w' ⟨rfl, rfl⟩; go_wp2_with fail; refine h3.mono ?_; clear h3; rintro e w2 ⟨rfl, b2⟩; have HB2 := Lib.hid (HB.out.trans (b2.mono HB.out.size)); clear b2; go_wp2; go_ret; exact ⟨rfl, HB2.out⟩
def canB (wm : Int) (t : Int) (h : Int) : Bool := decide ((wm * h).tmod t = 0)
def CutPost (b : Bool) (w : World) (e : Ending) (w' : World) : Prop := ∃ x y z : Int, e = .returned (.tuple #[.agg #[.int .i64 x, .int .i64 y, .int .i64 z], .bool b]) ∧ Below w.heap.size w w'
set_option maxHeartbeats 800000 in
set_option maxRecDepth 100000 in
theorem x_cuts (wm : Int) (p : Option Addr) (c : Nat) (cs : List Int) (i : Nat) (t : Int) (w : World) (hx : RdI w p cs) (h : DvOk wm cs) (hi : i < cs.length) (ht : 1 ≤ t ∧ t ≤ 400) :
    Calls Tryz.prog 50 #[.agg #[.int .i64 wm, .slice p cs.length c], .int .i64 i, .int .i64 t] w (CutPost (canB wm t (gi cs i)) w) := by
  obtain ⟨b, off, rfl, hc⟩ := hx.at hi; have d0 := hc i hi; obtain ⟨g1, g2⟩ := h.at hi; obtain ⟨m1, m2⟩ := h.worm; obtain ⟨t1, t2⟩ := ht; have hl6 := h.len.2; have HCN := Lib.hid (show canB wm t (gi cs i) = decide ((wm * gi cs i).tmod t = 0) from rfl); obtain ⟨HO, hHO⟩ : ∃ x, gi cs i = x := ⟨_, rfl⟩; rw [hHO] at d0 g1 g2 HCN; rw [hHO]; obtain ⟨w1, e1, HS1, k0, k1, b1⟩ := box2 w (.int .i64 wm) (.slice (some ⟨b, off, none⟩) cs.length c) 29; have d0 := (b1.cell (lt_of_cellq d0)).trans d0; have hn1 : wm * HO ≤ 60 * 120 := Int.mul_le_mul m2 g2 (by omega) (by omega); have hn0 : 1 ≤ wm * HO := by have := Int.mul_le_mul m1 g1 (by omega) (by omega); omega
  obtain ⟨NN, hNN⟩ : ∃ x, wm * HO = x := ⟨_, rfl⟩; rw [hNN] at hn0 hn1 HCN; have hwn : IntKind.i64.wrap (wm * HO) = NN := by rw [hNN]; exact w64 _ (by omega) (by omega)
  have hq : 0 ≤ NN.tdiv t ∧ NN.tdiv t ≤ NN := ⟨Int.tdiv_nonneg (by omega) (by omega), by rw [Int.tdiv_eq_ediv_of_nonneg (by omega)]; exact Int.ediv_le_self _ (by omega)⟩; have hm : 0 ≤ NN.tmod t ∧ NN.tmod t < t := ⟨Int.tmod_nonneg _ (by omega), Int.tmod_lt_of_pos _ (by omega)⟩; have ht0 : ¬ t = 0 := by omega
  have hh0 : ¬ HO = 0 := by omega
  obtain ⟨QQ, hQQ⟩ : ∃ x, NN.tdiv t = x := ⟨_, rfl⟩; rw [hQQ] at hq; have hq2 : 0 ≤ QQ.tdiv HO ∧ QQ.tdiv HO ≤ QQ := ⟨Int.tdiv_nonneg (by omega) (by omega), by rw [Int.tdiv_eq_ediv_of_nonneg (by omega)]; exact Int.ediv_le_self _ (by omega)⟩; have hm2 : 0 ≤ QQ.tmod HO ∧ QQ.tmod HO < HO := ⟨Int.tmod_nonneg _ (by omega), Int.tmod_lt_of_pos _ (by omega)⟩; have hw1 : IntKind.i64.wrap (NN.tdiv t) = QQ := by rw [hQQ]; exact w64 _ (by omega) (by omega)
  have hw2 : IntKind.i64.wrap (NN.tmod t) = NN.tmod t := w64 _ (by omega) (by omega); have hw3 : IntKind.i64.wrap (QQ.tdiv HO) = QQ.tdiv HO := w64 _ (by omega) (by omega); have hw4 : IntKind.i64.wrap (QQ.tmod HO) = QQ.tmod HO := w64 _ (by omega) (by omega); have hiI : (i : Int) < (cs.length : Int) := by omega
  have HB := Lib.hid b1; have kzz := alloc_new w1 (.cells #[.int .i64 0, .int .i64 0, .int .i64 0] 101); obtain ⟨w2, e2, HS2, _, _, _, b2⟩ := box3 w1 (.int .i64 0) (.int .i64 0) (.int .i64 0) 101; rw [e2] at kzz; have d0 := (b2.cell (lt_of_cellq d0)).trans d0; have k0 := (b2.cell (lt_of_cellq k0)).trans k0; have k1 := (b2.cell (lt_of_cellq k1)).trans k1; have HB := Lib.hid (HB.out.trans (b2.mono HB.out.size)); have HLT := Lib.hid (show w.heap.size ≤ w1.heap.size from b1.size); clear hc hx h b1 b2 hNN hQQ hq hm hq2 hm2 hn0 hn1 m1 m2 g1 g2 t1 t2 hHO
  go_enter Tryz.func50, Tryz.ntmps50
  go_wp2_with fail; clear e1 e2 d0 k0 k1; refine held0 (fun W0 hb0 => ?_); have HB0 := Lib.hid (HB.out.trans (hb0.mono HB.out.size)); have kzz := (hb0.block _ (block_lt kzz)).trans kzz; clear hb0; refine tk 0 rfl (by exact trivial) ?_; (try simp only [Act.put, ptL]); refine tk 1 rfl (by exact trivial) ?_; (try simp only [Act.put, ptL]); refine tk 2 rfl (by exact trivial) ?_; (try simp only [Act.put, ptL]); refine tk 3 rfl (by exact trivial) ?_; (try simp only [Act.put, ptL]); refine tk 4 rfl (by exact trivial) ?_; (try simp only [Act.put, ptL]); refine tk 5 rfl (by exact trivial) ?_; (try simp only [Act.put, ptL]); refine tk 6 rfl (by exact trivial) ?_; (try simp only [Act.put, ptL]); refine tk 7 rfl (by exact trivial) ?_; (try simp only [Act.put, ptL]); refine tk 8 rfl (by exact trivial) ?_; (try simp only [Act.put, ptL]); refine tk 9 rfl (by exact trivial) ?_; (try simp only [Act.put, ptL]); refine tk 10 rfl (by exact trivial) ?_; (try simp only [Act.put, ptL]); refine tk 11 rfl (by exact trivial) ?_; (try simp only [Act.put, ptL]); refine tk 12 rfl (by exact trivial) ?_; (try simp only [Act.put, ptL]); refine tk 13 rfl (by exact trivial) ?_; (try simp only [Act.put, ptL]); refine tk 14 rfl (by exact trivial) ?_; (try simp only [Act.put, ptL]); refine tk 15 rfl (by exact trivial) ?_; (try simp only [Act.put, ptL])
  obtain ⟨wa, wb, wc, s1, s2, s3, ⟨z0, f0⟩, ⟨z1, f1⟩, ⟨z2, f2⟩, hx4, hxk, HZ, hxb⟩ := st3 W0 w1.heap.size 101 _ _ _ (.int .i64 i) (.int .i64 (QQ.tdiv HO)) (.int .i64 (QQ.tmod HO)) kzz; obtain ⟨y0, y1, y2⟩ := cls3 hx4; have HB3 := Lib.hid (hxb w w.heap.size HLT.out HB0.out); clear hx4 hxk hxb kzz; refine rz1 16 rfl ?_; intro K hK; go_simp; refine kz hK (by exact trivial) ?_; clear hK K; (try simp only [Act.put, ptL]); refine tk 17 rfl (by exact trivial) ?_; (try simp only [Act.put, ptL]); refine wpAnyH_done (by kernel_rfl) ?_ _; clear s1 s2 s3 z0 f0 z1 f1 z2 f2; go_wp2; refine bodyPost_ret (v := .tuple #[.agg #[.int .i64 i, .int .i64 (QQ.tdiv HO), .int .i64 (QQ.tmod HO)], .bool (canB wm t HO)]) ?_ rfl ⟨_, _, _, rfl, HB3.out⟩; rw [HCN.out]; simp [results, Tryz.results50, go_sem, y0, y1, y2]
  rfl
theorem all_succ {P : Nat → Prop} {k : Nat} (h : ∀ j, j < k → P j) (hk : P k) : ∀ j, j < k + 1 → P j := fun j hj => by
  rcases Nat.lt_or_ge j k with h1 | h1
  · exact h j h1
  · obtain rfl : j = k := by omega
    exact hk
theorem any_yes {f : Int → Bool} {l : List Int} {k : Nat} (hk : k < l.length) (h : f (gi l k) = true) : l.any f = true :=
  List.any_eq_true.2 ⟨gi l k, by unfold gi; rw [List.getD_eq_getElem?_getD, List.getElem?_eq_getElem hk]; exact List.getElem_mem hk, h⟩
theorem any_no {f : Int → Bool} {l : List Int} (h : ∀ j, j < l.length → f (gi l j) = false) : l.any f = false := by
  rw [List.any_eq_false]; intro x hx; obtain ⟨i, hi, rfl⟩ := List.getElem_of_mem hx; have := h i hi; unfold gi at this; rw [List.getD_eq_getElem?_getD, List.getElem?_eq_getElem hi] at this
  simpa using this
def CuPost (b : Bool) (w : World) (e : Ending) (w' : World) : Prop := ∃ x y z : Int, e = .returned (.tuple #[.agg #[.int .i64 x, .int .i64 y, .int .i64 z], .int .i64 (if b then 0 else 5)]) ∧ Below w.heap.size w w'
set_option maxHeartbeats 1600000 in
set_option maxRecDepth 100000 in
theorem x_Cuts (wm : Int) (p : Option Addr) (c : Nat) (cs : List Int) (t : Int) (w : World) (hx : RdI w p cs) (h : DvOk wm cs) (ht : 1 ≤ t ∧ t ≤ 400) :
    Calls Tryz.prog 39 #[.agg #[.int .i64 wm, .slice p cs.length c], .int .i64 t] w (CuPost (cs.any (canB wm t)) w) := by
  obtain ⟨w1, e1, HS1, k0, k1, b1⟩ := box2 w (.int .i64 wm) (.slice p cs.length c) 29; obtain ⟨w2, e2, HS2, _, _, _, b2⟩ := box3 w1 (.int .i64 0) (.int .i64 0) (.int .i64 0) 101; have kr := alloc_new w1 (.cells #[.int .i64 0, .int .i64 0, .int .i64 0] 101); rw [e2] at kr; have HX := Lib.hid ((hx.below b1).below b2); have HD := Lib.hid h; have hl6 := h.len.2; have HT := Lib.hid ht; have k0 := (b2.cell (lt_of_cellq k0)).trans k0; have k1 := (b2.cell (lt_of_cellq k1)).trans k1; have HB := Lib.hid (b1.trans (b2.mono b1.size)); have HLT := Lib.hid (show w.heap.size ≤ w1.heap.size from b1.size); clear hx h ht b1 b2
  go_enter Tryz.func39, Tryz.ntmps39
  go_wp2_with fail; refine (x_isDivider wm p c cs _ HX.out HD.out).mono ?_; rintro e w3 ⟨rfl, b3⟩; have HX := Lib.hid (HX.out.below b3); have HB := Lib.hid (HB.out.trans (b3.mono HB.out.size)); have k0 := (b3.cell (lt_of_cellq k0)).trans k0; have k1 := (b3.cell (lt_of_cellq k1)).trans k1; have kr := (b3.block _ (block_lt kr)).trans kr; have hcnt := x_count t w3; rw [inB_iff.2 HT.out] at hcnt; clear b3 e1 e2; go_wp2_with fail; refine hcnt.mono ?_; clear hcnt; rintro e w4 ⟨rfl, rfl⟩; have HK := Lib.hid (cl2 k0 k1); have HR := Lib.hid kr; go_wp2; clear k0 k1 kr
  go_loopw [21] (fun i wr => ∃ k : Nat, k ≤ cs.length ∧ i = .int .i64 k ∧ Hid (∀ j, j < k → canB wm t (gi cs j) = false) ∧ Hid (Below w3.heap.size w3 wr)) (fun i _ => cs.length - (intOf i).toNat)
  case atStart => exact ⟨0, Nat.zero_le _, rfl, Lib.hid (fun j hj => absurd hj (Nat.not_lt_zero _)), Lib.hid (Below.refl _ _)⟩
  case round =>
    obtain ⟨k, hk, rfl, HN, HBr⟩ := hrel; obtain ⟨k0, k1⟩ := HK.out _ HBr.out; have kr := (HBr.out.block _ (block_lt HR.out)).trans HR.out
    by_cases hlt : k < cs.length
    · have hltI : decide ((k : Int) < (cs.length : Int)) = true := decide_eq_true (by omega)
      have hkI : (k : Int) < (cs.length : Int) := by omega
      have hwk : IntKind.i64.wrap ((k : Int) + 1) = (k : Int) + 1 := w64 _ (by omega) (by omega); have hcl := x_cuts wm p c cs k t wr (HX.out.below HBr.out) HD.out hlt HT.out
      cases hb : canB wm t (gi cs k) with
      | true =>
        rw [hb] at hcl; have HY := Lib.hid (any_yes hlt hb); clear hb; go_wp2_with fail; refine hcl.mono ?_; clear hcl; rintro e w5 ⟨x, y, z, rfl, b5⟩; obtain ⟨w6, e6, HS6, x0, x1, x2, b6⟩ := box3 w5 (.int .i64 x) (.int .i64 y) (.int .i64 z) 101; have b56 := b5.trans (b6.mono b5.size); have kr := (b56.block _ (block_lt kr)).trans kr; have hB6 := HBr.out.trans (b56.mono HBr.out.size); have hB6 := HB.out.trans (hB6.mono HB.out.size); obtain ⟨wa, wb, wc, s1, s2, s3, ⟨z0, f0⟩, ⟨z1, f1⟩, ⟨z2, f2⟩, hx4, hxk, HZ, hxb⟩ := st3 w6 w1.heap.size 101 _ _ _ (.int .i64 x) (.int .i64 y) (.int .i64 z) kr; obtain ⟨y0, y1, y2⟩ := cls3 hx4; have HBZ := Lib.hid (hxb w w.heap.size HLT.out hB6); clear hx4 hxk hxb kr b56 b5 b6 hB6; go_wp2; refine bodyPost_ret (v := .tuple #[.agg #[.int .i64 x, .int .i64 y, .int .i64 z], .int .i64 0]) ?_ rfl ⟨_, _, _, by rw [HY.out]; rfl, HBZ.out⟩; simp [results, Tryz.results39, go_sem, y0, y1, y2]
      | false =>
        rw [hb] at hcl; have HY := Lib.hid hb; clear hb; go_wp2_with fail; refine hcl.mono ?_; clear hcl; rintro e w5 ⟨x, y, z, rfl, b5⟩; obtain ⟨w6, e6, HS6, x0, x1, x2, b6⟩ := box3 w5 (.int .i64 x) (.int .i64 y) (.int .i64 z) 101; have HB6 := Lib.hid (HBr.out.trans ((b5.trans (b6.mono b5.size)).mono HBr.out.size)); clear b5 b6; go_wp2; go_roundw
        case rel => exact ⟨k + 1, by omega, by go_num, Lib.hid (all_succ HN.out HY.out), HB6⟩
        case measure => simp [intOf]; omega
    · obtain rfl : k = cs.length := by omega
      have hkI : ¬ (cs.length : Int) < (cs.length : Int) := by omega
      have HY := Lib.hid (any_no HN.out); have hB6 := HB.out.trans (HBr.out.mono HB.out.size); obtain ⟨wa, wb, wc, s1, s2, s3, ⟨z0, f0⟩, ⟨z1, f1⟩, ⟨z2, f2⟩, hx4, hxk, HZ, hxb⟩ := st3 wr w1.heap.size 101 _ _ _ (.int .i64 0) (.int .i64 0) (.int .i64 0) kr; obtain ⟨y0, y1, y2⟩ := cls3 hx4; have HBZ := Lib.hid (hxb w w.heap.size HLT.out hB6); clear hx4 hxk hxb kr hB6; go_wp2; refine bodyPost_ret (v := .tuple #[.agg #[.int .i64 0, .int .i64 0, .int .i64 0], .int .i64 5]) ?_ rfl ⟨_, _, _, by rw [HY.out]; rfl, HBZ.out⟩; simp [results, Tryz.results39, go_sem, y0, y1, y2]
set_option maxHeartbeats 800000 in
set_option maxRecDepth 100000 in
theorem x_cut20 (wm : Int) (p : Option Addr) (c : Nat) (cs : List Int) (t : Int) (w : World) (hx : RdI w p cs) (h : DvOk wm cs) (ht : 1 ≤ t ∧ t ≤ 400) :
    Calls Tryz.prog 12 #[.agg #[.int .i64 wm, .slice p cs.length c], .int .i64 t] w fun e w' => e = .returned (.bool (cs.any (canB wm t))) ∧ Below w.heap.size w w' := by
  obtain ⟨w1, e1, HS1, k0, k1, b1⟩ := box2 w (.int .i64 wm) (.slice p cs.length c) 29; have hcl := x_Cuts wm p c cs t w1 (hx.below b1) h ht; have HB := Lib.hid b1; obtain ⟨B, hB⟩ : ∃ B, cs.any (canB wm t) = B := ⟨_, rfl⟩; rw [hB] at hcl ⊢; clear hx h ht b1 hB
  go_enter Tryz.func12, Tryz.ntmps12
  go_wp2_with fail; refine hcl.mono ?_; clear hcl; rintro e w2 ⟨x, y, z, rfl, b2⟩; obtain ⟨w3, e3, HS3, x0, x1, x2, b3⟩ := box3 w2 (.int .i64 x) (.int .i64 y) (.int .i64 z) 101; have HB3 := Lib.hid (HB.out.trans ((b2.trans (b3.mono b2.size)).mono HB.out.size)); clear b2 b3
  cases B with
  | true =>
    go_wp2; go_ret; exact ⟨rfl, HB3.out⟩
  | false =>
    go_wp2; go_ret; exact ⟨rfl, HB3.out⟩
def YesPost (P : Prop) (w : World) (e : Ending) (w' : World) : Prop := ∃ b, e = .returned (.bool b) ∧ (b = true → P) ∧ Below w.heap.size w w'
theorem all_of {f : Int → Bool} {l : List Int} (h : ∀ j, j < l.length → f (gi l j) = true) : l.all f = true := by
  rw [List.all_eq_true]; intro x hx; obtain ⟨i, hi, rfl⟩ := List.getElem_of_mem hx; have := h i hi; unfold gi at this; rw [List.getD_eq_getElem?_getD, List.getElem?_eq_getElem hi] at this
  simpa using this
set_option maxHeartbeats 400000 in
set_option maxRecDepth 100000 in
theorem a_Fraction (f1 f2 : Int) (w : World) : Calls Tryz.prog 6 #[.agg #[.int .i64 f1, .int .i64 f2]] w (YesPost ((0 ≤ f1 ∧ f1 ≤ 50000) ∧ 1 ≤ f2 ∧ f2 ≤ 50000) w) := by
  obtain ⟨w1, e1, HS1, k0, k1, b1⟩ := box2 w (.int .i64 f1) (.int .i64 f2) 27; have h1 := a_in f1 0 50000 w1; have h2 := a_in f2 1 50000 w1; have HB := Lib.hid b1; clear b1
  go_enter Tryz.func6, Tryz.ntmps6
  go_wp2_with fail; refine h1.mono ?_; clear h1; rintro e w' ⟨rfl, rfl⟩
  cases hb : inB f1 0 50000 with
  | false =>
    go_wp2; go_ret; exact ⟨false, rfl, (fun h => by cases h), HB.out⟩
  | true =>
    go_wp2_with fail; refine h2.mono ?_; clear h2; rintro e w' ⟨rfl, rfl⟩; have HI := Lib.hid (inB_iff.1 hb); go_wp2; go_ret; exact ⟨_, rfl, (fun h => ⟨HI.out, inB_iff.1 h⟩), HB.out⟩
set_option maxHeartbeats 800000 in
set_option maxRecDepth 100000 in
theorem b_Divider (wm : Int) (p : Option Addr) (c : Nat) (cs : List Int) (w : World) (hx : RdI w p cs) (hl : cs.length ≤ 6) : Calls Tryz.prog 7 #[.agg #[.int .i64 wm, .slice p cs.length c]] w (YesPost (DvOk wm cs) w) := by
  obtain ⟨w1, e1, HS1, k0, k1, b1⟩ := box2 w (.int .i64 wm) (.slice p cs.length c) 29; have HX := Lib.hid (hx.below b1); have HB := Lib.hid b1; clear hx b1
  go_enter Tryz.func7, Tryz.ntmps7
  go_wp2; clear e1
  go_loopw [3] (fun a wr => ∃ k : Nat, k ≤ cs.length ∧ a = .int .i64 k ∧ Hid (∀ j, j < k → inB (gi cs j) 1 120 = true) ∧ w1 = wr) (fun a _ => cs.length - (intOf a).toNat)
  case atStart => exact ⟨0, Nat.zero_le _, rfl, Lib.hid (fun j hj => absurd hj (Nat.not_lt_zero _)), rfl⟩
  case round =>
    obtain ⟨k, hk, rfl, HH, rfl⟩ := hrel
    by_cases hlt : k < cs.length
    · have hltI : decide ((k : Int) < (cs.length : Int)) = true := decide_eq_true (by omega)
      have hkI : (k : Int) < (cs.length : Int) := by omega
      have hwk : IntKind.i64.wrap ((k : Int) + 1) = (k : Int) + 1 := w64 _ (by omega) (by omega); obtain ⟨b, off, rfl, hc⟩ := HX.out.at hlt; have d0 := hc k hlt; have h1 := b_in (gi cs k) 1 120 w1; clear hc
      cases hb : inB (gi cs k) 1 120 with
      | false =>
        rw [hb] at h1; clear hb; go_wp2_with fail; refine h1.mono ?_; clear h1; rintro e w' ⟨rfl, rfl⟩; go_wp2; go_ret; exact ⟨false, rfl, (fun h => by cases h), HB.out⟩
      | true =>
        rw [hb] at h1; have HY := Lib.hid hb; clear hb; go_wp2_with fail; refine h1.mono ?_; clear h1; rintro e w' ⟨rfl, rfl⟩; go_wp2; go_roundw
        case rel => exact ⟨k + 1, by omega, by go_num, Lib.hid (all_succ HH.out HY.out), trivial⟩
        case measure => simp [intOf]; omega
    · obtain rfl : k = cs.length := by omega
      have hltI : decide ((cs.length : Int) < (cs.length : Int)) = false := by simp
      have h1 := b_in wm 1 60 w1; have h2 := b_in (cs.length : Int) 1 6 w1; go_wp2_with fail; refine h1.mono ?_; clear h1; rintro e w' ⟨rfl, rfl⟩
      cases hb : inB wm 1 60 with
      | false =>
        go_wp2; go_ret; exact ⟨false, rfl, (fun h => by cases h), HB.out⟩
      | true =>
        have HI := Lib.hid (inB_iff.1 hb); go_wp2_with fail; refine h2.mono ?_; clear h2; rintro e w' ⟨rfl, rfl⟩; go_wp2; go_ret; exact ⟨_, rfl, (fun h => ⟨HI.out, by have := inB_iff.1 h; omega, all_of HH.out⟩), HB.out⟩
set_option maxHeartbeats 1600000 in
set_option maxRecDepth 100000 in
theorem a_Rule (lo hi pr se : Int) (p : Option Addr) (c : Nat) (nv : List Int) (w : World) (hx : RdI w p nv) (hl : nv.length ≤ 6) : Calls Tryz.prog 23 #[.agg #[.int .i64 lo, .int .i64 hi, .int .i64 pr, .int .i64 se, .slice p nv.length c]] w (YesPost (RuleOk lo hi pr se nv) w) := by
  obtain ⟨w1, e1, HS1, k0, k1, k2, k3, k4, b1⟩ := box5 w (.int .i64 lo) (.int .i64 hi) (.int .i64 pr) (.int .i64 se) (.slice p nv.length c) 25; have HX := Lib.hid (hx.below b1); have HB := Lib.hid b1; clear hx b1
  go_enter Tryz.func23, Tryz.ntmps23
  go_wp2; clear e1
  go_loopw [3] (fun a wr => ∃ k : Nat, k ≤ nv.length ∧ a = .int .i64 k ∧ Hid (∀ j, j < k → inB (gi nv j) 4 60 = true) ∧ w1 = wr) (fun a _ => nv.length - (intOf a).toNat)
  case atStart => exact ⟨0, Nat.zero_le _, rfl, Lib.hid (fun j hj => absurd hj (Nat.not_lt_zero _)), rfl⟩
  case round =>
    obtain ⟨k, hk, rfl, HH, rfl⟩ := hrel
    by_cases hlt : k < nv.length
    · have hltI : decide ((k : Int) < (nv.length : Int)) = true := decide_eq_true (by omega)
      have hkI : (k : Int) < (nv.length : Int) := by omega
      have hwk : IntKind.i64.wrap ((k : Int) + 1) = (k : Int) + 1 := w64 _ (by omega) (by omega); obtain ⟨b, off, rfl, hc⟩ := HX.out.at hlt; have d0 := hc k hlt; have h1 := a_teeth (gi nv k) w1; clear hc
      cases hb : inB (gi nv k) 4 60 with
      | false =>
        rw [hb] at h1; clear hb; go_wp2_with fail; refine h1.mono ?_; clear h1; rintro e w' ⟨rfl, rfl⟩; go_wp2; go_ret; exact ⟨false, rfl, (fun h => by cases h), HB.out⟩
      | true =>
        rw [hb] at h1; have HY := Lib.hid hb; clear hb; go_wp2_with fail; refine h1.mono ?_; clear h1; rintro e w' ⟨rfl, rfl⟩; go_wp2; go_roundw
        case rel => exact ⟨k + 1, by omega, by go_num, Lib.hid (all_succ HH.out HY.out), trivial⟩
        case measure => simp [intOf]; omega
    · obtain rfl : k = nv.length := by omega
      have hltI : decide ((nv.length : Int) < (nv.length : Int)) = false := by simp
      have hl6 : decide ((nv.length : Int) ≤ 6) = true := decide_eq_true (by omega); have hl6N : (nv.length : Int) ≤ 6 := by omega
      have h1 := a_teeth lo w1; have h2 := a_teeth hi w1; have h3 := a_in pr 1 3 w1; go_wp2_with fail; refine h1.mono ?_; clear h1; rintro e w' ⟨rfl, rfl⟩
      cases hb : inB lo 4 60 with
      | false =>
        go_wp2; go_ret; exact ⟨false, rfl, (fun h => by cases h), HB.out⟩
      | true =>
      have HI := Lib.hid (inB_iff.1 hb); clear hb; go_wp2_with fail; refine h2.mono ?_; clear h2; rintro e w' ⟨rfl, rfl⟩
      cases hb : inB hi 4 60 with
      | false =>
        go_wp2; go_ret; exact ⟨false, rfl, (fun h => by cases h), HB.out⟩
      | true =>
      have HJ := Lib.hid (inB_iff.1 hb); clear hb
      by_cases hle : lo ≤ hi
      case neg =>
        have hleI : decide (lo ≤ hi) = false := decide_eq_false hle; go_wp2; go_ret; exact ⟨false, rfl, (fun h => by cases h), HB.out⟩
      have hleI : decide (lo ≤ hi) = true := decide_eq_true hle; go_wp2_with fail; refine h3.mono ?_; clear h3; rintro e w' ⟨rfl, rfl⟩
      cases hb : inB pr 1 3 with
      | false =>
        go_wp2; go_ret; exact ⟨false, rfl, (fun h => by cases h), HB.out⟩
      | true =>
      have HK := Lib.hid (inB_iff.1 hb); clear hb
      by_cases hs1 : 1 ≤ se
      case neg =>
        have hs1I : decide (1 ≤ se) = false := decide_eq_false hs1; go_wp2; go_ret; exact ⟨false, rfl, (fun h => by cases h), HB.out⟩
      have hs1I : decide (1 ≤ se) = true := decide_eq_true hs1
      by_cases hs2 : se ≤ 3
      case neg =>
        have hs2I : decide (se ≤ 3) = false := decide_eq_false hs2; go_wp2; go_ret; exact ⟨false, rfl, (fun h => by cases h), HB.out⟩
      have hs2I : decide (se ≤ 3) = true := decide_eq_true hs2; have HRU := Lib.hid (show RuleOk lo hi pr se nv from ⟨HI.out, HJ.out, hle, HK.out, ⟨hs1, hs2⟩, by omega, all_of HH.out⟩); go_wp2; go_ret; exact ⟨true, rfl, (fun _ => HRU.out), HB.out⟩
set_option maxHeartbeats 400000 in
set_option maxRecDepth 100000 in
theorem x_rule20 (lo hi pr se : Int) (p : Option Addr) (c : Nat) (nv : List Int) (w : World) (hx : RdI w p nv) : Calls Tryz.prog 5 #[.agg #[.int .i64 lo, .int .i64 hi, .int .i64 pr, .int .i64 se, .slice p nv.length c]] w (YesPost (RuleOk lo hi pr se nv) w) := by
  obtain ⟨w1, e1, HS1, k0, k1, k2, k3, k4, b1⟩ := box5 w (.int .i64 lo) (.int .i64 hi) (.int .i64 pr) (.int .i64 se) (.slice p nv.length c) 25; have HX := Lib.hid (hx.below b1); have HB := Lib.hid b1; clear hx b1
  by_cases hl : nv.length ≤ 6
  · have hlI : decide ((nv.length : Int) ≤ 6) = true := decide_eq_true (by omega)
    go_enter Tryz.func5, Tryz.ntmps5
    go_wp2_with fail; refine (a_Rule lo hi pr se p c nv _ HX.out hl).mono ?_; rintro e w2 ⟨b, rfl, hb, b2⟩; have HB2 := Lib.hid (HB.out.trans (b2.mono HB.out.size)); have HBB := Lib.hid hb; clear hb b2
    cases b with
    | false =>
      go_wp2; go_ret; exact ⟨false, rfl, (fun h => by cases h), HB2.out⟩
    | true =>
      go_wp2; go_ret; exact ⟨true, rfl, (fun _ => HBB.out trivial), HB2.out⟩
  · have hlI : decide ((nv.length : Int) ≤ 6) = false := decide_eq_false (by omega)
    go_enter Tryz.func5, Tryz.ntmps5
    go_wp2; go_ret; exact ⟨false, rfl, (fun h => by cases h), HB.out⟩
def lbB (lo hi : Int) (nv : List Int) (t : Int) : Bool := !nv.any (fun x => x == t) && inB t lo hi
set_option maxHeartbeats 800000 in
set_option maxRecDepth 100000 in
theorem a_Cut (lo hi pr se : Int) (p : Option Addr) (c : Nat) (nv : List Int) (t : Int) (w : World) (hx : RdI w p nv) (hl : nv.length ≤ 6) : Calls Tryz.prog 13 #[.agg #[.int .i64 lo, .int .i64 hi, .int .i64 pr, .int .i64 se, .slice p nv.length c], .int .i64 t] w fun e w' => e = .returned (.bool (lbB lo hi nv t)) ∧ Below w.heap.size w w' := by
  obtain ⟨w1, e1, HS1, k0, k1, k2, k3, k4, b1⟩ := box5 w (.int .i64 lo) (.int .i64 hi) (.int .i64 pr) (.int .i64 se) (.slice p nv.length c) 25; have HX := Lib.hid (hx.below b1); have HB := Lib.hid b1; clear hx b1
  go_enter Tryz.func13, Tryz.ntmps13
  go_wp2; clear e1
  go_loopw [5] (fun a wr => ∃ k : Nat, k ≤ nv.length ∧ a = .int .i64 k ∧ Hid (∀ j, j < k → (gi nv j == t) = false) ∧ w1 = wr) (fun a _ => nv.length - (intOf a).toNat)
  case atStart => exact ⟨0, Nat.zero_le _, rfl, Lib.hid (fun j hj => absurd hj (Nat.not_lt_zero _)), rfl⟩
  case round =>
    obtain ⟨k, hk, rfl, HH, rfl⟩ := hrel
    by_cases hlt : k < nv.length
    · have hltI : decide ((k : Int) < (nv.length : Int)) = true := decide_eq_true (by omega)
      have hkI : (k : Int) < (nv.length : Int) := by omega
      have hwk : IntKind.i64.wrap ((k : Int) + 1) = (k : Int) + 1 := w64 _ (by omega) (by omega); obtain ⟨b, off, rfl, hc⟩ := HX.out.at hlt; have d0 := hc k hlt; clear hc
      cases hb : (gi nv k == t) with
      | true =>
        have HY := Lib.hid (any_yes (f := fun x => x == t) hlt hb); go_wp2; go_ret; exact ⟨by unfold lbB; rw [HY.out]; rfl, HB.out⟩
      | false =>
        have HY := Lib.hid hb; go_wp2; go_roundw
        case rel => exact ⟨k + 1, by omega, by go_num, Lib.hid (all_succ HH.out HY.out), trivial⟩
        case measure => simp [intOf]; omega
    · obtain rfl : k = nv.length := by omega
      have hltI : decide ((nv.length : Int) < (nv.length : Int)) = false := by simp
      have h1 := a_in t lo hi w1; have HY := Lib.hid (any_no (f := fun x => x == t) HH.out); go_wp2_with fail; refine h1.mono ?_; clear h1; rintro e w' ⟨rfl, rfl⟩; go_wp2; go_ret; exact ⟨by unfold lbB; rw [HY.out]; rfl, HB.out⟩
def noneB (wm : Int) (cs : List Int) (l : List Int) (n : Int) : Bool := l.all fun i => !canB wm n (gi cs i.toNat)
def suitB (wm : Int) (cs ts : List Int) (l : List Int) : Bool := ts.all fun n => !noneB wm cs l n
def InL (m : Nat) (l : List Int) : Prop := ∀ j, j < l.length → 0 ≤ gi l j ∧ gi l j < m
structure RdDv (w : World) (b : Nat) (p : Option Addr) (c : Nat) (wm : Int) (cs : List Int) : Prop where
  k0 : w.cell? ⟨b, 0, none⟩ = some (.int .i64 wm)
  k1 : w.cell? ⟨b, 1, none⟩ = some (.slice p cs.length c)
  rd : RdI w p cs
theorem RdDv.below {w w' : World} {b : Nat} {p : Option Addr} {c : Nat} {wm : Int} {cs : List Int} (h : RdDv w b p c wm cs) (hb : Below w.heap.size w w') : RdDv w' b p c wm cs :=
  ⟨(hb.cell (lt_of_cellq h.k0)).trans h.k0, (hb.cell (lt_of_cellq h.k1)).trans h.k1, h.rd.below hb⟩
set_option maxHeartbeats 400000 in
set_option maxRecDepth 100000 in
theorem x_c3 (i : Nat) (bD bN : Nat) (p : Option Addr) (c : Nat) (wm : Int) (cs : List Int) (n : Int) (w : World) (hd : RdDv w bD p c wm cs) (h : DvOk wm cs) (hn : w.cell? ⟨bN, 0, none⟩ = some (.int .i64 n)) (hi : i < cs.length) (ht : 1 ≤ n ∧ n ≤ 400) :
    Calls Tryz.prog 49 #[.int .i64 i, .pointer (some ⟨bD, 0, none⟩), .pointer (some ⟨bN, 0, none⟩)] w fun e w' => e = .returned (.bool (canB wm n (gi cs i))) ∧ Below w.heap.size w w' := by
  have hcl := x_cuts wm p c cs i n w hd.rd h hi ht; obtain ⟨k0, k1, _⟩ := hd; obtain ⟨B, hB⟩ : ∃ B, canB wm n (gi cs i) = B := ⟨_, rfl⟩; rw [hB] at hcl ⊢; clear hB h ht
  go_enter Tryz.func49, Tryz.ntmps49
  go_wp2_with fail; refine hcl.mono ?_; clear hcl; rintro e w2 ⟨x, y, z, rfl, b2⟩; obtain ⟨w3, e3, HS3, x0, x1, x2, b3⟩ := box3 w2 (.int .i64 x) (.int .i64 y) (.int .i64 z) 101; have HB3 := Lib.hid (b2.trans (b3.mono b2.size)); clear b2 b3; go_wp2; go_ret; exact ⟨rfl, HB3.out⟩
set_option maxHeartbeats 400000 in
set_option maxRecDepth 100000 in
theorem x_c2 (n : Int) (bL bD : Nat) (p : Option Addr) (c : Nat) (wm : Int) (cs : List Int) (q : Option Addr) (cq : Nat) (l : List Int) (w : World) (hd : RdDv w bD p c wm cs) (h : DvOk wm cs) (hL : w.cell? ⟨bL, 0, none⟩ = some (.slice q l.length cq)) (hl : RdI w q l) (hm : InL cs.length l) (hll : l.length ≤ 1000000) (ht : 1 ≤ n ∧ n ≤ 400) :
    Calls Tryz.prog 48 #[.int .i64 n, .pointer (some ⟨bL, 0, none⟩), .pointer (some ⟨bD, 0, none⟩)] w fun e w' => e = .returned (.bool (noneB wm cs l n)) ∧ Below w.heap.size w w' := by
  obtain ⟨w1, e1, HS1, kn, _, b1⟩ := box1 w (.int .i64 n) 3
  have hcl := x_cf2 49 (.pointer (some ⟨bD, 0, none⟩)) (.pointer (some ⟨w.heap.size, 0, none⟩)) (fun i => !canB wm n (gi cs i.toNat)) q cq l w1 (hl.below b1) hll (fun args W => by kernel_rfl) (fun j hj W hb => by
    obtain ⟨i, hi⟩ := Int.eq_ofNat_of_zero_le (hm j hj).1; have h2 := (hm j hj).2; rw [hi] at h2 ⊢; rw [Int.toNat_natCast, Bool.not_not]; exact x_c3 i bD w.heap.size p c wm cs n W ((hd.below b1).below hb) h ((hb.cell (lt_of_cellq kn)).trans kn) (by omega) ht)
  have kL := (b1.cell (lt_of_cellq hL)).trans hL; have HB := Lib.hid b1; obtain ⟨B, hB⟩ : ∃ B, l.all (fun i => !canB wm n (gi cs i.toNat)) = B := ⟨_, rfl⟩; have HN := Lib.hid (show noneB wm cs l n = B from hB); rw [hB] at hcl; clear hB h ht hd hL hl hm b1
  go_enter Tryz.func48, Tryz.ntmps48
  go_wp2_with fail; refine hcl.mono ?_; clear hcl; rintro e w2 ⟨rfl, b2⟩; have HB2 := Lib.hid (HB.out.trans (b2.mono HB.out.size)); clear b2
  cases B with
  | true =>
    go_wp2; go_ret; exact ⟨by rw [HN.out]; rfl, HB2.out⟩
  | false =>
    go_wp2; go_ret; exact ⟨by rw [HN.out]; rfl, HB2.out⟩
set_option maxHeartbeats 400000 in
set_option maxRecDepth 100000 in
theorem x_c1 (bT bD : Nat) (p : Option Addr) (c : Nat) (wm : Int) (cs : List Int) (r : Option Addr) (cr : Nat) (ts : List Int) (q : Option Addr) (cq : Nat) (l : List Int) (w : World) (hd : RdDv w bD p c wm cs) (h : DvOk wm cs) (hT : w.cell? ⟨bT, 0, none⟩ = some (.slice r ts.length cr)) (ht : RdI w r ts) (htl : ts.length ≤ 1000000) (hts : ∀ j, j < ts.length → 1 ≤ gi ts j ∧ gi ts j ≤ 400) (hl : RdI w q l) (hm : InL cs.length l) (hll : l.length ≤ 1000000) :
    Calls Tryz.prog 47 #[.slice q l.length cq, .pointer (some ⟨bT, 0, none⟩), .pointer (some ⟨bD, 0, none⟩)] w fun e w' => e = .returned (.bool (suitB wm cs ts l)) ∧ Below w.heap.size w w' := by
  obtain ⟨w1, e1, HS1, kn, _, b1⟩ := box1 w (.slice q l.length cq) 23
  have hcl := x_cf2 48 (.pointer (some ⟨w.heap.size, 0, none⟩)) (.pointer (some ⟨bD, 0, none⟩)) (fun n => !noneB wm cs l n) r cr ts w1 (ht.below b1) htl (fun args W => by kernel_rfl) (fun j hj W hb => by
    rw [Bool.not_not]; exact x_c2 _ w.heap.size bD p c wm cs q cq l W ((hd.below b1).below hb) h ((hb.cell (lt_of_cellq kn)).trans kn) ((hl.below b1).below hb) hm hll (hts j hj))
  have kT := (b1.cell (lt_of_cellq hT)).trans hT; have HB := Lib.hid b1; obtain ⟨B, hB⟩ : ∃ B, ts.all (fun n => !noneB wm cs l n) = B := ⟨_, rfl⟩; have HN := Lib.hid (show suitB wm cs ts l = B from hB); rw [hB] at hcl; clear hB h ht hd hT hl hm b1 hts
  go_enter Tryz.func47, Tryz.ntmps47
  go_wp2_with fail; refine hcl.mono ?_; clear hcl; rintro e w2 ⟨rfl, b2⟩; have HB2 := Lib.hid (HB.out.trans (b2.mono HB.out.size)); clear b2
  cases B with
  | true =>
    go_wp2; go_ret; exact ⟨by rw [HN.out]; rfl, HB2.out⟩
  | false =>
    go_wp2; go_ret; exact ⟨by rw [HN.out]; rfl, HB2.out⟩
end Go.Proofs.YtchclaipbahiiaaGreat
end

section
namespace Go.Proofs.YtchclaipbahiiaaGreat
open Go Go.RowKit Go.Proofs Go.Shelf
set_option linter.unusedVariables false
def KpL (n0 kx : Nat) (w w' : World) : Prop := BelX (fun x => x = kx) n0 w w' ∧ ∀ (b : Nat) (cur : Array Value) (ty : TypeId) (fr : Nat × Nat), w.heap[b]? = some (.cells cur ty fr) → b ≠ kx → ty ≠ 23 → w'.heap[b]? = w.heap[b]?
theorem KpL.refl (n0 kx : Nat) (w : World) : KpL n0 kx w w := ⟨BelX.refl _ _ _, fun _ _ _ _ _ _ _ => rfl⟩
theorem KpL.trans {n0 kx : Nat} {a b c : World} (h : KpL n0 kx a b) (k : KpL n0 kx b c) : KpL n0 kx a c :=
  ⟨h.1.trans k.1, fun b cur ty fr hb h1 h2 => by
    have e := h.2 b cur ty fr hb h1 h2; exact (k.2 b cur ty fr (e.trans hb) h1 h2).trans e⟩
theorem KpL.of_below {n0 kx : Nat} {w w' : World} (h : Below w.heap.size w w') (hn : n0 ≤ w.heap.size) : KpL n0 kx w w' :=
  ⟨(belX_of h).mono hn, fun b cur ty fr hb _ _ => h.block b (block_lt hb)⟩
theorem KpL.keeps {n0 kx : Nat} {w w' : World} (h : KpL n0 kx w w') {b : Nat} {cur : Array Value} {ty : TypeId} {fr : Nat × Nat} (hb : w.heap[b]? = some (.cells cur ty fr)) (h1 : b ≠ kx) (h2 : ty ≠ 23) : w'.heap[b]? = some (.cells cur ty fr) :=
  (h.2 b cur ty fr hb h1 h2).trans hb
theorem KpL.own {n0 kx B size n : Nat} {ty : TypeId} {v : Value} {xs : List Value} {w w' : World} (h : KpL n0 kx w w') (hk : kx < B) (h2 : ty ≠ 23) (ho : w.ownsRow B ty size v n xs) : w'.ownsRow B ty size v n xs := by
  refine own_same ho fun g hg => ?_
  rcases ho.2 with ⟨rfl, _⟩ | ⟨g', cap, cur, rfl, hb, hh, _⟩
  · simp [Value.ownBlock] at hg
  · simp [Value.ownBlock] at hg
    subst hg; exact h.2 _ _ _ _ hh (by omega) h2
theorem KpL.below {n0 kx B : Nat} {w w' : World} (h : KpL n0 kx w w') (h1 : B ≤ kx) (h2 : B ≤ n0) : Below B w w' := (h.1.mono h2).below (Nat.le_refl _) (fun x hx => by subst hx; exact h1)
theorem KpL.putObj {n0 kx : Nat} {W : World} {l : Nat} {o o' : Obj} (hn : n0 ≤ l) (hl : W.heap[l]? = some o) (ho : o.isCells = false) : KpL n0 kx W (W.putObj l o') := by
  have hg := grownBy_putObj' W l o'; refine ⟨⟨hg.os, hg.tape, hg.output, hg.size, fun k hk _ => World.putObj_heap_other (by omega)⟩, fun b cur ty fr hb _ _ => World.putObj_heap_other ?_⟩; intro e; subst e; rw [hl] at hb
  cases hb
  cases ho
theorem KpL.setCell {n0 kx : Nat} {a w : World} (h : KpL n0 kx a w) (j : Nat) (v : Value) : KpL n0 kx a (w.setCell ⟨kx, j, none⟩ v) :=
  h.trans ⟨BelX.setCell (X := fun x => x = kx) (BelX.refl _ _ _) (p := ⟨kx, j, none⟩) (.inl rfl) v, fun b cur ty fr hb h1 _ => Below.heap_setCell _ _ _ _ h1⟩
theorem KpL.alloc {n0 kx : Nat} {a w : World} (h : KpL n0 kx a w) (hn : n0 ≤ w.heap.size) (o : Obj) : KpL n0 kx a (w.alloc o) := h.trans (KpL.of_below (below_alloc1 w o) hn)
theorem KpL.grown {n0 kx size n : Nat} {v : Value} {xs : List Value} {W W' : World} (ho : W.ownsRow n0 23 size v n xs) (hn : n0 ≤ W.heap.size) (hg : W.grownBy W' v.ownBlock) : KpL n0 kx W W' := by
  have key : ∀ j, v.ownBlock = some j → n0 ≤ j ∧ ∃ cur fr, W.heap[j]? = some (.cells cur 23 fr) := by
    intro j hj
    rcases ho.2 with ⟨rfl, _⟩ | ⟨g', cap, cur, rfl, hb, hh, _⟩
    · simp [Value.ownBlock] at hj
    · simp [Value.ownBlock] at hj
      subst hj; exact ⟨hb, _, _, hh⟩
  refine ⟨⟨hg.os, hg.tape, hg.output, hg.size, fun k hk _ => hg.block k (by omega) (fun e => by have := (key k e.symm).1; omega)⟩, fun b cur ty fr hb _ h2 => hg.block b (block_lt hb) (fun e => ?_)⟩; obtain ⟨_, cur', fr', h⟩ := key b e.symm; rw [hb] at h
  cases h
  exact h2 rfl
def gli (l : List (List Int)) (i : Nat) : List Int := l.getD i []
structure OutR (n0 : Nat) (v : Value) (ls : List (List Int)) (vals : List Value) (W : World) : Prop where
  own : W.ownsRow n0 23 1 v ls.length vals
  len : vals.length = ls.length
  at' : ∀ i, i < ls.length → ∃ q c, vals[i]? = some (.slice q (gli ls i).length c) ∧ (gli ls i = [] ∨ W.ownsRow n0 3 1 (.slice q (gli ls i).length c) (gli ls i).length (inV (gli ls i)))
def OutM (n0 bO : Nat) (ls : List (List Int)) (W : World) : Prop := ∃ v vals, W.heap[bO]? = some (.cells #[v] 90 (0, 0)) ∧ OutR n0 v ls vals W
theorem OutR.below {n0 : Nat} {v : Value} {ls : List (List Int)} {vals : List Value} {W W' : World} (h : OutR n0 v ls vals W) (hb : Below W.heap.size W W') : OutR n0 v ls vals W' :=
  ⟨own_kept h.own hb, h.len, fun i hi => by
    obtain ⟨q, c, h1, h2⟩ := h.at' i hi; exact ⟨q, c, h1, h2.imp id fun h => own_kept h hb⟩⟩
theorem OutM.below {n0 bO : Nat} {ls : List (List Int)} {W W' : World} (h : OutM n0 bO ls W) (hb : Below W.heap.size W W') : OutM n0 bO ls W' := by
  obtain ⟨v, vals, h1, h2⟩ := h; exact ⟨v, vals, (hb.block _ (block_lt h1)).trans h1, h2.below hb⟩
theorem gli_left {a : List (List Int)} {x : List Int} {i : Nat} (h : i < a.length) : gli (a ++ [x]) i = gli a i := by
  unfold gli; rw [List.getD_eq_getElem?_getD, List.getElem?_append_left h, ← List.getD_eq_getElem?_getD]
theorem gli_last (a : List (List Int)) (x : List Int) : gli (a ++ [x]) a.length = x := by
  unfold gli; rw [List.getD_eq_getElem?_getD, List.getElem?_append_right (Nat.le_refl _), Nat.sub_self]
  rfl
structure GoodL (g : List Int → Bool) (b : Nat) (l : List Int) : Prop where
  suit : g l = true
  inl : InL b l
  len : l.length ≤ b
def restL (f b : Nat) : List Int := (List.range' f (b - f)).map fun (n : Nat) => (n : Int)
theorem restL_nil (b : Nat) : restL b b = [] := by unfold restL; rw [Nat.sub_self]; rfl
theorem restL_cons {f b : Nat} (h : f < b) : restL f b = (f : Int) :: restL (f + 1) b := by
  unfold restL; rw [show b - f = (b - (f + 1)) + 1 by omega, List.range'_succ]
  rfl
theorem InL.snoc {f : Nat} {a : List Int} (h : InL f a) : InL (f + 1) (a ++ [(f : Int)]) := by
  intro j hj; rw [List.length_append] at hj
  rcases Nat.lt_or_ge j a.length with h1 | h1
  · have e : gi (a ++ [(f : Int)]) j = gi a j := by unfold gi; rw [List.getD_eq_getElem?_getD, List.getElem?_append_left h1, ← List.getD_eq_getElem?_getD]
    have := h j h1; rw [e]; omega
  · obtain rfl : j = a.length := by simp at hj; omega
    have e : gi (a ++ [(f : Int)]) a.length = f := by unfold gi; rw [List.getD_eq_getElem?_getD, List.getElem?_append_right (Nat.le_refl _), Nat.sub_self]; rfl
    rw [e]; omega
theorem InL.mono {f b : Nat} {a : List Int} (h : InL f a) (hb : f ≤ b) : InL b a := fun j hj => by have := h j hj; omega
theorem OutM.push {n0 bO : Nat} {v v' : Value} {ls : List (List Int)} {vals : List Value} {W W4 : World} {q : Option Addr} {c : Nat} {a : List Int} (h : OutR n0 v ls vals W) (hk : KpL n0 bO W W4) (hb : bO < n0) (hc : W4.heap[bO]? = some (.cells #[v'] 90 (0, 0)))
    (ho : W4.ownsRow n0 23 1 v' (ls.length + 1) (vals ++ [.slice q a.length c])) (ha : a = [] ∨ W4.ownsRow n0 3 1 (.slice q a.length c) a.length (inV a)) : OutM n0 bO (ls ++ [a]) W4 := by
  refine ⟨v', _, hc, by rw [List.length_append]; exact ho, by simp [h.len], fun i hi => ?_⟩; rw [List.length_append] at hi
  rcases Nat.lt_or_ge i ls.length with h1 | h1
  · obtain ⟨q1, c1, e1, e2⟩ := h.at' i h1
    rw [gli_left h1]; exact ⟨q1, c1, by rw [List.getElem?_append_left (by rw [h.len]; exact h1)]; exact e1, e2.imp id fun e => hk.own hb (by decide) e⟩
  · obtain rfl : i = ls.length := by simp at hi; omega
    rw [gli_last]; exact ⟨q, c, by rw [← h.len, List.getElem?_append_right (Nat.le_refl _), Nat.sub_self]; rfl, ha⟩
theorem pt1 (w : World) (B : Nat) (t : TypeId) (a x : Value) (h : w.heap[B]? = some (.cells #[a] t)) : ∃ w1, w.setCell ⟨B, 0, none⟩ x = w1 ∧ w.cell? ⟨B, 0, none⟩ = some a ∧ w.frozen? ⟨B, 0, none⟩ = false ∧
    w1.heap[B]? = some (.cells #[x] t) ∧ (∀ k, k ≠ B → w1.heap[k]? = w.heap[k]?) ∧ Hid (w1.heap.size = w.heap.size) ∧ (∀ W n0, KpL n0 B W w → KpL n0 B W w1) :=
  ⟨_, rfl, by rw [cell_of_row _ _ _ _ _ _ h]; rfl, frozen_of_row _ _ _ _ _ h, by rw [heap_setCell_same w B 0 _ t x h]; rfl, fun k hk => Below.heap_setCell _ _ _ k hk, Lib.hid (by simp), fun W n0 hb => hb.setCell 0 x⟩
structure Sm (bB bF bO bs bT bD b : Nat) (w0 W : World) : Prop where
  below : Below w0.heap.size w0 W
  kb : W.heap[bB]? = some (.cells #[.int .i64 b] 3 (0, 0))
  kf : W.heap[bF]? = some (.cells #[.func (.func 47) #[] #[.pointer (some ⟨bT, 0, none⟩), .pointer (some ⟨bD, 0, none⟩)]] 110 (0, 0))
  ks : W.heap[bs]? = some (.cells #[.func (.func 90) #[] #[.pointer (some ⟨bF, 0, none⟩), .pointer (some ⟨bO, 0, none⟩), .pointer (some ⟨bB, 0, none⟩), .pointer (some ⟨bs, 0, none⟩)]] 162 (0, 0))
structure SmK (n0 bB bF bO bs : Nat) (w0 : World) : Prop where
  nB : bB ≠ bO
  nF : bF ≠ bO
  ns : bs ≠ bO
  lt : bO < n0
  le : w0.heap.size ≤ bO
theorem Sm.kept {n0 bB bF bO bs bT bD b : Nat} {w0 W W' : World} (h : Sm bB bF bO bs bT bD b w0 W) (k : SmK n0 bB bF bO bs w0) (hk : KpL n0 bO W W') : Sm bB bF bO bs bT bD b w0 W' :=
  ⟨h.below.trans (hk.below (by have := k.le; exact this) (by have := k.le; have := k.lt; omega)), hk.keeps h.kb k.nB (by decide), hk.keeps h.kf k.nF (by decide), hk.keeps h.ks k.ns (by decide)⟩
end Go.Proofs.YtchclaipbahiiaaGreat
end

section
namespace Go.Proofs.YtchclaipbahiiaaGreat
open Go Go.RowKit Go.Proofs
set_option linter.unusedVariables false
set_option linter.unusedSimpArgs false
attribute [local go_sem] imax2 imin2
def pw (b n : Nat) : Nat := 2 ^ (b - n + 1)
theorem pw_succ {b n : Nat} (h : n < b) : pw b n = 2 * pw b (n + 1) := by
  unfold pw; rw [show b - n + 1 = (b - (n + 1) + 1) + 1 by omega, Nat.pow_succ]; omega
theorem pw_pos (b n : Nat) : 2 ≤ pw b n := by
  unfold pw; rw [Nat.pow_succ]; have := Nat.one_le_two_pow (n := b - n); omega
structure NxP (g : List Int → Bool) (a : List Int) (f n b : Nat) (more : List (List Int)) : Prop where
  self : g a = true → f = b → more ≠ []
  rest : g (a ++ restL f b) = true → f < n → more ≠ []
theorem NxP.next {g : List Int → Bool} {a : List Int} {f n b : Nat} {more more' : List (List Int)} (h : NxP g a f n b more) (hfn : f ≤ n) (hnb : n < b) (h2 : g (a ++ [(n : Int)] ++ restL (n + 1) b) = true → more' ≠ []) : NxP g a f (n + 1) b (more ++ more') := by
  refine ⟨fun hg e => by omega, fun hg _ => ?_⟩
  rcases Nat.lt_or_ge f n with h1 | h1
  · have := h.rest hg h1
    intro e; exact this (List.append_eq_nil_iff.1 e).1
  · obtain rfl : f = n := by omega
    rw [restL_cons hnb, show a ++ (f : Int) :: restL (f + 1) b = a ++ [(f : Int)] ++ restL (f + 1) b by simp] at hg; have := h2 hg; intro e; exact this (List.append_eq_nil_iff.1 e).2
theorem NxP.last {g : List Int → Bool} {a : List Int} {f b : Nat} {more : List (List Int)} (h : NxP g a f b b more) (hfb : f ≤ b) : g (a ++ restL f b) = true → more ≠ [] := by
  intro hg
  by_cases hf : f < b
  · exact h.rest hg hf
  · obtain rfl : f = b := by omega
    rw [restL_nil, List.append_nil] at hg; exact h.self hg rfl
def SoPost (n0 bO b : Nat) (g : List Int → Bool) (a : List Int) (f : Nat) (pre : List (List Int)) (W : World) (e : Ending) (W' : World) : Prop :=
  e = .returned (.tuple #[]) ∧ ∃ more, OutM n0 bO (pre ++ more) W' ∧ (∀ l ∈ more, GoodL g b l) ∧ (g (a ++ restL f b) = true → more ≠ []) ∧ KpL n0 bO W W' ∧ more.length ≤ pw b f
theorem infIl : (Tryz.prog.info? 23).map (fun i => (i.zero, i.size, i.bytes)) = some (some (.slice none 0 0), 1, 24) := by kernel_rfl
set_option maxHeartbeats 3200000 in
set_option maxRecDepth 100000 in
theorem x_node (n0 bB bF bO bs bT bD b : Nat) (w0 : World) (g : List Int → Bool) (hk : SmK n0 bB bF bO bs w0) (hb : b ≤ 6)
    (hg : ∀ W, Below w0.heap.size w0 W → ∀ (l : List Int) (q : Option Addr) (c : Nat), RdI W q l → InL b l → l.length ≤ b → Calls Tryz.prog 47 #[.slice q l.length c, .pointer (some ⟨bT, 0, none⟩), .pointer (some ⟨bD, 0, none⟩)] W fun e w' => e = .returned (.bool (g l)) ∧ Below W.heap.size W w')
    (a : List Int) (f : Nat) (q : Option Addr) (cq : Nat) (pre : List (List Int)) (W : World) (hf : f ≤ b) (ha : InL f a) (hal : a.length ≤ f) (hq : a = [] → q = none ∧ cq = 0) (ho : W.ownsRow n0 3 1 (.slice q a.length cq) a.length (inV a))
    (hW : Sm bB bF bO bs bT bD b w0 W) (hn0 : n0 ≤ W.heap.size) (hO : OutM n0 bO pre W) (hpl : pre.length + pw b f ≤ 1000)
    (ih : ∀ (a' : List Int) (f' : Nat) (q' : Option Addr) (cq' : Nat) (pre' : List (List Int)) (W' : World), f < f' → f' ≤ b → InL f' a' → a'.length ≤ f' → a' ≠ [] → W'.ownsRow n0 3 1 (.slice q' a'.length cq') a'.length (inV a') →
      Sm bB bF bO bs bT bD b w0 W' → n0 ≤ W'.heap.size → OutM n0 bO pre' W' → pre'.length + pw b f' ≤ 1000 →
      Calls Tryz.prog 90 #[.slice q' a'.length cq', .int .i64 f', .pointer (some ⟨bF, 0, none⟩), .pointer (some ⟨bO, 0, none⟩), .pointer (some ⟨bB, 0, none⟩), .pointer (some ⟨bs, 0, none⟩)] W' (SoPost n0 bO b g a' f' pre' W')) :
    Calls Tryz.prog 90 #[.slice q a.length cq, .int .i64 f, .pointer (some ⟨bF, 0, none⟩), .pointer (some ⟨bO, 0, none⟩), .pointer (some ⟨bB, 0, none⟩), .pointer (some ⟨bs, 0, none⟩)] W (SoPost n0 bO b g a f pre W) := by
  obtain ⟨i0, hi0, hz0, hz1, hz2⟩ := info_parts infI; obtain ⟨i1, hi1, hy0, hy1, hy2⟩ := info_parts infIl; have HK := Lib.hid hk; have HO := Lib.hid ho; have HW := Lib.hid hW; have HN0 := Lib.hid hn0; have HM := Lib.hid hO; have HA := Lib.hid (And.intro ha hal); have HQ := Lib.hid hq; have HPL := Lib.hid hpl; have HIH := Lib.hid ih; obtain ⟨q1, c1, hqe, hra⟩ := rd_of_own ho
  obtain ⟨rfl, rfl⟩ : q = q1 ∧ cq = c1 := by
    injection hqe with h1 h2 h3
    exact ⟨h1, h3⟩
  have HRA := Lib.hid hra; have hcl := hg W hW.below a q cq hra (ha.mono hf) (by omega); have kf := cl1 (show W.cell? ⟨bF, 0, none⟩ = _ from by rw [cell_of_row _ _ _ _ _ _ hW.kf]; rfl) W (Below.refl _ _); have hgu := hg; clear hk ho hW hn0 hO ha hal hq hpl ih hg hqe hra
  go_enter Tryz.func90, Tryz.ntmps90
  go_wp2_with fail; refine hcl.mono ?_; clear hcl kf; rintro e W1 ⟨rfl, b1⟩; have hk1 := KpL.of_below (kx := bO) b1 HN0.out; have HM1 := Lib.hid (HM.out.below b1); have HO1 := Lib.hid (own_kept HO.out b1)
  cases hga : g a with
  | true =>
    obtain ⟨v, vals, hv, hR⟩ := HM1.out; obtain ⟨W2, e2⟩ : ∃ X, W1.alloc (.cells #[.slice q a.length cq] 23) = X := ⟨_, rfl⟩; have bd := below_alloc1 W1 (.cells #[.slice q a.length cq] 23); have hnl := alloc_new W1 (.cells #[.slice q a.length cq] 23); rw [e2] at bd hnl; have hR2 := hR.below bd; have hv2 := (bd.block _ (block_lt hv)).trans hv; have kO := (show W1.cell? ⟨bO, 0, none⟩ = some v by rw [cell_of_row _ _ _ _ _ _ hv]; rfl); have hn1 : n0 ≤ W1.heap.size := Nat.le_trans HN0.out b1.size; have hn2 : n0 ≤ W2.heap.size := Nat.le_trans hn1 bd.size; have HR2 := Lib.hid hR2; have HV2 := Lib.hid hv2; have HN2 := Lib.hid hn2; have hk2 := hk1.trans (KpL.of_below (kx := bO) bd hn1); have HK2 := Lib.hid hk2; have HN1 := Lib.hid hn1; have HO2 := Lib.hid (own_kept HO1.out bd); have HNL := Lib.hid hnl; have HGA := Lib.hid (show GoodL g b a from ⟨hga, HA.out.1.mono hf, by have := HA.out.2; omega⟩)
    obtain ⟨L1, l1⟩ : ∃ X, W1.heap.size = X := ⟨_, rfl⟩; rw [l1] at HNL; clear b1 hk1 hk2 bd hnl hR hR2 hv hv2 hn1 hn2 hga; go_wp2_with (at_builtin; refine wpList_append_own _ rfl _ _ 90 rfl n0 23 i1 _ 1 24 Tryz.underlying90 hi1 hy0 hy1 hy2 rfl (by decide) v pre.length vals rfl HR2.out.own ⟨L1, 0, none⟩ 1 1 [.slice q a.length cq] rfl rfl ?c1 ?c2 ?c3 ?c4 ?c5 ?_)
    case c1 => exact World.news_of_block HNL.out
    case c2 => intro u hu; simp at hu; subst hu; rfl
    case c3 => have := HPL.out; have := pw_pos b f; unfold maxLen; omega
    case c4 => have := HPL.out; omega
    case c5 => exact HN2.out
    intro v' W3 hown' hgrow _; obtain ⟨g', cap', rfl⟩ := own_form hown'; have hx3 := (hgrow.block bO (block_lt HV2.out) (own_notE2 HV2.out HK.out.lt HR2.out.own)).trans HV2.out; have hk3 := HK2.out.trans (KpL.grown HR2.out.own HN2.out hgrow); have hk23 := KpL.grown (kx := bO) HR2.out.own HN2.out hgrow; obtain ⟨W4, s4, c4, f4, hx4, hxk, HZ, hxK⟩ := pt1 W3 bO 90 v (.slice (some ⟨g', 0, none⟩) (pre.length + 1) cap') hx3; have HK4 := Lib.hid (hxK _ _ hk3); have HK24 := Lib.hid (hxK _ _ hk23); have HM4 := Lib.hid (OutM.push HR2.out HK24.out HK.out.lt hx4 (own_same hown' (fun g'' hg'' => hxk g'' (by have := (hown'.lt g'' hg'').1; have := HK.out.lt; omega))) (.inr (HK24.out.own HK.out.lt (by decide) HO2.out))); have HG0 := Lib.hid (show ∀ l ∈ [a], GoodL g b l from fun l hl => by rw [List.mem_singleton] at hl; subst hl; exact HGA.out); have HN0' := Lib.hid (show NxP g a f f b [a] from ⟨fun _ _ => by simp, fun _ h => by omega⟩)
    clear hx3 hk3 hk23 hx4 hxk hxK hown' hgrow; go_wp2
    go_loopw [8] (fun v wr => ∃ (n : Nat) (more : List (List Int)), f ≤ n ∧ n ≤ b ∧ v = .int .i64 n ∧ Hid (OutM n0 bO (pre ++ more) wr) ∧ Hid (∀ l ∈ more, GoodL g b l) ∧ Hid (NxP g a f n b more) ∧ Hid (KpL n0 bO W wr) ∧ Hid (more.length + pw b n ≤ 1 + pw b f)) (fun v _ => b - (intOf v).toNat)
    case atStart => exact ⟨f, [a], Nat.le_refl _, hf, rfl, HM4, HG0, HN0', HK4, Lib.hid (by simp <;> omega)⟩
    case round =>
      obtain ⟨n, more, hfn, hnb, rfl, HMR, HGM, HNP, HKR, HLM⟩ := hrel; have HWR := Lib.hid (HW.out.kept HK.out HKR.out); have kb : wr.cell? ⟨bB, 0, none⟩ = some (.int .i64 b) := by rw [cell_of_row _ _ _ _ _ _ HWR.out.kb]; rfl
      by_cases hlt : n < b
      · have hltI : decide ((n : Int) < (b : Int)) = true := decide_eq_true (by omega)
        have hkI : (n : Int) < (b : Int) := by omega
        have hwn : IntKind.i64.wrap ((n : Int) + 1) = (n : Int) + 1 := w64 _ (by omega) (by omega); have HAN := Lib.hid ((HA.out.1.mono hfn).snoc); have HPW := Lib.hid (pw_succ hlt); have HPW1 := Lib.hid (pw_pos b (n + 1)); have HNW := Lib.hid (Nat.le_trans HN0.out HKR.out.1.size); have HOR := Lib.hid (HKR.out.own HK.out.lt (by decide) HO.out); have HNX := Lib.hid (fun more' h => HNP.out.next (b := b) hfn hlt (more' := more') h); obtain ⟨q1, c1, hqe, hra⟩ := rd_of_own HOR.out
        obtain ⟨rfl, rfl⟩ : q = q1 ∧ cq = c1 := by
          injection hqe with h1 h2 h3
          exact ⟨h1, h3⟩
        have HRA := Lib.hid hra; have kS : wr.cell? ⟨bs, 0, none⟩ = some (.func (.func 90) #[] #[.pointer (some ⟨bF, 0, none⟩), .pointer (some ⟨bO, 0, none⟩), .pointer (some ⟨bB, 0, none⟩), .pointer (some ⟨bs, 0, none⟩)]) := by rw [cell_of_row _ _ _ _ _ _ HWR.out.ks]; rfl
        have HSK := Lib.hid (show ∀ X, KpL n0 bO wr X → X.cell? ⟨bs, 0, none⟩ = some (.func (.func 90) #[] #[.pointer (some ⟨bF, 0, none⟩), .pointer (some ⟨bO, 0, none⟩), .pointer (some ⟨bB, 0, none⟩), .pointer (some ⟨bs, 0, none⟩)]) from fun X hX => by rw [cell_of_row _ _ _ _ _ _ (HWR.out.kept HK.out hX).ks]; rfl); clear hqe hra; go_wp2_with fail; refine held1 kS (fun W0 hb0 => ?_); have HB0 := Lib.hid hb0; clear hb0 kS kb; refine tk 0 rfl (by exact HSK.out _ (KpL.of_below HB0.out HNW.out)) ?_; (try simp only [Act.put, ptL]); refine tk 1 rfl (by exact HSK.out _ (KpL.of_below HB0.out HNW.out)) ?_; (try simp only [Act.put, ptL]); refine tk 3 rfl (by exact HSK.out _ (KpL.of_below HB0.out HNW.out)) ?_; (try simp only [Act.put, ptL]); refine tk 6 rfl (by exact HSK.out _ (KpL.of_below HB0.out HNW.out)) ?_; (try simp only [Act.put, ptL]); refine tk 7 rfl (by exact HSK.out _ (KpL.of_below HB0.out HNW.out)) ?_; (try simp only [Act.put, ptL])
        refine rz2 2 4 rfl rfl ?_ ?_
        · intro K hK
          go_simp; refine (c_Clone_any q cq a W0 (HRA.out.below HB0.out) (by have := HA.out.2; omega) HQ.out).mono ?_; rintro e wb ⟨v1, rfl, hov, hbv⟩; have HBb := Lib.hid (HB0.out.trans (hbv.mono HB0.out.size)); have HOb := Lib.hid hov; have HZb := Lib.hid hbv.size; clear hov hbv; refine kz hK (by exact HSK.out _ (KpL.of_below HBb.out HNW.out)) ?_; clear hK K; (try simp only [Act.put, ptL]); refine rz1 4 rfl ?_; intro K hK; go_simp; obtain ⟨w4, e4⟩ : ∃ X, wb.alloc (.cells #[.int .i64 n] 3) = X := ⟨_, rfl⟩; have bd := below_alloc1 wb (.cells #[.int .i64 n] 3); have hnl := alloc_new wb (.cells #[.int .i64 n] 3); rw [e4] at bd hnl; have HBV := Lib.hid (HBb.out.trans (bd.mono HBb.out.size)); have HOV := Lib.hid (own_kept HOb.out bd); obtain ⟨L4, l4⟩ : ∃ X, wb.heap.size = X := ⟨_, rfl⟩; rw [l4] at hnl; have HNL := Lib.hid hnl; have HZV := Lib.hid (show W0.heap.size ≤ w4.heap.size from Nat.le_trans HZb.out bd.size)
          (try rw [l4]); rw [e4]; clear l4 e4 bd hnl
          refine kz hK (by exact HSK.out _ (KpL.of_below HBV.out HNW.out)) ?_; clear hK K; (try simp only [Act.put, ptL]); refine rz1 5 rfl ?_; intro K hK; refine step_append_lies _ rfl _ _ 23 rfl W0.heap.size 3 i0 _ 1 8 Tryz.underlying23 hi0 hz0 hz1 hz2 rfl (by decide) v1 a.length (inV a) rfl HOV.out ⟨L4, 0, none⟩ 1 1 [.int .i64 n] rfl rfl (World.news_of_block HNL.out) (by intro u hu; simp at hu; subst hu; rfl) (by decide) (by have := HA.out.2; unfold maxLen; omega) (by have := HA.out.2; omega) (by exact HZV.out) _ rfl ?_; intro g5 cap5 w5 hown' hgrow _ _; have HB5 := Lib.hid (HBV.out.grown hgrow HBV.out.size (fun j hj => Nat.le_trans HB0.out.size (HOV.out.lt j hj).1)); have HK5 := Lib.hid (KpL.of_below (kx := bO) HB5.out HNW.out); have HO5 := Lib.hid (show w5.ownsRow n0 3 1 (.slice (some ⟨g5, 0, none⟩) (a.length + 1) cap5) (a.length + 1) (inV (a ++ [(n : Int)])) by rw [← gi_self]; exact own_mono hown' (Nat.le_trans HNW.out HB0.out.size))
          clear hown' hgrow; refine kz hK (by exact HSK.out _ HK5.out) ?_; clear hK K; (try simp only [Act.put, ptL]); refine rz1 8 rfl ?_; intro K hK; go_simp; have hih := HIH.out (a ++ [(n : Int)]) (n + 1) (some ⟨g5, 0, none⟩) cap5 (pre ++ more) w5 (by omega) (by omega) HAN.out (by rw [List.length_append]; simp; have := HA.out.2; omega) (by simp) (by rw [List.length_append]; exact HO5.out) (HWR.out.kept HK.out HK5.out) (Nat.le_trans HNW.out HB5.out.size) (HMR.out.below HB5.out) (by have := HPW.out; have := HLM.out; have := HPL.out; have := HPW1.out; rw [List.length_append]; unfold pw at *; omega); rw [show (a ++ [(n : Int)]).length = a.length + 1 by simp] at hih; refine hih.mono ?_; clear hih; rintro e w6 ⟨rfl, more', hm1, hm2, hm3, hm4, hm5⟩; have HM1 := Lib.hid hm1; have HM2 := Lib.hid hm2; have HM3 := Lib.hid hm3; have HM4 := Lib.hid (HKR.out.trans (HK5.out.trans hm4)); have HM5 := Lib.hid hm5
          have HS6 := Lib.hid (HSK.out w6 (HK5.out.trans hm4)); clear hm1 hm2 hm3 hm4 hm5; refine kz hK (by exact HS6.out) ?_; clear hK K; (try simp only [Act.put, ptL]); refine wpAnyH_done (by kernel_rfl) ?_ _; go_wp2; go_roundw
          case rel => exact ⟨n + 1, more ++ more', by omega, by omega, by go_num, Lib.hid (by rw [← List.append_assoc]; exact HM1.out), Lib.hid (fun l hl => (List.mem_append.1 hl).elim (HGM.out l) (HM2.out l)), Lib.hid (HNX.out more' HM3.out), HM4, Lib.hid (by have := HPW.out; have := HLM.out; have := HM5.out; rw [List.length_append]; unfold pw at *; omega)⟩
          case measure => simp [intOf]; omega
        · intro K hK
          go_simp; obtain ⟨w4, e4⟩ : ∃ X, W0.alloc (.cells #[.int .i64 n] 3) = X := ⟨_, rfl⟩; have bd := below_alloc1 W0 (.cells #[.int .i64 n] 3); have hnl := alloc_new W0 (.cells #[.int .i64 n] 3); rw [e4] at bd hnl; have HB4 := Lib.hid (HB0.out.trans (bd.mono HB0.out.size)); obtain ⟨L4, l4⟩ : ∃ X, W0.heap.size = X := ⟨_, rfl⟩; rw [l4] at hnl; have HNL4 := Lib.hid hnl
          (try rw [l4]); rw [e4]; clear l4 e4 bd hnl
          refine kz hK (by exact HSK.out _ (KpL.of_below HB4.out HNW.out)) ?_; clear hK K; (try simp only [Act.put, ptL]); refine rz1 2 rfl ?_; intro K hK; go_simp; refine (c_Clone_any q cq a w4 (HRA.out.below HB4.out) (by have := HA.out.2; omega) HQ.out).mono ?_; rintro e wb ⟨v1, rfl, hov, hbv⟩; have HBV := Lib.hid (HB4.out.trans (hbv.mono HB4.out.size)); have HOV := Lib.hid hov; have HNL := Lib.hid ((hbv.block _ (block_lt HNL4.out)).trans HNL4.out); have HZV := Lib.hid hbv.size; clear hov hbv; refine kz hK (by exact HSK.out _ (KpL.of_below HBV.out HNW.out)) ?_; clear hK K; (try simp only [Act.put, ptL]); refine rz1 5 rfl ?_; intro K hK; refine step_append_lies _ rfl _ _ 23 rfl w4.heap.size 3 i0 _ 1 8 Tryz.underlying23 hi0 hz0 hz1 hz2 rfl (by decide) v1 a.length (inV a) rfl HOV.out ⟨L4, 0, none⟩ 1 1 [.int .i64 n] rfl rfl (World.news_of_block HNL.out) (by intro u hu; simp at hu; subst hu; rfl) (by decide) (by have := HA.out.2; unfold maxLen; omega) (by have := HA.out.2; omega) (by exact HZV.out) _ rfl ?_
          intro g5 cap5 w5 hown' hgrow _ _; have HB5 := Lib.hid (HBV.out.grown hgrow HBV.out.size (fun j hj => Nat.le_trans HB4.out.size (HOV.out.lt j hj).1)); have HK5 := Lib.hid (KpL.of_below (kx := bO) HB5.out HNW.out); have HO5 := Lib.hid (show w5.ownsRow n0 3 1 (.slice (some ⟨g5, 0, none⟩) (a.length + 1) cap5) (a.length + 1) (inV (a ++ [(n : Int)])) by rw [← gi_self]; exact own_mono hown' (Nat.le_trans HNW.out HB4.out.size)); clear hown' hgrow; refine kz hK (by exact HSK.out _ HK5.out) ?_; clear hK K; (try simp only [Act.put, ptL]); refine rz1 8 rfl ?_; intro K hK; go_simp; have hih := HIH.out (a ++ [(n : Int)]) (n + 1) (some ⟨g5, 0, none⟩) cap5 (pre ++ more) w5 (by omega) (by omega) HAN.out (by rw [List.length_append]; simp; have := HA.out.2; omega) (by simp) (by rw [List.length_append]; exact HO5.out) (HWR.out.kept HK.out HK5.out) (Nat.le_trans HNW.out HB5.out.size) (HMR.out.below HB5.out) (by have := HPW.out; have := HLM.out; have := HPL.out; have := HPW1.out; rw [List.length_append]; unfold pw at *; omega)
          rw [show (a ++ [(n : Int)]).length = a.length + 1 by simp] at hih; refine hih.mono ?_; clear hih; rintro e w6 ⟨rfl, more', hm1, hm2, hm3, hm4, hm5⟩; have HM1 := Lib.hid hm1; have HM2 := Lib.hid hm2; have HM3 := Lib.hid hm3; have HM4 := Lib.hid (HKR.out.trans (HK5.out.trans hm4)); have HM5 := Lib.hid hm5; have HS6 := Lib.hid (HSK.out w6 (HK5.out.trans hm4)); clear hm1 hm2 hm3 hm4 hm5; refine kz hK (by exact HS6.out) ?_; clear hK K; (try simp only [Act.put, ptL]); refine wpAnyH_done (by kernel_rfl) ?_ _; go_wp2; go_roundw
          case rel => exact ⟨n + 1, more ++ more', by omega, by omega, by go_num, Lib.hid (by rw [← List.append_assoc]; exact HM1.out), Lib.hid (fun l hl => (List.mem_append.1 hl).elim (HGM.out l) (HM2.out l)), Lib.hid (HNX.out more' HM3.out), HM4, Lib.hid (by have := HPW.out; have := HLM.out; have := HM5.out; rw [List.length_append]; unfold pw at *; omega)⟩
          case measure => simp [intOf]; omega
      · obtain rfl : n = b := by omega
        have hltI : decide ((n : Int) < (n : Int)) = false := by simp
        have HFIN := Lib.hid (HNP.out.last hfn); go_wp2; refine bodyPost_ret (v := .tuple #[]) (by simp [results, Tryz.results90, go_sem]) rfl ?_; exact ⟨rfl, more, HMR.out, HGM.out, HFIN.out, HKR.out, by have := HLM.out; have := pw_pos n n; unfold pw at *; omega⟩
  | false =>
    have HK4 := Lib.hid hk1; have HM4 := Lib.hid (show OutM n0 bO (pre ++ []) W1 by rw [List.append_nil]; exact HM1.out); have HG0 := Lib.hid (show ∀ l ∈ ([] : List (List Int)), GoodL g b l from fun l hl => by cases hl); have HN0' := Lib.hid (show NxP g a f f b [] from ⟨fun h _ => absurd h (by rw [hga]; decide), fun _ h => by omega⟩); clear b1 hk1 hga; go_wp2
    go_loopw [8] (fun v wr => ∃ (n : Nat) (more : List (List Int)), f ≤ n ∧ n ≤ b ∧ v = .int .i64 n ∧ Hid (OutM n0 bO (pre ++ more) wr) ∧ Hid (∀ l ∈ more, GoodL g b l) ∧ Hid (NxP g a f n b more) ∧ Hid (KpL n0 bO W wr) ∧ Hid (more.length + pw b n ≤ 1 + pw b f)) (fun v _ => b - (intOf v).toNat)
    case atStart => exact ⟨f, [], Nat.le_refl _, hf, rfl, HM4, HG0, HN0', HK4, Lib.hid (by simp <;> omega)⟩
    case round =>
      obtain ⟨n, more, hfn, hnb, rfl, HMR, HGM, HNP, HKR, HLM⟩ := hrel; have HWR := Lib.hid (HW.out.kept HK.out HKR.out); have kb : wr.cell? ⟨bB, 0, none⟩ = some (.int .i64 b) := by rw [cell_of_row _ _ _ _ _ _ HWR.out.kb]; rfl
      by_cases hlt : n < b
      · have hltI : decide ((n : Int) < (b : Int)) = true := decide_eq_true (by omega)
        have hkI : (n : Int) < (b : Int) := by omega
        have hwn : IntKind.i64.wrap ((n : Int) + 1) = (n : Int) + 1 := w64 _ (by omega) (by omega); have HAN := Lib.hid ((HA.out.1.mono hfn).snoc); have HPW := Lib.hid (pw_succ hlt); have HPW1 := Lib.hid (pw_pos b (n + 1)); have HNW := Lib.hid (Nat.le_trans HN0.out HKR.out.1.size); have HOR := Lib.hid (HKR.out.own HK.out.lt (by decide) HO.out); have HNX := Lib.hid (fun more' h => HNP.out.next (b := b) hfn hlt (more' := more') h); obtain ⟨q1, c1, hqe, hra⟩ := rd_of_own HOR.out
        obtain ⟨rfl, rfl⟩ : q = q1 ∧ cq = c1 := by
          injection hqe with h1 h2 h3
          exact ⟨h1, h3⟩
        have HRA := Lib.hid hra; have kS : wr.cell? ⟨bs, 0, none⟩ = some (.func (.func 90) #[] #[.pointer (some ⟨bF, 0, none⟩), .pointer (some ⟨bO, 0, none⟩), .pointer (some ⟨bB, 0, none⟩), .pointer (some ⟨bs, 0, none⟩)]) := by rw [cell_of_row _ _ _ _ _ _ HWR.out.ks]; rfl
        have HSK := Lib.hid (show ∀ X, KpL n0 bO wr X → X.cell? ⟨bs, 0, none⟩ = some (.func (.func 90) #[] #[.pointer (some ⟨bF, 0, none⟩), .pointer (some ⟨bO, 0, none⟩), .pointer (some ⟨bB, 0, none⟩), .pointer (some ⟨bs, 0, none⟩)]) from fun X hX => by rw [cell_of_row _ _ _ _ _ _ (HWR.out.kept HK.out hX).ks]; rfl); clear hqe hra; go_wp2_with fail; refine held1 kS (fun W0 hb0 => ?_); have HB0 := Lib.hid hb0; clear hb0 kS kb; refine tk 0 rfl (by exact HSK.out _ (KpL.of_below HB0.out HNW.out)) ?_; (try simp only [Act.put, ptL]); refine tk 1 rfl (by exact HSK.out _ (KpL.of_below HB0.out HNW.out)) ?_; (try simp only [Act.put, ptL]); refine tk 3 rfl (by exact HSK.out _ (KpL.of_below HB0.out HNW.out)) ?_; (try simp only [Act.put, ptL]); refine tk 6 rfl (by exact HSK.out _ (KpL.of_below HB0.out HNW.out)) ?_; (try simp only [Act.put, ptL]); refine tk 7 rfl (by exact HSK.out _ (KpL.of_below HB0.out HNW.out)) ?_; (try simp only [Act.put, ptL])
        refine rz2 2 4 rfl rfl ?_ ?_
        · intro K hK
          go_simp; refine (c_Clone_any q cq a W0 (HRA.out.below HB0.out) (by have := HA.out.2; omega) HQ.out).mono ?_; rintro e wb ⟨v1, rfl, hov, hbv⟩; have HBb := Lib.hid (HB0.out.trans (hbv.mono HB0.out.size)); have HOb := Lib.hid hov; have HZb := Lib.hid hbv.size; clear hov hbv; refine kz hK (by exact HSK.out _ (KpL.of_below HBb.out HNW.out)) ?_; clear hK K; (try simp only [Act.put, ptL]); refine rz1 4 rfl ?_; intro K hK; go_simp; obtain ⟨w4, e4⟩ : ∃ X, wb.alloc (.cells #[.int .i64 n] 3) = X := ⟨_, rfl⟩; have bd := below_alloc1 wb (.cells #[.int .i64 n] 3); have hnl := alloc_new wb (.cells #[.int .i64 n] 3); rw [e4] at bd hnl; have HBV := Lib.hid (HBb.out.trans (bd.mono HBb.out.size)); have HOV := Lib.hid (own_kept HOb.out bd); obtain ⟨L4, l4⟩ : ∃ X, wb.heap.size = X := ⟨_, rfl⟩; rw [l4] at hnl; have HNL := Lib.hid hnl; have HZV := Lib.hid (show W0.heap.size ≤ w4.heap.size from Nat.le_trans HZb.out bd.size)
          (try rw [l4]); rw [e4]; clear l4 e4 bd hnl
          refine kz hK (by exact HSK.out _ (KpL.of_below HBV.out HNW.out)) ?_; clear hK K; (try simp only [Act.put, ptL]); refine rz1 5 rfl ?_; intro K hK; refine step_append_lies _ rfl _ _ 23 rfl W0.heap.size 3 i0 _ 1 8 Tryz.underlying23 hi0 hz0 hz1 hz2 rfl (by decide) v1 a.length (inV a) rfl HOV.out ⟨L4, 0, none⟩ 1 1 [.int .i64 n] rfl rfl (World.news_of_block HNL.out) (by intro u hu; simp at hu; subst hu; rfl) (by decide) (by have := HA.out.2; unfold maxLen; omega) (by have := HA.out.2; omega) (by exact HZV.out) _ rfl ?_; intro g5 cap5 w5 hown' hgrow _ _; have HB5 := Lib.hid (HBV.out.grown hgrow HBV.out.size (fun j hj => Nat.le_trans HB0.out.size (HOV.out.lt j hj).1)); have HK5 := Lib.hid (KpL.of_below (kx := bO) HB5.out HNW.out); have HO5 := Lib.hid (show w5.ownsRow n0 3 1 (.slice (some ⟨g5, 0, none⟩) (a.length + 1) cap5) (a.length + 1) (inV (a ++ [(n : Int)])) by rw [← gi_self]; exact own_mono hown' (Nat.le_trans HNW.out HB0.out.size))
          clear hown' hgrow; refine kz hK (by exact HSK.out _ HK5.out) ?_; clear hK K; (try simp only [Act.put, ptL]); refine rz1 8 rfl ?_; intro K hK; go_simp; have hih := HIH.out (a ++ [(n : Int)]) (n + 1) (some ⟨g5, 0, none⟩) cap5 (pre ++ more) w5 (by omega) (by omega) HAN.out (by rw [List.length_append]; simp; have := HA.out.2; omega) (by simp) (by rw [List.length_append]; exact HO5.out) (HWR.out.kept HK.out HK5.out) (Nat.le_trans HNW.out HB5.out.size) (HMR.out.below HB5.out) (by have := HPW.out; have := HLM.out; have := HPL.out; have := HPW1.out; rw [List.length_append]; unfold pw at *; omega); rw [show (a ++ [(n : Int)]).length = a.length + 1 by simp] at hih; refine hih.mono ?_; clear hih; rintro e w6 ⟨rfl, more', hm1, hm2, hm3, hm4, hm5⟩; have HM1 := Lib.hid hm1; have HM2 := Lib.hid hm2; have HM3 := Lib.hid hm3; have HM4 := Lib.hid (HKR.out.trans (HK5.out.trans hm4)); have HM5 := Lib.hid hm5
          have HS6 := Lib.hid (HSK.out w6 (HK5.out.trans hm4)); clear hm1 hm2 hm3 hm4 hm5; refine kz hK (by exact HS6.out) ?_; clear hK K; (try simp only [Act.put, ptL]); refine wpAnyH_done (by kernel_rfl) ?_ _; go_wp2; go_roundw
          case rel => exact ⟨n + 1, more ++ more', by omega, by omega, by go_num, Lib.hid (by rw [← List.append_assoc]; exact HM1.out), Lib.hid (fun l hl => (List.mem_append.1 hl).elim (HGM.out l) (HM2.out l)), Lib.hid (HNX.out more' HM3.out), HM4, Lib.hid (by have := HPW.out; have := HLM.out; have := HM5.out; rw [List.length_append]; unfold pw at *; omega)⟩
          case measure => simp [intOf]; omega
        · intro K hK
          go_simp; obtain ⟨w4, e4⟩ : ∃ X, W0.alloc (.cells #[.int .i64 n] 3) = X := ⟨_, rfl⟩; have bd := below_alloc1 W0 (.cells #[.int .i64 n] 3); have hnl := alloc_new W0 (.cells #[.int .i64 n] 3); rw [e4] at bd hnl; have HB4 := Lib.hid (HB0.out.trans (bd.mono HB0.out.size)); obtain ⟨L4, l4⟩ : ∃ X, W0.heap.size = X := ⟨_, rfl⟩; rw [l4] at hnl; have HNL4 := Lib.hid hnl
          (try rw [l4]); rw [e4]; clear l4 e4 bd hnl
          refine kz hK (by exact HSK.out _ (KpL.of_below HB4.out HNW.out)) ?_; clear hK K; (try simp only [Act.put, ptL]); refine rz1 2 rfl ?_; intro K hK; go_simp; refine (c_Clone_any q cq a w4 (HRA.out.below HB4.out) (by have := HA.out.2; omega) HQ.out).mono ?_; rintro e wb ⟨v1, rfl, hov, hbv⟩; have HBV := Lib.hid (HB4.out.trans (hbv.mono HB4.out.size)); have HOV := Lib.hid hov; have HNL := Lib.hid ((hbv.block _ (block_lt HNL4.out)).trans HNL4.out); have HZV := Lib.hid hbv.size; clear hov hbv; refine kz hK (by exact HSK.out _ (KpL.of_below HBV.out HNW.out)) ?_; clear hK K; (try simp only [Act.put, ptL]); refine rz1 5 rfl ?_; intro K hK; refine step_append_lies _ rfl _ _ 23 rfl w4.heap.size 3 i0 _ 1 8 Tryz.underlying23 hi0 hz0 hz1 hz2 rfl (by decide) v1 a.length (inV a) rfl HOV.out ⟨L4, 0, none⟩ 1 1 [.int .i64 n] rfl rfl (World.news_of_block HNL.out) (by intro u hu; simp at hu; subst hu; rfl) (by decide) (by have := HA.out.2; unfold maxLen; omega) (by have := HA.out.2; omega) (by exact HZV.out) _ rfl ?_
          intro g5 cap5 w5 hown' hgrow _ _; have HB5 := Lib.hid (HBV.out.grown hgrow HBV.out.size (fun j hj => Nat.le_trans HB4.out.size (HOV.out.lt j hj).1)); have HK5 := Lib.hid (KpL.of_below (kx := bO) HB5.out HNW.out); have HO5 := Lib.hid (show w5.ownsRow n0 3 1 (.slice (some ⟨g5, 0, none⟩) (a.length + 1) cap5) (a.length + 1) (inV (a ++ [(n : Int)])) by rw [← gi_self]; exact own_mono hown' (Nat.le_trans HNW.out HB4.out.size)); clear hown' hgrow; refine kz hK (by exact HSK.out _ HK5.out) ?_; clear hK K; (try simp only [Act.put, ptL]); refine rz1 8 rfl ?_; intro K hK; go_simp; have hih := HIH.out (a ++ [(n : Int)]) (n + 1) (some ⟨g5, 0, none⟩) cap5 (pre ++ more) w5 (by omega) (by omega) HAN.out (by rw [List.length_append]; simp; have := HA.out.2; omega) (by simp) (by rw [List.length_append]; exact HO5.out) (HWR.out.kept HK.out HK5.out) (Nat.le_trans HNW.out HB5.out.size) (HMR.out.below HB5.out) (by have := HPW.out; have := HLM.out; have := HPL.out; have := HPW1.out; rw [List.length_append]; unfold pw at *; omega)
          rw [show (a ++ [(n : Int)]).length = a.length + 1 by simp] at hih; refine hih.mono ?_; clear hih; rintro e w6 ⟨rfl, more', hm1, hm2, hm3, hm4, hm5⟩; have HM1 := Lib.hid hm1; have HM2 := Lib.hid hm2; have HM3 := Lib.hid hm3; have HM4 := Lib.hid (HKR.out.trans (HK5.out.trans hm4)); have HM5 := Lib.hid hm5; have HS6 := Lib.hid (HSK.out w6 (HK5.out.trans hm4)); clear hm1 hm2 hm3 hm4 hm5; refine kz hK (by exact HS6.out) ?_; clear hK K; (try simp only [Act.put, ptL]); refine wpAnyH_done (by kernel_rfl) ?_ _; go_wp2; go_roundw
          case rel => exact ⟨n + 1, more ++ more', by omega, by omega, by go_num, Lib.hid (by rw [← List.append_assoc]; exact HM1.out), Lib.hid (fun l hl => (List.mem_append.1 hl).elim (HGM.out l) (HM2.out l)), Lib.hid (HNX.out more' HM3.out), HM4, Lib.hid (by have := HPW.out; have := HLM.out; have := HM5.out; rw [List.length_append]; unfold pw at *; omega)⟩
          case measure => simp [intOf]; omega
      · obtain rfl : n = b := by omega
        have hltI : decide ((n : Int) < (n : Int)) = false := by simp
        have HFIN := Lib.hid (HNP.out.last hfn); go_wp2; refine bodyPost_ret (v := .tuple #[]) (by simp [results, Tryz.results90, go_sem]) rfl ?_; exact ⟨rfl, more, HMR.out, HGM.out, HFIN.out, HKR.out, by have := HLM.out; have := pw_pos n n; unfold pw at *; omega⟩
end Go.Proofs.YtchclaipbahiiaaGreat
end

section
namespace Go.Proofs.YtchclaipbahiiaaGreat
open Go Go.RowKit Go.Proofs Go.Shelf
set_option linter.unusedVariables false
set_option linter.unusedSimpArgs false
attribute [local go_sem] imax2 imin2
theorem x_search (n0 bB bF bO bs bT bD b : Nat) (w0 : World) (g : List Int → Bool) (hk : SmK n0 bB bF bO bs w0) (hb : b ≤ 6)
    (hg : ∀ W, Below w0.heap.size w0 W → ∀ (l : List Int) (q : Option Addr) (c : Nat), RdI W q l → InL b l → l.length ≤ b → Calls Tryz.prog 47 #[.slice q l.length c, .pointer (some ⟨bT, 0, none⟩), .pointer (some ⟨bD, 0, none⟩)] W fun e w' => e = .returned (.bool (g l)) ∧ Below W.heap.size W w') :
    ∀ (d : Nat) (a : List Int) (f : Nat) (q : Option Addr) (cq : Nat) (pre : List (List Int)) (W : World), b - f ≤ d → f ≤ b → InL f a → a.length ≤ f → (a = [] → q = none ∧ cq = 0) → W.ownsRow n0 3 1 (.slice q a.length cq) a.length (inV a) →
      Sm bB bF bO bs bT bD b w0 W → n0 ≤ W.heap.size → OutM n0 bO pre W → pre.length + pw b f ≤ 1000 →
      Calls Tryz.prog 90 #[.slice q a.length cq, .int .i64 f, .pointer (some ⟨bF, 0, none⟩), .pointer (some ⟨bO, 0, none⟩), .pointer (some ⟨bB, 0, none⟩), .pointer (some ⟨bs, 0, none⟩)] W (SoPost n0 bO b g a f pre W) := by
  intro d
  induction d with
  | zero =>
    intro a f q cq pre W hd hf ha hal hq ho hW hn0 hO hp; exact x_node n0 bB bF bO bs bT bD b w0 g hk hb hg a f q cq pre W hf ha hal hq ho hW hn0 hO hp (fun a' f' q' cq' pre' W' h1 h2 => by omega)
  | succ d ih =>
    intro a f q cq pre W hd hf ha hal hq ho hW hn0 hO hp; exact x_node n0 bB bF bO bs bT bD b w0 g hk hb hg a f q cq pre W hf ha hal hq ho hW hn0 hO hp (fun a' f' q' cq' pre' W' h1 h2 h3 h4 h5 h6 h7 h8 h9 h10 => ih a' f' q' cq' pre' W' (by omega) h2 h3 h4 (fun e => absurd e h5) h6 h7 h8 h9 h10)
def RdLl (w : World) (p : Option Addr) (ls : List (List Int)) : Prop :=
  ls = [] ∨ ∃ b off, p = some ⟨b, off, none⟩ ∧ ∀ i, i < ls.length → ∃ q c, w.cell? ⟨b, off + i, none⟩ = some (.slice q (gli ls i).length c) ∧ RdI w q (gli ls i)
theorem RdLl.at {w : World} {p : Option Addr} {ls : List (List Int)} (h : RdLl w p ls) {i : Nat} (hi : i < ls.length) :
    ∃ b off, p = some ⟨b, off, none⟩ ∧ ∀ i, i < ls.length → ∃ q c, w.cell? ⟨b, off + i, none⟩ = some (.slice q (gli ls i).length c) ∧ RdI w q (gli ls i) := by
  rcases h with h | h
  · subst h; simp at hi
  · exact h
theorem RdLl.below {w w' : World} {p : Option Addr} {ls : List (List Int)} (h : RdLl w p ls) (hb : Below w.heap.size w w') : RdLl w' p ls := by
  rcases h with h | ⟨b, off, e, hc⟩
  · exact .inl h
  · refine .inr ⟨b, off, e, fun i hi => ?_⟩
    obtain ⟨q, c, h1, h2⟩ := hc i hi; exact ⟨q, c, (hb.cell (lt_of_cellq h1)).trans h1, h2.below hb⟩
theorem OutR.rd {n0 : Nat} {v : Value} {ls : List (List Int)} {vals : List Value} {W : World} (h : OutR n0 v ls vals W) : ∃ p c, v = .slice p ls.length c ∧ RdLl W p ls := by
  rcases h.own.2 with ⟨rfl, e⟩ | ⟨g, cap, cur, rfl, _⟩
  · have : ls = [] := List.length_eq_zero_iff.1 e
    subst this; exact ⟨none, 0, rfl, .inl rfl⟩
  · refine ⟨_, _, rfl, .inr ⟨g, 0, rfl, fun i hi => ?_⟩⟩
    obtain ⟨q, c, h1, h2⟩ := h.at' i hi; have := h.own.cells (g := g) rfl i _ h1; rw [add_new] at this; refine ⟨q, c, by rw [Nat.zero_add]; exact this, ?_⟩
    rcases h2 with e | ho
    · exact .inl e
    · obtain ⟨q1, c1, e, hr⟩ := rd_of_own ho
      injection e with e1 e2 e3
      rw [e1]; exact hr
def SomPost (b : Nat) (g : List Int → Bool) (w : World) (e : Ending) (w' : World) : Prop := ∃ p c ls, e = .returned (.slice p (List.length ls) c) ∧ RdLl w' p ls ∧ (∀ l ∈ ls, GoodL g b l) ∧ (g (restL 0 b) = true → ls ≠ []) ∧ ls.length ≤ 1000 ∧ Below w.heap.size w w'
set_option maxHeartbeats 1600000 in
set_option maxRecDepth 100000 in
theorem x_some (bT bD b : Nat) (w : World) (g : List Int → Bool) (hb : b ≤ 6)
    (hg : ∀ W, Below w.heap.size w W → ∀ (l : List Int) (q : Option Addr) (c : Nat), RdI W q l → InL b l → l.length ≤ b → Calls Tryz.prog 47 #[.slice q l.length c, .pointer (some ⟨bT, 0, none⟩), .pointer (some ⟨bD, 0, none⟩)] W fun e w' => e = .returned (.bool (g l)) ∧ Below W.heap.size W w') :
    Calls Tryz.prog 46 #[.int .i64 b, .func (.func 47) #[] #[.pointer (some ⟨bT, 0, none⟩), .pointer (some ⟨bD, 0, none⟩)]] w (SomPost b g w) := by
  obtain ⟨w1, e1, HS1, _, _, b1⟩ := box1 w (.int .i64 b) 3; have k1 := alloc_new w (.cells #[.int .i64 b] 3); rw [e1] at k1; obtain ⟨w2, e2, HS2, _, _, b2⟩ := box1 w1 (.func (.func 47) #[] #[.pointer (some ⟨bT, 0, none⟩), .pointer (some ⟨bD, 0, none⟩)]) 110; have k2 := alloc_new w1 (.cells #[.func (.func 47) #[] #[.pointer (some ⟨bT, 0, none⟩), .pointer (some ⟨bD, 0, none⟩)]] 110); rw [e2] at k2; obtain ⟨w3, e3, HS3, _, _, b3⟩ := box1 w2 (.slice none 0 0) 90; have k3 := alloc_new w2 (.cells #[.slice none 0 0] 90); rw [e3] at k3; obtain ⟨w4, e4, HS4, c4, f4, b4⟩ := box1 w3 .nilFunc 162; have k4 := alloc_new w3 (.cells #[.nilFunc] 162); rw [e4] at k4; have k1 := (b2.block _ (block_lt k1)).trans k1; have k1 := (b3.block _ (block_lt k1)).trans k1; have k1 := (b4.block _ (block_lt k1)).trans k1; have k2 := (b3.block _ (block_lt k2)).trans k2; have k2 := (b4.block _ (block_lt k2)).trans k2; have k3 := (b4.block _ (block_lt k3)).trans k3
  obtain ⟨F, hF⟩ : ∃ F : Value, Value.func (.func 90) #[] #[.pointer (some ⟨w1.heap.size, 0, none⟩), .pointer (some ⟨w2.heap.size, 0, none⟩), .pointer (some ⟨w.heap.size, 0, none⟩), .pointer (some ⟨w3.heap.size, 0, none⟩)] = F := ⟨_, rfl⟩; obtain ⟨w5, s5, c5, f5, k5, hk5, HZ5, _⟩ := pt1 w4 w3.heap.size 162 .nilFunc F k4; have z1 := HS1.out; have z2 := HS2.out; have z3 := HS3.out; have z4 := HS4.out; have z5 := HZ5.out; have bb4 := b1.trans ((b2.trans ((b3.trans (b4.mono b3.size)).mono b2.size)).mono b1.size); have bb : Below w.heap.size w w5 := by rw [← s5]; exact bb4.setCell (show w.heap.size ≤ w3.heap.size by omega) _
  have k1 := (hk5 w.heap.size (by omega)).trans k1; have k2 := (hk5 w1.heap.size (by omega)).trans k2; have k3 := (hk5 w2.heap.size (by omega)).trans k3; have hSm : Sm w.heap.size w1.heap.size w2.heap.size w3.heap.size bT bD b w w5 := ⟨bb, k1, k2, by rw [k5, ← hF]⟩; have hSk : SmK w5.heap.size w.heap.size w1.heap.size w2.heap.size w3.heap.size w := ⟨by omega, by omega, by omega, by omega, by omega⟩; have hO : OutM w5.heap.size w2.heap.size [] w5 := ⟨_, [], k3, World.ownsRow_nil _ _ _ _, rfl, fun i hi => by simp at hi⟩
  have hcl := x_search w5.heap.size w.heap.size w1.heap.size w2.heap.size w3.heap.size bT bD b w g hSk hb hg b [] 0 none 0 [] w5 (by omega) (Nat.zero_le _) (fun j hj => by simp at hj) (Nat.zero_le _) (fun _ => ⟨rfl, rfl⟩) (World.ownsRow_nil _ _ _ _) hSm (Nat.le_refl _) hO (by
    have : b = 0 ∨ b = 1 ∨ b = 2 ∨ b = 3 ∨ b = 4 ∨ b = 5 ∨ b = 6 := by omega
    rcases this with rfl | rfl | rfl | rfl | rfl | rfl | rfl <;> decide)
  have HSK := Lib.hid hSk; have HBB := Lib.hid bb; have c5' : w5.cell? ⟨w3.heap.size, 0, none⟩ = some F := by rw [cell_of_row _ _ _ _ _ _ k5]; rfl
  have HP := Lib.hid (show pw b 0 ≤ 1000 by
    have : b = 0 ∨ b = 1 ∨ b = 2 ∨ b = 3 ∨ b = 4 ∨ b = 5 ∨ b = 6 := by omega
    rcases this with rfl | rfl | rfl | rfl | rfl | rfl | rfl <;> decide)
  clear hSm hSk hO bb bb4 k1 k2 k3 k4 k5 hk5 z1 z2 z3 z4 z5 b1 b2 b3 b4 hg; rw [← hF] at s5 c5'; subst hF
  go_enter Tryz.func46, Tryz.ntmps46
  go_wp2_with fail; refine hcl.mono ?_; clear hcl; rintro e w6 ⟨rfl, more, hO6, hgd, hne, hk6, hl6⟩; rw [List.nil_append] at hO6 hne; obtain ⟨v, vals, hv, hR⟩ := hO6; obtain ⟨p, c, rfl, hrd⟩ := hR.rd; have kO : w6.cell? ⟨w2.heap.size, 0, none⟩ = some (.slice p more.length c) := by rw [cell_of_row _ _ _ _ _ _ hv]; rfl
  have HRD := Lib.hid hrd; have HGD := Lib.hid hgd; have HNE := Lib.hid hne; have HB6 := Lib.hid (HBB.out.trans (hk6.below (by have := HSK.out.le; exact this) (by have := HSK.out.le; have := HSK.out.lt; omega))); have HL := Lib.hid (Nat.le_trans hl6 HP.out); clear hv hR hrd hgd hne hk6 hl6; go_wp2; go_ret; exact ⟨p, c, more, rfl, HRD.out, HGD.out, HNE.out, HL.out, HB6.out⟩
end Go.Proofs.YtchclaipbahiiaaGreat
end

section
namespace Go.Proofs.YtchclaipbahiiaaGreat
open Go Go.RowKit Go.Proofs
set_option linter.unusedVariables false
set_option linter.unusedSimpArgs false
attribute [local go_sem] imax2 imin2
def CpPost (w : World) (e : Ending) (w' : World) : Prop := ∃ r : Int, e = .returned (.int .i64 r) ∧ w = w'
def ShPost (w : World) (e : Ending) (w' : World) : Prop := ∃ b : Bool, e = .returned (.bool b) ∧ w = w'
set_option maxHeartbeats 800000 in
set_option maxRecDepth 100000 in
theorem x_Compare (p p' : Option Addr) (c c' : Nat) (xs ys : List Int) (w : World) (hx : RdI w p xs) (hy : RdI w p' ys) (hl : xs.length ≤ 1000000) (hl' : ys.length ≤ 1000000) :
    Calls Tryz.prog 92 #[.slice p xs.length c, .slice p' ys.length c'] w (CpPost w) := by
  have HX := Lib.hid hx; have HY := Lib.hid hy; clear hx hy
  go_enter Tryz.func92, Tryz.ntmps92
  go_wp2
  go_loopw [11] (fun i wr => ∃ k : Nat, k ≤ xs.length ∧ i = .int .i64 k ∧ w = wr) (fun i _ => xs.length - (intOf i).toNat)
  case atStart => exact ⟨0, Nat.zero_le _, rfl, rfl⟩
  case round =>
    obtain ⟨k, hk, rfl, rfl⟩ := hrel
    by_cases hlt : k < xs.length
    · have hltI : decide ((k : Int) < (xs.length : Int)) = true := decide_eq_true (by omega)
      have hkI : (k : Int) < (xs.length : Int) := by omega
      have hwk : IntKind.i64.wrap ((k : Int) + 1) = (k : Int) + 1 := w64 _ (by omega) (by omega); obtain ⟨b, off, rfl, hc⟩ := HX.out.at hlt; have d0 := hc k hlt; clear hc
      by_cases hge : ys.length ≤ k
      · have hgeI : decide ((ys.length : Int) ≤ (k : Int)) = true := decide_eq_true (by omega)
        go_wp2; go_ret; exact ⟨1, rfl, rfl⟩
      · have hgeI : decide ((ys.length : Int) ≤ (k : Int)) = false := decide_eq_false (by omega)
        have hkY : (k : Int) < (ys.length : Int) := by omega
        have hltY : k < ys.length := by omega
        obtain ⟨b2, off2, rfl, hc2⟩ := HY.out.at hltY; have e0 := hc2 k hltY; clear hc2; have hcp := c_compare (gi xs k) (gi ys k) w; obtain ⟨R, hR⟩ : ∃ R, cmpI (gi xs k) (gi ys k) = R := ⟨_, rfl⟩; rw [hR] at hcp; clear hR
        by_cases h0 : R = 0
        · subst h0
          go_wp2_with fail; refine hcp.mono ?_; clear hcp; rintro e w' ⟨rfl, rfl⟩; go_wp2; go_roundw
          case rel => exact ⟨k + 1, by omega, by go_num, trivial⟩
          case measure => simp [intOf]; omega
        · have h0I : (R == 0) = false := by simpa using h0
          go_wp2_with fail; refine hcp.mono ?_; clear hcp; rintro e w' ⟨rfl, rfl⟩; go_wp2; go_ret; exact ⟨R, rfl, rfl⟩
    · obtain rfl : k = xs.length := by omega
      have hkI : ¬ (xs.length : Int) < (xs.length : Int) := by omega
      by_cases hlt2 : xs.length < ys.length
      · have h2I : decide ((xs.length : Int) < (ys.length : Int)) = true := decide_eq_true (by omega)
        go_wp2; go_ret; exact ⟨-1, rfl, rfl⟩
      · have h2I : decide ((xs.length : Int) < (ys.length : Int)) = false := decide_eq_false (by omega)
        go_wp2; go_ret; exact ⟨0, rfl, rfl⟩
set_option maxHeartbeats 400000 in
set_option maxRecDepth 100000 in
theorem x_shorter (p p' : Option Addr) (c c' : Nat) (xs ys : List Int) (w : World) (hx : RdI w p xs) (hy : RdI w p' ys) (hl : xs.length ≤ 1000000) (hl' : ys.length ≤ 1000000) :
    Calls Tryz.prog 51 #[.slice p xs.length c, .slice p' ys.length c'] w (ShPost w) := by
  have hcp := x_Compare p p' c c' xs ys w hx hy hl hl'; clear hx hy
  by_cases h1 : xs.length < ys.length
  · have h1I : decide ((xs.length : Int) < (ys.length : Int)) = true := decide_eq_true (by omega)
    go_enter Tryz.func51, Tryz.ntmps51
    go_wp2; go_ret; exact ⟨true, rfl, rfl⟩
  · have h1I : decide ((xs.length : Int) < (ys.length : Int)) = false := decide_eq_false (by omega)
    by_cases h2 : xs.length = ys.length
    · rw [h2] at hcp ⊢
      clear h1I h2 h1; have h1I : decide ((ys.length : Int) < (ys.length : Int)) = false := by simp
      go_enter Tryz.func51, Tryz.ntmps51
      go_wp2_with fail; refine hcp.mono ?_; clear hcp; rintro e w' ⟨r, rfl, rfl⟩; go_wp2; go_ret; exact ⟨_, rfl, rfl⟩
    · have h2I : ((xs.length : Int) == (ys.length : Int)) = false := by simp; omega
      have h2N : ¬ (xs.length : Int) = (ys.length : Int) := by omega
      go_enter Tryz.func51, Tryz.ntmps51
      go_wp2; go_ret; exact ⟨false, rfl, rfl⟩
def OneL (ls : List (List Int)) (k : Nat) (v : Value) (W : World) : Prop := (k = 0 ∧ v = .slice none 0 0) ∨ ∃ i q c, i < ls.length ∧ v = .slice q (gli ls i).length c ∧ RdI W q (gli ls i)
def BsPost (ls : List (List Int)) (w : World) (e : Ending) (w' : World) : Prop := (∃ v, e = .returned (.tuple #[v, .bool (decide (0 < ls.length))]) ∧ OneL ls ls.length v w') ∧ Below w.heap.size w w'
set_option maxHeartbeats 1600000 in
set_option maxRecDepth 100000 in
theorem x_best (p : Option Addr) (c : Nat) (ls : List (List Int)) (w : World) (hx : RdLl w p ls) (hl : ls.length ≤ 1000) (hll : ∀ i, i < ls.length → (gli ls i).length ≤ 1000) :
    Calls Tryz.prog 45 #[.slice p ls.length c, .func (.func 51) #[] #[]] w (BsPost ls w) := by
  have HX := Lib.hid hx; have HLL := Lib.hid hll; clear hx hll
  go_enter Tryz.func45, Tryz.ntmps45
  go_wp2
  go_loopw [6, 11] (fun v a wr => ∃ k : Nat, k ≤ ls.length ∧ a = .int .i64 k ∧ Hid (OneL ls k v wr) ∧ w = wr) (fun _ a _ => ls.length - (intOf a).toNat)
  case atStart => exact ⟨0, Nat.zero_le _, rfl, Lib.hid (.inl ⟨rfl, rfl⟩), rfl⟩
  case round =>
    obtain ⟨k, hk, rfl, HM, rfl⟩ := hrel
    by_cases hlt : k < ls.length
    · have hltI : decide ((k : Int) < (ls.length : Int)) = true := decide_eq_true (by omega)
      have hkI : (k : Int) < (ls.length : Int) := by omega
      have hwk : IntKind.i64.wrap ((k : Int) + 1) = (k : Int) + 1 := w64 _ (by omega) (by omega); obtain ⟨b, off, rfl, hc⟩ := HX.out.at hlt; obtain ⟨q, cq, d0, hr⟩ := hc k hlt; have HR := Lib.hid hr; clear hc hr; have HN := Lib.hid (show OneL ls (k + 1) (.slice q (gli ls k).length cq) w from .inr ⟨k, q, cq, hlt, rfl, HR.out⟩)
      by_cases hk0 : k = 0
      · have hkI0 : ((k : Int) == 0) = true := by rw [hk0]; rfl
        clear hk0; go_wp2; go_roundw
        case rel => exact ⟨k + 1, by omega, by go_num, HN, trivial⟩
        case measure => simp [intOf]; omega
      · have hkI0 : ((k : Int) == 0) = false := by simp; omega
        have hkN : ¬ (k : Int) = 0 := by omega
        obtain ⟨i, q2, c2, hi, rfl, hr2⟩ : ∃ i q c, i < ls.length ∧ u6 = .slice q (gli ls i).length c ∧ RdI w q (gli ls i) := by
          rcases HM.out with ⟨h, _⟩ | h
          · exact absurd h hk0
          · exact h
        have HM2 := Lib.hid (show OneL ls (k + 1) (.slice q2 (gli ls i).length c2) w from .inr ⟨i, q2, c2, hi, rfl, hr2⟩); have hsh := x_shorter q q2 cq c2 (gli ls k) (gli ls i) w HR.out hr2 (by have := HLL.out k hlt; omega) (by have := HLL.out i hi; omega); clear hr2; go_wp2_with fail; refine hsh.mono ?_; clear hsh; rintro e w' ⟨B, rfl, rfl⟩
        cases B with
        | true =>
          go_wp2; go_roundw
          case rel => exact ⟨k + 1, by omega, by go_num, HN, trivial⟩
          case measure => simp [intOf]; omega
        | false =>
          go_wp2; go_roundw
          case rel => exact ⟨k + 1, by omega, by go_num, HM2, trivial⟩
          case measure => simp [intOf]; omega
    · obtain rfl : k = ls.length := by omega
      have hltI : decide ((ls.length : Int) < (ls.length : Int)) = false := by simp
      by_cases h0 : 0 < ls.length
      · have h0I : decide ((0 : Int) < (ls.length : Int)) = true := decide_eq_true (by omega)
        have h0N : decide (0 < ls.length) = true := decide_eq_true h0; go_wp2; refine bodyPost_ret (v := .tuple #[u6, .bool true]) (by simp [results, Tryz.results45, go_sem]) rfl ⟨⟨_, by rw [h0N], HM.out⟩, Below.refl _ _⟩
      · have h0I : decide ((0 : Int) < (ls.length : Int)) = false := decide_eq_false (by omega)
        have h0N : decide (0 < ls.length) = false := decide_eq_false h0; go_wp2; refine bodyPost_ret (v := .tuple #[u6, .bool false]) (by simp [results, Tryz.results45, go_sem]) rfl ⟨⟨_, by rw [h0N], HM.out⟩, Below.refl _ _⟩
theorem gli_mem {ls : List (List Int)} {i : Nat} (h : i < ls.length) : gli ls i ∈ ls := by
  unfold gli; rw [List.getD_eq_getElem?_getD, List.getElem?_eq_getElem h]; exact List.getElem_mem h
def CirPost (wm : Int) (cs ts : List Int) (w : World) (e : Ending) (w' : World) : Prop :=
  ((e = .returned (.tuple #[.slice none 0 0, .int .i64 5]) ∧ suitB wm cs ts (restL 0 cs.length) = false) ∨
   ∃ q c l, e = .returned (.tuple #[.slice q (List.length l) c, .int .i64 0]) ∧ RdI w' q l ∧ GoodL (suitB wm cs ts) cs.length l) ∧ Below w.heap.size w w'
set_option maxHeartbeats 1600000 in
set_option maxRecDepth 100000 in
theorem x_Circles (wm : Int) (p : Option Addr) (c : Nat) (cs : List Int) (r : Option Addr) (cr : Nat) (ts : List Int) (w : World) (hx : RdI w p cs) (h : DvOk wm cs) (ht : RdI w r ts) (htl : 1 ≤ ts.length ∧ ts.length ≤ 6) (hts : ts.all (fun x => inB x 1 400) = true) :
    Calls Tryz.prog 14 #[.agg #[.int .i64 wm, .slice p cs.length c], .slice r ts.length cr] w (CirPost wm cs ts w) := by
  obtain ⟨w1, e1, HS1, k0, k1, b1⟩ := box2 w (.int .i64 wm) (.slice p cs.length c) 29; obtain ⟨w2, e2, HS2, kt, _, b2⟩ := box1 w1 (.slice r ts.length cr) 23; have k0 := (b2.cell (lt_of_cellq k0)).trans k0; have k1 := (b2.cell (lt_of_cellq k1)).trans k1; have bb := b1.trans (b2.mono b1.size)
  have htat : ∀ j, j < ts.length → 1 ≤ gi ts j ∧ gi ts j ≤ 400 := fun j hj => by
    have := List.all_eq_true.1 hts (gi ts j) (by unfold gi; rw [List.getD_eq_getElem?_getD, List.getElem?_eq_getElem hj]; exact List.getElem_mem hj); exact inB_iff.1 this
  have HDV := Lib.hid (show RdDv w2 w.heap.size p c wm cs from ⟨k0, k1, (hx.below b1).below b2⟩); have HRT := Lib.hid ((ht.below b1).below b2); have HB := Lib.hid bb; have HD := Lib.hid h; have HTA := Lib.hid htat; have HTS := Lib.hid hts; have HTL := Lib.hid htl; have hl6 := h.len.2; have ht6 := htl.2; clear hx h ht htl hts htat b1 b2 bb
  go_enter Tryz.func14, Tryz.ntmps14
  go_wp2_with fail; refine (x_isDivider wm p c cs _ HDV.out.rd HD.out).mono ?_; rintro e w3 ⟨rfl, b3⟩; have HDV := Lib.hid (HDV.out.below b3); have HRT := Lib.hid (HRT.out.below b3); have HB := Lib.hid (HB.out.trans (b3.mono HB.out.size)); have k0 := (b3.cell (lt_of_cellq k0)).trans k0; have k1 := (b3.cell (lt_of_cellq k1)).trans k1; have kt := (b3.cell (lt_of_cellq kt)).trans kt; have hin := p_in (ts.length : Int) 1 6 w3; rw [inB_iff.2 ⟨by have := HTL.out; omega, by omega⟩] at hin; clear b3 e1 e2; go_wp2_with fail; refine hin.mono ?_; clear hin; rintro e w4 ⟨rfl, rfl⟩; have hcf := x_cf0 43 (fun x => inB x 1 400) r cr ts w3 HRT.out (by omega) (fun args W => by kernel_rfl) (fun j hj W hb => x_notCount _ W); rw [HTS.out] at hcf; go_wp2_with fail; refine hcf.mono ?_; clear hcf; rintro e w5 ⟨rfl, b5⟩; have HDV := Lib.hid (HDV.out.below b5); have HRT := Lib.hid (HRT.out.below b5); have HB := Lib.hid (HB.out.trans (b5.mono HB.out.size))
  have k0 := (b5.cell (lt_of_cellq k0)).trans k0; have k1 := (b5.cell (lt_of_cellq k1)).trans k1; have kt := (b5.cell (lt_of_cellq kt)).trans kt; clear b5; have hsm := x_some w1.heap.size w.heap.size cs.length w5 (suitB wm cs ts) hl6 (fun W hb l q cq hr hi hl => x_c1 w1.heap.size w.heap.size p c wm cs r cr ts q cq l W (HDV.out.below hb) HD.out ((hb.cell (lt_of_cellq kt)).trans kt) (HRT.out.below hb) (by omega) HTA.out hr hi (by omega)); go_wp2_with fail; refine hsm.mono ?_; clear hsm; rintro e w6 ⟨pl, cl, ls, rfl, hrl, hgd, hne, hll, b6⟩; have HB := Lib.hid (HB.out.trans (b6.mono HB.out.size)); have HGD := Lib.hid hgd; have HNE := Lib.hid hne; have hbs := x_best pl cl ls w6 hrl hll (fun i hi => by have := (hgd _ (gli_mem hi)).len; omega); clear hrl hgd hne b6 k0 k1 kt; go_wp2_with fail; refine hbs.mono ?_; clear hbs; rintro e w7 ⟨⟨v, rfl, hv⟩, b7⟩; have HV := Lib.hid hv; have HB := Lib.hid (HB.out.trans (b7.mono HB.out.size))
  clear hv b7
  by_cases h0 : 0 < ls.length
  · have h0N : decide (0 < ls.length) = true := decide_eq_true h0
    obtain ⟨i, q, cq, hi, rfl, hr⟩ : ∃ i q c, i < ls.length ∧ v = .slice q (gli ls i).length c ∧ RdI w7 q (gli ls i) := by
      rcases HV.out with ⟨h, _⟩ | h
      · omega
      · exact h
    have HR := Lib.hid hr; have HG := Lib.hid (HGD.out _ (gli_mem hi)); clear hr hi h0; go_wp2; refine bodyPost_ret (v := .tuple #[.slice q (gli ls i).length cq, .int .i64 0]) (by simp [results, Tryz.results14, go_sem]) rfl ⟨.inr ⟨q, cq, gli ls i, rfl, HR.out, HG.out⟩, HB.out⟩
  · have h0N : decide (0 < ls.length) = false := decide_eq_false h0
    have hls : ls = [] := List.length_eq_zero_iff.1 (by omega)
    have HNO := Lib.hid (show suitB wm cs ts (restL 0 cs.length) = false by
      cases hh : suitB wm cs ts (restL 0 cs.length) with
      | false => rfl
      | true => exact absurd hls (HNE.out hh))
    clear hls h0; go_wp2; refine bodyPost_ret (v := .tuple #[.slice none 0 0, .int .i64 5]) (by simp [results, Tryz.results14, go_sem]) rfl ⟨.inl ⟨rfl, HNO.out⟩, HB.out⟩
end Go.Proofs.YtchclaipbahiiaaGreat
end

section
namespace Go.Proofs.YtchclaipbahiiaaGreat
set_option linter.unusedVariables false
theorem mem_tth {lo hi : Int} {nv : List Int} {t : Int} (h : t ∈ tthF lo hi nv) : lo ≤ t ∧ t ≤ hi ∧ lbB lo hi nv t = true := by
  unfold tthF at h; rw [List.mem_filter] at h; obtain ⟨h1, h2⟩ := h
  have h3 : lo ≤ t ∧ t ≤ hi := by
    unfold rng at h1; rw [List.mem_map] at h1; obtain ⟨i, hi2, rfl⟩ := h1; rw [List.mem_range] at hi2; omega
  refine ⟨h3.1, h3.2, ?_⟩; unfold lbB; rw [Bool.and_eq_true]; refine ⟨?_, inB_iff.2 h3⟩; rw [← h2]
  congr 1
  rw [Bool.eq_iff_iff, List.any_eq_true]
  simp
def cutB (wm : Int) (cs : List Int) (t : Int) : Bool := cs.any (canB wm t)
def ownL (cs l : List Int) : List Int := l.map fun i => gi cs i.toNat
theorem ownL_len (cs l : List Int) : (ownL cs l).length = l.length := by unfold ownL; rw [List.length_map]
theorem mem_gi {l : List Int} {x : Int} (h : x ∈ l) : ∃ i, i < l.length ∧ x = gi l i := by
  obtain ⟨i, hi, rfl⟩ := List.getElem_of_mem h; exact ⟨i, hi, by unfold gi; rw [List.getD_eq_getElem?_getD, List.getElem?_eq_getElem hi]; rfl⟩
theorem gi_mem' {l : List Int} {i : Nat} (hi : i < l.length) : gi l i ∈ l := by
  unfold gi; rw [List.getD_eq_getElem?_getD, List.getElem?_eq_getElem hi]; exact List.getElem_mem hi
theorem suit_full {wm : Int} {cs ts : List Int} (h : ts.all (cutB wm cs) = true) : suitB wm cs ts (restL 0 cs.length) = true := by
  unfold suitB; rw [List.all_eq_true] at h ⊢; intro t ht; have h1 := h t ht; unfold cutB at h1; rw [List.any_eq_true] at h1; obtain ⟨x, hx, hc⟩ := h1; obtain ⟨i, hi, rfl⟩ := mem_gi hx; unfold noneB; rw [Bool.not_eq_true', Bool.eq_false_iff]; intro hall; rw [List.all_eq_true] at hall; have := hall (i : Int) (by unfold restL; rw [List.mem_map]; exact ⟨i, by rw [List.mem_range']; exact ⟨i, by omega, by omega⟩, rfl⟩); rw [Int.toNat_natCast, hc] at this
  cases this
theorem suit_own {wm : Int} {cs ts l : List Int} (h : suitB wm cs ts l = true) {t : Int} (ht : t ∈ ts) : cutB wm (ownL cs l) t = true := by
  unfold suitB at h; rw [List.all_eq_true] at h; have h1 := h t ht; unfold noneB at h1; rw [Bool.not_eq_true', Bool.eq_false_iff] at h1; unfold cutB; rw [List.any_eq_true]; refine Classical.byContradiction fun hn => h1 ?_
  rw [List.all_eq_true]; intro i hi; rw [Bool.not_eq_true', Bool.eq_false_iff]; intro hc; exact hn ⟨gi cs i.toNat, by unfold ownL; rw [List.mem_map]; exact ⟨i, hi, rfl⟩, hc⟩
theorem suit_each {wm : Int} {cs ts l : List Int} (h : suitB wm cs ts l = true) (hi : InL cs.length l) : ts.all (cutB wm cs) = true := by
  rw [List.all_eq_true]; intro t ht; have h1 := suit_own h ht; unfold cutB at h1 ⊢; rw [List.any_eq_true] at h1 ⊢; obtain ⟨x, hx, hc⟩ := h1; unfold ownL at hx; rw [List.mem_map] at hx; obtain ⟨i, hil, rfl⟩ := hx; obtain ⟨j, hj, rfl⟩ := mem_gi hil; have := hi j hj; exact ⟨_, gi_mem' (by omega), hc⟩
theorem suit_ne {wm : Int} {cs ts l : List Int} (h : suitB wm cs ts l = true) (ht : 1 ≤ ts.length) : 1 ≤ l.length := by
  have h1 := suit_own h (gi_mem' (i := 0) (by omega))
  cases l with
  | nil => unfold cutB ownL at h1; cases h1
  | cons a r => simp
theorem own_ok {wm : Int} {cs l : List Int} (h : DvOk wm cs) (hi : InL cs.length l) (h1 : 1 ≤ l.length) (h2 : l.length ≤ cs.length) : DvOk wm (ownL cs l) := by
  refine ⟨h.worm, by rw [ownL_len]; have := h.len; omega, ?_⟩; rw [List.all_eq_true]; intro x hx; unfold ownL at hx; rw [List.mem_map] at hx; obtain ⟨i, hil, rfl⟩ := hx; obtain ⟨j, hj, rfl⟩ := mem_gi hil; have := hi j hj; exact inB_iff.2 (h.at (by omega))
theorem ownL_succ {cs l : List Int} {k : Nat} (h : k < l.length) : inV (ownL cs (l.take (k + 1))) = inV (ownL cs (l.take k)) ++ [.int .i64 (gi cs (gi l k).toNat)] := by
  unfold ownL inV; rw [List.take_add_one, List.getElem?_eq_getElem h, List.map_append, List.map_append]
  congr 1
  simp only [Option.toList_some, List.map_cons, List.map_nil]; unfold gi; rw [List.getD_eq_getElem?_getD (l := l), List.getElem?_eq_getElem h]
  rfl
end Go.Proofs.YtchclaipbahiiaaGreat
end
