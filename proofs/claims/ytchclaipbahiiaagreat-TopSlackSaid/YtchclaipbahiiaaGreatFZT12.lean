/-
  Copies of plays; a move of the crank as a value; rows that are stored into.
  Where all arbors are before the first move: contract.
  Fractions: gcd, reduced, compare, distance; products: contracts.
  Fractions that are compared, products, what a Sense lets in: contracts.
  Rules and trains that are as defined; whether a list holds a number: contracts (printed by top.py).
  A truth after a move: contract.
  All that plays do, before the first move and after each one: contract.
  Whether the readings after some moves agree: contract.
  The truth after all moves, if all readings agree: what is behind the door of the panics, and the door.
  The truth after all moves, if all readings agree: contract.
  Run, all arguments: contract.
  Spans of numbers; sums: contracts.
  What all truths of a piece have: the span of a number of each: contracts (printed by slkover.py).
  over, for the places of an arbor: contract (the text to turn for the other closures).
  over, for the plays of a mesh: contract (printed by slkover2.py).
  By how much an arbor is behind the crank: contract.
  A quotient, rounded down, and what is left: contract.
  Plain laws of meshes that are renewed (no program in sight).
-/
import Derived.Maps.AppendAt
import Derived.Lib.LazyBuf
import Derived.StillTailTactics
import Derived.Recover
import Derived.Defers
import Derived.Laws.Pointers
import Derived.Laws.EntriesVeiled
import Derived.Test.YtchclaipbahiiaaGreatFZT11
section
namespace Go.Proofs.YtchclaipbahiiaaGreat
open Go Go.RowKit Go.Proofs
set_option linter.unusedVariables false
attribute [local go_sem] imax2 imin2
theorem own_put {w : World} {B e n g cap j : Nat} {xs : List Value} (h : w.ownsRow B e 1 (.slice (some ⟨g, 0, none⟩) n cap) n xs) (hj : j < n) (u : Value) :
    (w.setCell ⟨g, j, none⟩ u).ownsRow B e 1 (.slice (some ⟨g, 0, none⟩) n cap) n (xs.set j u) := by
  refine ⟨by rw [List.length_set]; exact h.1, ?_⟩
  rcases h.2 with ⟨h1, _⟩ | ⟨g', cap', cur, h1, h2, h3, h4, h5, h6, h7⟩
  · cases h1
  · cases h1
    refine .inr ⟨g, cap, cur.setIfInBounds j u, rfl, h2, ?_, h4, h5, by simpa using h6, ?_⟩
    · rw [heap_setCell_same w g j cur e u h3]
    · rw [Array.toList_setIfInBounds, List.take_set, h7]
theorem inV_set (xs : List Int) (j : Nat) (z : Int) : (inV xs).set j (.int .i64 z) = inV (xs.set j z) := by unfold inV; rw [List.map_set]
theorem own_cell {w : World} {B e n g cap : Nat} {xs : List Int} (h : w.ownsRow B e 1 (.slice (some ⟨g, 0, none⟩) n cap) n (inV xs)) {j : Nat} (hj : j < xs.length) : w.cell? ⟨g, j, none⟩ = some (.int .i64 (gi xs j)) := by
  have := h.cells (g := g) rfl j _ (inV_get xs j hj)
  rwa [add_new] at this
theorem own_frozen {w : World} {B e size n g cap : Nat} {xs : List Value} (h : w.ownsRow B e size (.slice (some ⟨g, 0, none⟩) n cap) n xs) (j : Nat) : w.frozen? ⟨g, j, none⟩ = false := by
  rcases h.2 with ⟨h1, _⟩ | ⟨g', cap', cur, h1, h2, h3, _⟩
  · cases h1
  · cases h1; exact frozen_of_row _ _ _ _ _ h3
theorem own_lt {w : World} {B e size n g cap : Nat} {xs : List Value} (h : w.ownsRow B e size (.slice (some ⟨g, 0, none⟩) n cap) n xs) : B ≤ g ∧ g < w.heap.size := h.lt g rfl
theorem eqnLI (a : Option Addr) (l c : Nat) (w : World) : (binOp .eql 23 (.slice a l c) (.slice none 0 0)).run Tryz.prog w = .ok (.bool a.isNone) w := run_eql_slice_nil w 23 3 a l c Tryz.underlying23
attribute [local go_sem] eqnLI
set_option maxRecDepth 100000 in
theorem c_Clone_nil (w : World) : Calls Tryz.prog 91 #[.slice none 0 0] w fun e w' => e = .returned (.slice none 0 0) ∧ w = w' := by
  go_enter Tryz.func91, Tryz.ntmps91
  go_wp2; go_ret; exact ⟨rfl, rfl⟩
def ClonePost (xs : List Int) (w : World) (e : Ending) (w' : World) : Prop := ∃ v, e = .returned v ∧ w'.ownsRow w.heap.size 3 1 v xs.length (inV xs) ∧ Below w.heap.size w w'
set_option maxHeartbeats 400000 in
set_option maxRecDepth 100000 in
theorem c_Clone (b off cap : Nat) (xs : List Int) (w : World) (hx : RdI w (some ⟨b, off, none⟩) xs) (hl : xs.length ≤ 1000000) :
    Calls Tryz.prog 91 #[.slice (some ⟨b, off, none⟩) xs.length cap] w (ClonePost xs w) := by
  have HX := Lib.hid hx; clear hx
  go_enter Tryz.func91, Tryz.ntmps91
  obtain ⟨i0, hi0, hz0, hz1, hz2⟩ := info_parts infI; have hown : (w.alloc (.cells #[] 3)).ownsRow w.heap.size 3 1 (.slice (some ⟨w.heap.size, 0, none⟩) 0 0) 0 [] := World.ownsRow_made w #[] 0 (Nat.le_refl _) (by unfold maxLen; omega) (by simp)
  have hnews : ∀ j v, (inV xs)[j]? = some v → (w.alloc (.cells #[] 3)).cell? ((⟨b, off, none⟩ : Addr).add j) = some v := by
    intro j v hj
    have hj' : j < xs.length := by
      have := (List.getElem?_eq_some_iff.1 hj).1
      simpa [inV] using this
    obtain ⟨b', off', e, hc⟩ := HX.out.at hj'
    cases e
    have h1 := hc j hj'; rw [inV_get xs j hj'] at hj
    cases hj
    have e : (⟨b, off, none⟩ : Addr).add j = ⟨b, off + j, none⟩ := by unfold Addr.add; split <;> simp_all
    rw [e]; exact ((below_alloc1 w _).cell (lt_of_cellq h1)).trans h1
  have HO := Lib.hid hown; have HNW := Lib.hid hnews; clear hown hnews; go_wp2_with (at_builtin; refine wpList_append_own _ rfl _ _ 23 rfl w.heap.size 3 i0 _ 1 8 Tryz.underlying23 hi0 hz0 hz1 hz2 rfl (by decide) _ 0 [] rfl HO.out ⟨b, off, none⟩ xs.length cap (inV xs) rfl ?c0 HNW.out ?c2 ?c3 ?c4 ?c5 ?_)
  case c0 => simp [inV]
  case c2 => intro u hu; simp [inV] at hu; obtain ⟨x, _, rfl⟩ := hu; rfl
  case c3 => unfold maxLen; omega
  case c4 => omega
  case c5 => simp
  intro v' w1 hown' hgrow _; have HB := Lib.hid ((below_alloc1 w (.cells #[] 3)).grown hgrow (by simp) (fun k hk => by cases hk; exact Nat.le_refl _)); have HR := Lib.hid hown'; clear hown' hgrow; go_wp2; go_ret; exact ⟨v', rfl, by have := HR.out; simpa using this, HB.out⟩
theorem c_Clone_any (p : Option Addr) (cap : Nat) (xs : List Int) (w : World) (hx : RdI w p xs) (hl : xs.length ≤ 1000000) (hn : xs = [] → p = none ∧ cap = 0) :
    Calls Tryz.prog 91 #[.slice p xs.length cap] w (ClonePost xs w) := by
  cases xs with
  | nil =>
    obtain ⟨rfl, rfl⟩ := hn rfl; refine (c_Clone_nil w).mono ?_; rintro e w' ⟨rfl, rfl⟩; exact ⟨_, rfl, World.ownsRow_nil _ _ _ _, Below.refl _ _⟩
  | cons x xs =>
    obtain ⟨b, off, rfl, hc⟩ := hx.at (i := 0) (by simp); exact c_Clone b off cap (x :: xs) w hx hl
def mvV (m : Int) : Value := if m < 0 then .iface 235 (.int .i64 (-m)) else .iface 234 (.int .i64 m)
theorem mvV_on {m : Int} (h : 0 ≤ m) : mvV m = .iface 234 (.int .i64 m) := by unfold mvV; rw [if_neg (by omega)]
theorem mvV_back {m : Int} (h : m < 0) : mvV m = .iface 235 (.int .i64 (-m)) := by unfold mvV; rw [if_pos h]
theorem c_turned (m : Int) (w : World) (hm : -100000 ≤ m ∧ m ≤ 100000) : Calls Tryz.prog 169 #[.int .i64 m] w fun e w' => e = .returned (mvV m) ∧ w = w' := by
  obtain ⟨hm1, hm2⟩ := hm
  by_cases h : m < 0
  · have H := Lib.hid (mvV_back h)
    have hw : IntKind.i64.wrap (-m) = -m := w64 _ (by omega) (by omega)
    go_enter Tryz.func169, Tryz.ntmps169
    go_wp2; go_ret; exact ⟨by rw [H.out]; rfl, rfl⟩
  · have H := Lib.hid (mvV_on (show 0 ≤ m by omega))
    go_enter Tryz.func169, Tryz.ntmps169
    go_wp2; go_ret; exact ⟨by rw [H.out]; rfl, rfl⟩
theorem c_on (m : Int) (w : World) : Calls Tryz.prog 193 #[.int .i64 m] w fun e w' => e = .returned (.int .i64 m) ∧ w = w' := by
  go_enter Tryz.func193, Tryz.ntmps193
  go_wp2; go_ret; exact ⟨rfl, rfl⟩
theorem c_back (m : Int) (w : World) (hm : -100000 ≤ m ∧ m ≤ 100000) : Calls Tryz.prog 194 #[.int .i64 m] w fun e w' => e = .returned (.int .i64 (-m)) ∧ w = w' := by
  obtain ⟨hm1, hm2⟩ := hm; have hw : IntKind.i64.wrap (-m) = -m := w64 _ (by omega) (by omega)
  go_enter Tryz.func194, Tryz.ntmps194
  go_wp2; go_ret; exact ⟨rfl, rfl⟩
end Go.Proofs.YtchclaipbahiiaaGreat
end

section
namespace Go.Proofs.YtchclaipbahiiaaGreat
open Go Go.RowKit Go.Proofs
set_option linter.unusedVariables false
attribute [local go_sem] imax2 imin2
theorem set2 (w : World) (B : Nat) (t : TypeId) (v0 v1 a b : Value) (h : w.heap[B]? = some (.cells #[v0, v1] t)) :
    ∃ w1 w2, w.setCell ⟨B, 0, none⟩ a = w1 ∧ w1.setCell ⟨B, 1, none⟩ b = w2 ∧
      (w.cell? ⟨B, 0, none⟩ = some v0 ∧ w.frozen? ⟨B, 0, none⟩ = false) ∧ (w1.cell? ⟨B, 1, none⟩ = some v1 ∧ w1.frozen? ⟨B, 1, none⟩ = false) ∧
      w2.heap[B]? = some (.cells #[a, b] t) ∧ (∀ k, k ≠ B → w2.heap[k]? = w.heap[k]?) ∧ Hid (w2.heap.size = w.heap.size) ∧ ∀ W n0, n0 ≤ B → Below n0 W w → Below n0 W w2 := by
  have h1 := heap_setCell_same w B 0 _ t a h; have h2 := heap_setCell_same _ B 1 _ t b h1; refine ⟨_, _, rfl, rfl, ⟨?_, frozen_of_row _ _ _ _ _ h⟩, ⟨?_, frozen_of_row _ _ _ _ _ h1⟩, ?_, ?_, ?_, ?_⟩
  · rw [cell_of_row _ _ _ _ _ _ h]; rfl
  · rw [cell_of_row _ _ _ _ _ _ h1]; rfl
  · rw [h2]; rfl
  · intro k hk
    rw [Below.heap_setCell _ _ _ k hk, Below.heap_setCell _ _ _ k hk]
  · exact Lib.hid (by simp)
  · intro W n0 hn hb
    exact (hb.setCell hn _).setCell hn _
theorem cells2 {w : World} {B : Nat} {t : TypeId} {a b : Value} (h : w.heap[B]? = some (.cells #[a, b] t)) : w.cell? ⟨B, 0, none⟩ = some a ∧ w.cell? ⟨B, 1, none⟩ = some b := by
  refine ⟨?_, ?_⟩ <;> (rw [cell_of_row _ _ _ _ _ _ h]; rfl)
theorem own_same {w w' : World} {B e size n : Nat} {v : Value} {xs : List Value} (h : w.ownsRow B e size v n xs) (hs : ∀ g, v.ownBlock = some g → w'.heap[g]? = w.heap[g]?) : w'.ownsRow B e size v n xs := by
  refine ⟨h.1, ?_⟩
  rcases h.2 with h1 | ⟨g, cap, cur, h1, h2, h3, h4⟩
  · exact .inl h1
  · subst h1
    exact .inr ⟨g, cap, cur, rfl, h2, (hs g rfl).trans h3, h4⟩
structure PlOk (pl : List Int) : Prop where
  len : pl.length ≤ 1000
  in' : ∀ i, i < pl.length → 0 ≤ gi pl i ∧ gi pl i ≤ 100
theorem PlOk.sum {pl : List Int} (h : PlOk pl) (k : Nat) (hk : k ≤ pl.length) : 0 ≤ sumT pl k ∧ sumT pl k ≤ 100000 := by
  have h1 := sumT_le (l := pl) (c := 100) (fun i hi => by have := h.in' i hi; omega) k hk; have h2 := sumT_pos (pl := pl) (fun i hi => (h.in' i hi).1) k hk; have h3 := h.len; omega
def BegunPost (q : Option Addr) (cq : Nat) (pl : List Int) (w : World) (e : Ending) (w' : World) : Prop :=
  ∃ hv, e = .returned (.agg #[.slice q pl.length cq, hv]) ∧ w'.ownsRow w.heap.size 3 1 hv (pl.length + 1) (inV (begF pl)) ∧ Below w.heap.size w w'
set_option maxHeartbeats 800000 in
set_option maxRecDepth 100000 in
theorem c_begun (q : Option Addr) (cq : Nat) (pl : List Int) (w : World) (hq : RdI w q pl) (hp : PlOk pl) : Calls Tryz.prog 167 #[.slice q pl.length cq] w (BegunPost q cq pl w) := by
  obtain ⟨i0, hi0, hz0, hz1, hz2⟩ := info_parts infI; have kb : (w.alloc (.cells #[.slice none 0 0, .slice none 0 0] 125)).heap[w.heap.size]? = some (.cells #[.slice none 0 0, .slice none 0 0] 125 (0, 0)) := alloc_new _ _; obtain ⟨w1, e1, HS1, k0, k1, b1⟩ := box2 w (.slice none 0 0) (.slice none 0 0) 125
  have hrow : (w1.alloc (.cells #[.int .i64 0] 3)).ownsRow w1.heap.size 3 1 (.slice (some ⟨w1.heap.size, 0, none⟩) 1 1) 1 (inV (begTo pl 0)) := by
    rw [begTo_zero]; exact World.ownsRow_lit w1 #[.int .i64 0] 1 (Nat.le_refl _) (by unfold maxLen; omega) (by simp)
  obtain ⟨w2, e2, HS2, _, _, b2⟩ := box1 w1 (.int .i64 0) 3; rw [e1] at kb; rw [e2] at hrow; have HKB := Lib.hid kb; have HO0 := Lib.hid hrow; have HB2 := Lib.hid b2; have HB1 := Lib.hid b1; have HQ := Lib.hid (hq.below b1); have HP := Lib.hid hp; have hl := hp.len; clear hq hp kb hrow b1 b2 k0 k1
  go_enter Tryz.func167, Tryz.ntmps167
  go_wp2; clear e1 e2
  go_loopw [3, 9] (fun v i wr => ∃ k : Nat, k ≤ pl.length ∧ i = .int .i64 k ∧ (∃ g cap, v = .slice (some ⟨g, 0, none⟩) (k + 1) cap ∧ Hid (wr.ownsRow w1.heap.size 3 1 (.slice (some ⟨g, 0, none⟩) (k + 1) cap) (k + 1) (inV (begTo pl k)))) ∧ Below w1.heap.size w1 wr) (fun _ i _ => pl.length - (intOf i).toNat)
  case atStart => exact ⟨0, by omega, rfl, ⟨w1.heap.size, 1, rfl, HO0⟩, HB2.out⟩
  case round =>
    obtain ⟨k, hk, rfl, ⟨g, cap, rfl, HO⟩, hnx⟩ := hrel; have hbx := Lib.hid (hnx.block w.heap.size (by have := HS1.out; omega)); have HN := Lib.hid hnx
    by_cases hlt : k < pl.length
    · obtain ⟨b, off, rfl, hc⟩ := (HQ.out.below hnx).at hlt
      have e1 := hc k hlt; have e2 := own_cell HO.out (j := k) (by rw [begTo_len]; omega); have hsk := HP.out.sum k (by omega); have hsp := HP.out.in' k hlt; have HE := Lib.hid (begTo_at pl k k (Nat.le_refl _)); have hw : IntKind.i64.wrap (gi (begTo pl k) k - gi pl k) = gi (begTo pl k) k - gi pl k := by rw [HE.out]; exact w64 _ (by omega) (by omega)
      have HT := Lib.hid (begTo_succ pl k); have hsz := hnx.size; clear hc hnx hsk hsp; go_wp2_with (at_builtin; refine wpList_append_own _ rfl _ _ 23 rfl w1.heap.size 3 i0 _ 1 8 Tryz.underlying23 hi0 hz0 hz1 hz2 rfl (by decide) _ _ _ rfl (HO.out.alloc _) ⟨wr.heap.size, 0, none⟩ 1 1 [.int .i64 (gi (begTo pl k) k - gi pl k)] rfl rfl ?c1 ?c2 ?c3 ?c4 ?c5 ?_)
      case c1 => exact news_of _ _ _
      case c2 => intro u hu; simp at hu; subst hu; rfl
      case c3 => unfold maxLen; omega
      case c4 => omega
      case c5 => simp; omega
      intro v' w3 hown' hgrow _; have hlt' := HO.out.lt; have HN' := Lib.hid (HN.out.trans (((Below.refl w1.heap.size wr).alloc HN.out.size _).grown hgrow (by have := HN.out.size; simp; omega) (fun j hj => (hlt' j hj).1))); have HO' := Lib.hid hown'
      obtain ⟨g', cap', rfl⟩ : ∃ g' cap', v' = .slice (some ⟨g', 0, none⟩) (k + 1 + 1) cap' := by
        rcases hown'.2 with ⟨_, h0⟩ | ⟨g', cap', cur, h1, _⟩
        · omega
        · exact ⟨g', cap', h1⟩
      clear hown' hgrow hlt'; go_wp2; go_roundw
      case rel =>
        refine ⟨k + 1, by omega, by go_num, ⟨g', cap', rfl, Lib.hid ?_⟩, HN'.out⟩; have := HO'.out; rw [HT.out, inV_append]; exact this
      case measure => simp [intOf]; omega
    · obtain rfl : k = pl.length := by omega
      have HKR := Lib.hid (hbx.out.trans HKB.out); obtain ⟨w3, w4, s1, s2, ⟨c0, f0⟩, ⟨c1, f1⟩, hx4, hxk, HZ, hxb⟩ := set2 wr w.heap.size 125 _ _ (.slice q pl.length cq) (.slice (some ⟨g, 0, none⟩) (pl.length + 1) cap) HKR.out; obtain ⟨r0, r1⟩ := cells2 hx4; have HOW := Lib.hid (own_same HO.out (w' := w4) (fun g' hg' => hxk g' (by have := own_lt HO.out; have h2 := HS1.out; simp [Value.ownBlock] at hg'; omega))); have HBB := Lib.hid (hxb w w.heap.size (Nat.le_refl _) (HB1.out.trans (hnx.mono HB1.out.size))); clear hnx hbx hx4 hxk hxb; go_wp2; refine bodyPost_ret (v := .agg #[.slice q pl.length cq, .slice (some ⟨g, 0, none⟩) (pl.length + 1) cap]) ?_ rfl ⟨_, rfl, ?_, HBB.out⟩
      · simp [results, Tryz.results167, go_sem, r0, r1]
      · rw [← begTo_all]; exact own_mono HOW.out (by have := HS1.out; omega)
end Go.Proofs.YtchclaipbahiiaaGreat
end

section
namespace Go.Proofs.YtchclaipbahiiaaGreat
open Go Go.RowKit Go.Proofs
set_option linter.unusedVariables false
set_option linter.unusedSimpArgs false
attribute [local go_sem] imax2 imin2
theorem gcd_step (a b : Nat) : Nat.gcd b (a % b) = Nat.gcd a b := by
  rw [Nat.gcd_comm b (a % b), ← Nat.gcd_rec, Nat.gcd_comm]
set_option maxRecDepth 100000 in
theorem t_gcd (a b : Nat) (ha : a ≤ 1000000000000000000) (hb : b ≤ 1000000000000000000) (w : World) : Calls Tryz.prog 156 #[.int .i64 a, .int .i64 b] w fun e w' => e = .returned (.int .i64 (Nat.gcd a b : Nat)) ∧ Below w.heap.size w w' := by
  obtain ⟨G, hG⟩ : ∃ G, Nat.gcd a b = G := ⟨_, rfl⟩; rw [hG]; have HG := Lib.hid hG; clear hG
  go_enter Tryz.func156, Tryz.ntmps156
  go_wp2
  go_loopw [0, 1] (fun x y wr => ∃ a b : Nat, x = .int .i64 a ∧ y = .int .i64 b ∧ a ≤ 1000000000000000000 ∧ b ≤ 1000000000000000000 ∧ Hid (Nat.gcd a b = G) ∧ Hid (Below w.heap.size w wr)) (fun _ y _ => (intOf y).toNat)
  case atStart => exact ⟨a, b, rfl, rfl, ha, hb, HG, Lib.hid (Below.refl _ _)⟩
  case round =>
    clear ha hb HG; obtain ⟨a, b, rfl, rfl, ha, hb, HG, HB⟩ := hrel
    by_cases h0 : 0 < b
    · have h1 : decide ((b : Int) > 0) = true := decide_eq_true (by omega)
      have h1' : decide (0 < b) = true := decide_eq_true h0; have hm : (a : Int) % (b : Int) = ((a % b : Nat) : Int) := rfl; have hmb : a % b < b := Nat.mod_lt _ h0; have HG2 := Lib.hid (show Nat.gcd b (a % b) = G by rw [gcd_step]; exact HG.out); go_wp2; refine wp_region_quiet_lit (by kernel_rfl) (by kernel_rfl) ?_; (repeat (first | ((with_reducible first | apply wq_ix Tryz.underlying23 szI | apply wq_ix Tryz.underlying48 szSp | apply wq_ix Tryz.underlying56 szM | apply wq_ix Tryz.underlying57 szR | apply wq_ix Tryz.underlying90 szL | apply wq_ix Tryz.underlying118 szT); (focus rfl); (focus rfl); (focus rfl); (focus omega); (try simp only [Nat.mul_one]); go_frame) | ((with_reducible first | apply wq_ld agI | apply wq_ld agB | apply wq_ld agLI | apply wq_ld agLS | apply wq_ld agLM | apply wq_ld agLR | apply wq_ld agLL | apply wq_ld agLT); (focus rfl); (focus rfl); (focus (rintro _ ⟨_, rfl⟩; first | fail)); go_frame) | ((with_reducible first | apply wq_add | apply wq_sub | apply wq_mul | apply wq_rem); (focus rfl); (focus rfl); (focus rfl); (focus omega); (focus omega); go_frame) | ((with_reducible first | apply wq_eql | apply wq_neq | apply wq_lss | apply wq_leq | apply wq_gtr | apply wq_geq | apply wq_max2 | apply wq_min2); (focus rfl); (focus rfl); (focus rfl); go_frame) | ((with_reducible first | apply wq_max3 | apply wq_min3); (focus rfl); (focus rfl); (focus rfl); (focus rfl); go_frame) | go_big_quiet_step (fail))); refine wpQuiet_nil ?_; rintro _ ⟨nq, rfl⟩
      clear h1 h1' hm; go_roundw
      case rel => exact ⟨_, _, _, _, _, _, _, _, ⟨b, a % b, rfl, rfl, hb, by omega, HG2, Lib.hid (below_drewN HB.out _)⟩, rfl⟩
      case measure => simp [intOf]; omega
    · obtain rfl : b = 0 := by omega
      have HE := Lib.hid (show a = G by rw [← HG.out, Nat.gcd_zero_right]); go_wp2; go_ret; exact ⟨by rw [HE.out]; rfl, HB.out⟩
theorem redF_nat (n d : Nat) : redF n d = (((n / Nat.gcd n d : Nat) : Int), ((d / Nat.gcd n d : Nat) : Int)) := by
  unfold redF; rw [Int.gcd_natCast_natCast]
  simp
set_option maxRecDepth 100000 in
theorem t_reduced (n d : Nat) (hd : 0 < d) (hn : n ≤ 1000000000000000000) (hd2 : d ≤ 1000000000000000000) (w : World) :
    Calls Tryz.prog 127 #[.int .i64 n, .int .i64 d] w fun e w' => e = .returned (.agg #[.int .i64 (redF n d).1, .int .i64 (redF n d).2]) ∧ Below w.heap.size w w' := by
  have kz := alloc_new w (.cells #[.int .i64 0, .int .i64 0] 27); obtain ⟨w1, e1, HS1, _, _, b1⟩ := box2 w (.int .i64 0) (.int .i64 0) 27; rw [e1] at kz; have hg := t_gcd n d hn hd2 w1; have hgp : 0 < Nat.gcd n d := Nat.gcd_pos_of_pos_right _ hd; have HRE := Lib.hid (redF_nat n d); obtain ⟨G, hG⟩ : ∃ G, Nat.gcd n d = G := ⟨_, rfl⟩; rw [hG] at hg hgp HRE; have HKZ := Lib.hid kz; have HB1 := Lib.hid b1; clear hG kz b1
  go_enter Tryz.func127, Tryz.ntmps127
  go_wp2_with fail; refine hg.mono ?_; clear hg e1; rintro e w2 ⟨rfl, b2⟩; have hk2 := (b2.block _ (block_lt HKZ.out)).trans HKZ.out; have HB2 := Lib.hid (HB1.out.trans (b2.mono HB1.out.size)); have hne : ¬ G = 0 := by omega
  have q1 : (n : Int).tdiv (G : Int) = ((n / G : Nat) : Int) := by rw [Int.tdiv_eq_ediv_of_nonneg (by omega)]; rfl
  have q2 : (d : Int).tdiv (G : Int) = ((d / G : Nat) : Int) := by rw [Int.tdiv_eq_ediv_of_nonneg (by omega)]; rfl
  have z1 : n / G ≤ n := Nat.div_le_self _ _; have z2 : d / G ≤ d := Nat.div_le_self _ _; clear b2; go_wp2_with fail
  go_still_tail 7, (by kernel_rfl)
  change wpList _ _ _ _ _ w2.drew; obtain ⟨X, hX⟩ : ∃ X : Int, ((n / G : Nat) : Int) = X := ⟨_, rfl⟩; obtain ⟨Y, hY⟩ : ∃ Y : Int, ((d / G : Nat) : Int) = Y := ⟨_, rfl⟩
  have hw1 : IntKind.i64.wrap ((n : Int) / (G : Int)) = X := by
    rw [← hX]; exact w64 _ (Int.le_trans (by decide) (Int.natCast_nonneg _)) (Int.le_trans (Int.ofNat_le.2 (Nat.le_trans z1 hn)) (by decide))
  have hw2 : IntKind.i64.wrap ((d : Int) / (G : Int)) = Y := by
    rw [← hY]; exact w64 _ (Int.le_trans (by decide) (Int.natCast_nonneg _)) (Int.le_trans (Int.ofNat_le.2 (Nat.le_trans z2 hd2)) (by decide))
  rw [hX, hY] at HRE; clear hX hY; rw [hw1, hw2]; have bd : Below w2.heap.size w2 w2.drew := (Below.refl _ _).drew; obtain ⟨w3, hw3⟩ : ∃ w3, w2.drew = w3 := ⟨_, rfl⟩; rw [hw3] at bd ⊢; obtain ⟨x1, x2, s1, s2, ⟨c0, f0⟩, ⟨c1, f1⟩, hx, hxk, HZ, hxb⟩ := set2 w3 w.heap.size 27 _ _ (.int .i64 X) (.int .i64 Y) ((bd.block _ (block_lt hk2)).trans hk2); obtain ⟨k0, k1⟩ := cells2 hx; have HBZ := Lib.hid (hxb w w.heap.size (Nat.le_refl _) (HB2.out.trans (bd.mono HB2.out.size))); clear hx hxk hxb bd hw3 q1 q2 hw1 hw2 z1 z2 hk2; go_wp2; refine bodyPost_ret (v := .agg #[.int .i64 X, .int .i64 Y]) (by simp [results, Tryz.results127, go_sem, k0, k1]) rfl ?_; exact ⟨by rw [HRE.out], HBZ.out⟩
def Mid (x : Int) : Prop := -2305843009213693952 ≤ x ∧ x ≤ 2305843009213693952
set_option maxRecDepth 100000 in
theorem t_compare (x1 y1 x2 y2 : Int) (h1 : Mid (x1 * y2)) (h2 : Mid (x2 * y1)) (w : World) : Calls Tryz.prog 82 #[.agg #[.int .i64 x1, .int .i64 y1], .agg #[.int .i64 x2, .int .i64 y2]] w fun e w' => e = .returned (.int .i64 (cmpF (x1, y1) (x2, y2))) ∧ Below w.heap.size w w' := by
  obtain ⟨w0, e0, HS0, k0, k1, b0⟩ := box2 w (.int .i64 x1) (.int .i64 y1) 27; obtain ⟨w1, e1, HS1, q0, q1, b1⟩ := box2 w0 (.int .i64 x2) (.int .i64 y2) 27; have k0 := (b1.cell (lt_of_cellq k0)).trans k0; have k1 := (b1.cell (lt_of_cellq k1)).trans k1; have HB := Lib.hid (b0.trans (b1.mono b0.size)); have HC := Lib.hid (show cmpF (x1, y1) (x2, y2) = x1 * y2 - x2 * y1 from rfl); unfold Mid at h1 h2; obtain ⟨P, hP⟩ : ∃ P, x1 * y2 = P := ⟨_, rfl⟩; obtain ⟨Q, hQ⟩ : ∃ Q, x2 * y1 = Q := ⟨_, rfl⟩; rw [hP] at h1 HC; rw [hQ] at h2 HC; have p1 : IntKind.i64.wrap P = P := w64 _ (by omega) (by omega); have p2 : IntKind.i64.wrap Q = Q := w64 _ (by omega) (by omega); have p3 : IntKind.i64.wrap (P - Q) = P - Q := w64 _ (by omega) (by omega); have w1' : IntKind.i64.wrap (x1 * y2) = P := by rw [hP, p1]
  have w2' : IntKind.i64.wrap (x2 * y1) = Q := by rw [hQ, p2]
  clear b0 b1 hP hQ h1 h2
  go_enter Tryz.func82, Tryz.ntmps82
  go_wp2; go_ret; exact ⟨by rw [HC.out]; rfl, HB.out⟩
set_option maxRecDepth 100000 in
theorem t_distance (x1 y1 x2 y2 : Int) (h1 : Mid (x1 * y2)) (h2 : Mid (x2 * y1)) (w : World) : Calls Tryz.prog 128 #[.agg #[.int .i64 x1, .int .i64 y1], .agg #[.int .i64 x2, .int .i64 y2]] w fun e w' => e = .returned (.agg #[.int .i64 (dstF (x1, y1) (x2, y2)).1, .int .i64 (dstF (x1, y1) (x2, y2)).2]) ∧ Below w.heap.size w w' := by
  obtain ⟨w0, e0, HS0, k0, k1, b0⟩ := box2 w (.int .i64 x1) (.int .i64 y1) 27; obtain ⟨w1, e1, HS1, q0, q1, b1⟩ := box2 w0 (.int .i64 x2) (.int .i64 y2) 27; have kz := alloc_new w1 (.cells #[.int .i64 0, .int .i64 0] 27); obtain ⟨w2, e2, HS2, _, _, b2⟩ := box2 w1 (.int .i64 0) (.int .i64 0) 27; rw [e2] at kz; have b12 := b1.trans (b2.mono b1.size); have k0 := (b12.cell (lt_of_cellq k0)).trans k0; have k1 := (b12.cell (lt_of_cellq k1)).trans k1; have q0 := (b2.cell (lt_of_cellq q0)).trans q0; have q1 := (b2.cell (lt_of_cellq q1)).trans q1; have HB := Lib.hid (b0.trans (b12.mono b0.size)); have HLT := Lib.hid (show w.heap.size ≤ w1.heap.size by have := b0.size; have := b1.size; omega); have HKZ := Lib.hid kz; have hc := t_compare x1 y1 x2 y2 h1 h2 w2; have HD := Lib.hid (show dstF (x1, y1) (x2, y2) = (max (cmpF (x1, y1) (x2, y2)) (-(cmpF (x1, y1) (x2, y2))), y1) from rfl)
  have hr : -4611686018427387904 ≤ cmpF (x1, y1) (x2, y2) ∧ cmpF (x1, y1) (x2, y2) ≤ 4611686018427387904 := by
    unfold Mid at h1 h2; have e : cmpF (x1, y1) (x2, y2) = x1 * y2 - x2 * y1 := rfl; omega
  obtain ⟨C, hC⟩ : ∃ C, cmpF (x1, y1) (x2, y2) = C := ⟨_, rfl⟩; rw [hC] at hc HD hr; have hn : IntKind.i64.wrap (-C) = -C := w64 _ (by omega) (by omega); clear hC h1 h2 kz b0 b1 b2 b12
  go_enter Tryz.func128, Tryz.ntmps128
  go_wp2_with fail; refine hc.mono ?_; clear hc e0 e1 e2; rintro e w3 ⟨rfl, b3⟩; have q1 := (b3.cell (lt_of_cellq k1)).trans k1; obtain ⟨M, hM⟩ : ∃ M, max C (-C) = M := ⟨_, rfl⟩; rw [hM] at HD; obtain ⟨x3, x4, s1, s2, ⟨c0, f0⟩, ⟨c1, f1⟩, hx, hxk, HZ, hxb⟩ := set2 w3 w1.heap.size 27 _ _ (.int .i64 M) (.int .i64 y1) ((b3.block _ (block_lt HKZ.out)).trans HKZ.out); obtain ⟨r0, r1⟩ := cells2 hx; have HBZ := Lib.hid (hxb w w.heap.size HLT.out (HB.out.trans (b3.mono HB.out.size))); clear hx hxk hxb b3 hr; go_wp2; refine bodyPost_ret (v := .agg #[.int .i64 M, .int .i64 y1]) (by simp [results, Tryz.results128, go_sem, r0, r1]) rfl ?_; exact ⟨by rw [HD.out], HBZ.out⟩
def prodT (xs : List Int) : Nat → Int
  | 0 => 1
  | k + 1 => prodT xs k * gi xs k
set_option maxRecDepth 100000 in
theorem t_product (p : Option Addr) (cap : Nat) (xs : List Int) (w : World) (hx : RdI w p xs) (hl : xs.length ≤ 1000) (hm : ∀ k, k ≤ xs.length → Mid (prodT xs k)) :
    Calls Tryz.prog 74 #[.slice p xs.length cap] w fun e w' => e = .returned (.int .i64 (prodT xs xs.length)) ∧ w = w' := by
  have HX := Lib.hid hx; have HM := Lib.hid hm; clear hx hm
  go_enter Tryz.func74, Tryz.ntmps74
  go_wp2
  go_loopw [3, 8] (fun v i wr => ∃ k : Nat, k ≤ xs.length ∧ i = .int .i64 k ∧ v = .int .i64 (prodT xs k) ∧ w = wr) (fun _ i _ => xs.length - (intOf i).toNat)
  case atStart => exact ⟨0, Nat.zero_le _, rfl, rfl, rfl⟩
  case round =>
    obtain ⟨k, hk, rfl, rfl, rfl⟩ := hrel
    by_cases hlt : k < xs.length
    · have hltI : decide ((k : Int) < (xs.length : Int)) = true := by simp; omega
      obtain ⟨b, off, rfl, hc⟩ := HX.out.at hlt; have d0 := hc k hlt; have HS := Lib.hid (show prodT xs (k + 1) = prodT xs k * gi xs k from rfl); have hmm := HM.out (k + 1) (by omega); rw [HS.out] at hmm; unfold Mid at hmm; obtain ⟨P, hP⟩ : ∃ P, prodT xs k = P := ⟨_, rfl⟩; obtain ⟨x, hxx⟩ : ∃ x, gi xs k = x := ⟨_, rfl⟩; rw [hP, hxx] at HS hmm; rw [hxx] at d0; rw [hP]; obtain ⟨Q, hQ⟩ : ∃ Q, P * x = Q := ⟨_, rfl⟩; rw [hQ] at HS hmm; have hw : IntKind.i64.wrap (P * x) = Q := by rw [hQ]; exact w64 _ (by omega) (by omega)
      clear hP hxx hQ hc; go_wp2; go_roundw
      case rel => exact ⟨k + 1, by omega, by go_num, by rw [HS.out], trivial⟩
      case measure => simp [intOf]; omega
    · obtain rfl : k = xs.length := by omega
      have hltI : decide ((xs.length : Int) < (xs.length : Int)) = false := by simp
      go_wp2; go_ret; exact ⟨rfl, rfl⟩
set_option maxRecDepth 100000 in
theorem t_isFraction (n d : Int) (w : World) : Calls Tryz.prog 34 #[.agg #[.int .i64 n, .int .i64 d]] w fun e w' => e = .returned (.bool (inB n 0 50000 && inB d 1 50000)) ∧ Below w.heap.size w w' := by
  obtain ⟨w0, e0, HS0, k0, k1, b0⟩ := box2 w (.int .i64 n) (.int .i64 d) 27; have HB := Lib.hid b0; clear b0
  rcases h1 : inB n 0 50000 with _ | _
  · go_enter Tryz.func34, Tryz.ntmps34
    go_wp2_with fail; refine (t_in _ _ _ _).mono ?_; rw [h1]; rintro e w' ⟨rfl, rfl⟩; go_wp2; go_ret; exact ⟨rfl, HB.out⟩
  · go_enter Tryz.func34, Tryz.ntmps34
    go_wp2_with fail; refine (t_in _ _ _ _).mono ?_; rw [h1]; rintro e w' ⟨rfl, rfl⟩; go_wp2_with fail; refine (t_in _ _ _ _).mono ?_; rintro e w' ⟨rfl, rfl⟩; go_wp2; go_ret; exact ⟨rfl, HB.out⟩
theorem box5 (w : World) (a b c d e : Value) (t : TypeId) : ∃ w0, w.alloc (.cells #[a, b, c, d, e] t) = w0 ∧ Hid (w0.heap.size = w.heap.size + 1) ∧
    w0.cell? ⟨w.heap.size, 0, none⟩ = some a ∧ w0.cell? ⟨w.heap.size, 1, none⟩ = some b ∧ w0.cell? ⟨w.heap.size, 2, none⟩ = some c ∧ w0.cell? ⟨w.heap.size, 3, none⟩ = some d ∧ w0.cell? ⟨w.heap.size, 4, none⟩ = some e ∧ Below w.heap.size w w0 :=
  ⟨_, rfl, Lib.hid (by simp), by rw [at_new]; rfl, by rw [at_new]; rfl, by rw [at_new]; rfl, by rw [at_new]; rfl, by rw [at_new]; rfl, below_alloc1 _ _⟩
theorem t_ruleNot (x : Int) (w : World) : Calls Tryz.prog 73 #[.int .i64 x] w fun e w' => e = .returned (.bool (!inB x 4 60)) ∧ Below w.heap.size w w' := by
  go_enter Tryz.func73, Tryz.ntmps73
  go_wp2_with fail; refine (t_teeth _ _).mono ?_; rintro e w' ⟨rfl, rfl⟩; go_wp2; go_ret; exact ⟨rfl, Below.refl _ _⟩
set_option maxHeartbeats 400000 in
set_option maxRecDepth 100000 in
theorem ix_rule (p : Option Addr) (cap : Nat) (xs : List Int) (w : World) (hx : RdI w p xs) (hl : xs.length ≤ 1000000) :
    Calls Tryz.prog 89 #[.slice p xs.length cap, .func (.func 73) #[] #[]] w (BadPost xs.length (fun j => (fun x => inB x 4 60) (gi xs j)) w) := by
  have HX := Lib.hid hx; clear hx
  go_enter Tryz.func89, Tryz.ntmps89
  go_wp2
  go_loopw [8] (fun i wr => ∃ k : Nat, k ≤ xs.length ∧ i = .int .i64 k ∧ Hid (∀ j, j < k → (fun x => inB x 4 60) (gi xs j) = true) ∧ Below w.heap.size w wr) (fun i _ => xs.length - (intOf i).toNat)
  case atStart => exact ⟨0, by omega, rfl, Lib.hid (by intro j hj; omega), Below.refl _ _⟩
  case round =>
    obtain ⟨k, hk, rfl, HH, hnx⟩ := hrel; have HN := Lib.hid hnx
    by_cases hlt : k < xs.length
    · obtain ⟨b, off, rfl, hc⟩ := (HX.out.below hnx).at hlt
      obtain e1 := hc k hlt; have hcl : Calls Tryz.prog 73 #[.int .i64 (gi xs k)] wr fun e w' => e = .returned (.bool (!(fun x => inB x 4 60) (gi xs k))) ∧ Below wr.heap.size wr w' := t_ruleNot (gi xs k) wr
      clear hc hnx
      rcases hb : (fun x => inB x 4 60) (gi xs k) with _ | _
      · have HB := Lib.hid hb
        rw [hb] at hcl; clear hb; go_wp2_with fail; refine hcl.mono ?_; rintro e w4 ⟨rfl, b4⟩; have HN2 := Lib.hid (HN.out.trans (b4.mono HN.out.size)); clear hcl b4; go_wp2; go_ret; exact ⟨k, .inr ⟨by omega, k, hlt, HB.out⟩, rfl, HN2.out⟩
      · have HB := Lib.hid hb
        rw [hb] at hcl; clear hb; go_wp2_with fail; refine hcl.mono ?_; rintro e w4 ⟨rfl, b4⟩; have HN2 := Lib.hid (HN.out.trans (b4.mono HN.out.size)); clear hcl b4; go_wp2; go_roundw
        case rel =>
          refine ⟨k + 1, by omega, by go_num, Lib.hid fun j hj => ?_, HN2.out⟩
          rcases Nat.lt_or_ge j k with h | h
          · exact HH.out j h
          · obtain rfl : j = k := by omega
            exact HB.out
        case measure => simp [intOf]; omega
    · obtain rfl : k = xs.length := by omega
      go_wp2; go_ret; exact ⟨-1, .inl ⟨rfl, HH.out⟩, rfl, HN.out⟩
set_option maxRecDepth 100000 in
theorem cf_rule (p : Option Addr) (cap : Nat) (xs : List Int) (w : World) (hx : RdI w p xs) (hl : xs.length ≤ 1000000) :
    Calls Tryz.prog 42 #[.slice p xs.length cap, .func (.func 73) #[] #[]] w fun e w' => e = .returned (.bool (!xs.all (fun x => inB x 4 60))) ∧ Below w.heap.size w w' := by
  have h := ix_rule p cap xs w hx hl; clear hx
  go_enter Tryz.func42, Tryz.ntmps42
  go_wp2_with fail; refine h.mono ?_; rintro e w' ⟨r, hr, rfl, hb⟩; have HB := Lib.hid hb; clear h hb
  rcases hr with ⟨rfl, hh⟩ | ⟨h0, j, hj, hb⟩
  · have HG := Lib.hid (all_ok (f := (fun x => inB x 4 60)) (d := 0) (l := xs) hh)
    clear hh; go_wp2; go_ret; exact ⟨by rw [HG.out]; rfl, HB.out⟩
  · have HG := Lib.hid (all_bad (f := (fun x => inB x 4 60)) (d := 0) (l := xs) hj hb)
    clear hb; go_wp2; go_ret; exact ⟨by rw [HG.out]; simp, HB.out⟩
def pairB (m : Int × Int) : Bool := inB m.1 4 60 && inB m.2 4 60
theorem t_pairNot (a b : Int) (w : World) : Calls Tryz.prog 138 #[.agg #[.int .i64 a, .int .i64 b]] w fun e w' => e = .returned (.bool (!pairB (a, b))) ∧ Below w.heap.size w w' := by
  obtain ⟨w0, e0, HS0, k0, k1, b0⟩ := box2 w (.int .i64 a) (.int .i64 b) 99; have HB := Lib.hid b0; clear b0; have HP := Lib.hid (show pairB (a, b) = (inB a 4 60 && inB b 4 60) from rfl)
  rcases h1 : inB a 4 60 with _ | _
  · rw [h1] at HP
    go_enter Tryz.func138, Tryz.ntmps138
    go_wp2_with fail; refine (t_teeth _ _).mono ?_; rw [h1]; rintro e w' ⟨rfl, rfl⟩; go_wp2; go_ret; exact ⟨by rw [HP.out]; rfl, HB.out⟩
  · rw [h1] at HP
    go_enter Tryz.func138, Tryz.ntmps138
    go_wp2_with fail; refine (t_teeth _ _).mono ?_; rw [h1]; rintro e w' ⟨rfl, rfl⟩; go_wp2_with fail; refine (t_teeth _ _).mono ?_; rintro e w' ⟨rfl, rfl⟩; go_wp2; go_ret; exact ⟨by rw [HP.out, Bool.true_and]; rfl, HB.out⟩
set_option maxHeartbeats 400000 in
set_option maxRecDepth 100000 in
theorem ix_pair (p : Option Addr) (cap : Nat) (xs : List (Int × Int)) (w : World) (hx : RdS w p xs) (hl : xs.length ≤ 1000000) :
    Calls Tryz.prog 158 #[.slice p xs.length cap, .func (.func 138) #[] #[]] w (BadPost xs.length (fun j => pairB (gm xs j)) w) := by
  have HX := Lib.hid hx; clear hx
  go_enter Tryz.func158, Tryz.ntmps158
  go_wp2
  go_loopw [8] (fun i wr => ∃ k : Nat, k ≤ xs.length ∧ i = .int .i64 k ∧ Hid (∀ j, j < k → pairB (gm xs j) = true) ∧ Below w.heap.size w wr) (fun i _ => xs.length - (intOf i).toNat)
  case atStart => exact ⟨0, by omega, rfl, Lib.hid (by intro j hj; omega), Below.refl _ _⟩
  case round =>
    obtain ⟨k, hk, rfl, HH, hnx⟩ := hrel; have HN := Lib.hid hnx
    by_cases hlt : k < xs.length
    · obtain ⟨b, off, rfl, hc⟩ := (HX.out.below hnx).at hlt
      obtain ⟨e1, e2⟩ := hc k hlt; have hcl : Calls Tryz.prog 138 #[.agg #[.int .i64 (gm xs k).1, .int .i64 (gm xs k).2]] wr fun e w' => e = .returned (.bool (!pairB (gm xs k))) ∧ Below wr.heap.size wr w' := t_pairNot (gm xs k).1 (gm xs k).2 wr
      clear hc hnx
      rcases hb : pairB (gm xs k) with _ | _
      · have HB := Lib.hid hb
        rw [hb] at hcl; clear hb; go_wp2_with fail; refine hcl.mono ?_; rintro e w4 ⟨rfl, b4⟩; have HN2 := Lib.hid (HN.out.trans (b4.mono HN.out.size)); clear hcl b4; go_wp2; go_ret; exact ⟨k, .inr ⟨by omega, k, hlt, HB.out⟩, rfl, HN2.out⟩
      · have HB := Lib.hid hb
        rw [hb] at hcl; clear hb; go_wp2_with fail; refine hcl.mono ?_; rintro e w4 ⟨rfl, b4⟩; have HN2 := Lib.hid (HN.out.trans (b4.mono HN.out.size)); clear hcl b4; go_wp2; go_roundw
        case rel =>
          refine ⟨k + 1, by omega, by go_num, Lib.hid fun j hj => ?_, HN2.out⟩
          rcases Nat.lt_or_ge j k with h | h
          · exact HH.out j h
          · obtain rfl : j = k := by omega
            exact HB.out
        case measure => simp [intOf]; omega
    · obtain rfl : k = xs.length := by omega
      go_wp2; go_ret; exact ⟨-1, .inl ⟨rfl, HH.out⟩, rfl, HN.out⟩
set_option maxRecDepth 100000 in
theorem cf_pair (p : Option Addr) (cap : Nat) (xs : List (Int × Int)) (w : World) (hx : RdS w p xs) (hl : xs.length ≤ 1000000) :
    Calls Tryz.prog 137 #[.slice p xs.length cap, .func (.func 138) #[] #[]] w fun e w' => e = .returned (.bool (!xs.all pairB)) ∧ Below w.heap.size w w' := by
  have h := ix_pair p cap xs w hx hl; clear hx
  go_enter Tryz.func137, Tryz.ntmps137
  go_wp2_with fail; refine h.mono ?_; rintro e w' ⟨r, hr, rfl, hb⟩; have HB := Lib.hid hb; clear h hb
  rcases hr with ⟨rfl, hh⟩ | ⟨h0, j, hj, hb⟩
  · have HG := Lib.hid (all_ok (f := pairB) (d := (0, 0)) (l := xs) hh)
    clear hh; go_wp2; go_ret; exact ⟨by rw [HG.out]; rfl, HB.out⟩
  · have HG := Lib.hid (all_bad (f := pairB) (d := (0, 0)) (l := xs) hj hb)
    clear hb; go_wp2; go_ret; exact ⟨by rw [HG.out]; simp, HB.out⟩
theorem t_index (p : Option Addr) (cap : Nat) (xs : List Int) (x : Int) (w : World) (hx : RdI w p xs) (hl : xs.length ≤ 1000000) :
    Calls Tryz.prog 123 #[.slice p xs.length cap, .int .i64 x] w fun e w' => (∃ r : Int, e = .returned (.int .i64 r) ∧ ((0 ≤ r ∧ xs.contains x = true) ∨ (r = -1 ∧ xs.contains x = false))) ∧ w = w' := by
  have HX := Lib.hid hx; clear hx
  go_enter Tryz.func123, Tryz.ntmps123
  go_wp2
  go_loopw [8] (fun i wr => ∃ k : Nat, k ≤ xs.length ∧ i = .int .i64 k ∧ Hid (∀ j, j < k → gi xs j ≠ x) ∧ w = wr) (fun i _ => xs.length - (intOf i).toNat)
  case atStart => exact ⟨0, Nat.zero_le _, rfl, Lib.hid (fun j h => by omega), rfl⟩
  case round =>
    obtain ⟨k, hk, rfl, HN, rfl⟩ := hrel
    by_cases hlt : k < xs.length
    · have hltI : decide ((k : Int) < (xs.length : Int)) = true := by simp; omega
      obtain ⟨b, off, rfl, hc⟩ := HX.out.at hlt; have d0 := hc k hlt; have HL := Lib.hid hlt; obtain ⟨y, hy⟩ : ∃ y, gi xs k = y := ⟨_, rfl⟩; rw [hy] at d0; have HY := Lib.hid hy; clear hc hy
      by_cases he : x = y
      · have hb : (x == y) = true := by rw [beq_iff_eq]; exact he
        have HM := Lib.hid (show xs.contains x = true by rw [he, ← HY.out, gi_get _ _ HL.out]; simp); clear he; go_wp2; go_ret; exact ⟨⟨_, rfl, .inl ⟨by omega, HM.out⟩⟩, rfl⟩
      · have hb : (x == y) = false := by rw [beq_eq_false_iff_ne]; exact he
        have HN2 := Lib.hid (show ∀ j, j < k + 1 → gi xs j ≠ x from fun j hj => by
          by_cases h : j < k
          · exact HN.out j h
          · obtain rfl : j = k := by omega
            rw [HY.out]; exact Ne.symm he)
        clear he; go_wp2; go_roundw
        case rel => exact ⟨k + 1, by omega, by go_num, HN2, trivial⟩
        case measure => simp [intOf]; omega
    · obtain rfl : k = xs.length := by omega
      have hltI : decide ((xs.length : Int) < (xs.length : Int)) = false := by simp
      have HM := Lib.hid (show xs.contains x = false by
        rw [← Bool.not_eq_true, List.contains_iff_mem]; intro hm; obtain ⟨j, hj, e⟩ := List.getElem_of_mem hm; exact HN.out j hj (by rw [gi_get _ _ hj]; exact e))
      go_wp2; go_ret; exact ⟨⟨_, rfl, .inr ⟨rfl, HM.out⟩⟩, rfl⟩
theorem t_contains (p : Option Addr) (cap : Nat) (xs : List Int) (x : Int) (w : World) (hx : RdI w p xs) (hl : xs.length ≤ 1000000) :
    Calls Tryz.prog 77 #[.slice p xs.length cap, .int .i64 x] w fun e w' => e = .returned (.bool (xs.contains x)) ∧ w = w' := by
  have h := t_index p cap xs x w hx hl; clear hx
  go_enter Tryz.func77, Tryz.ntmps77
  go_wp2_with fail; refine h.mono ?_; clear h; rintro e w' ⟨⟨r, rfl, ⟨h0, hm⟩ | ⟨rfl, hm⟩⟩, rfl⟩
  · have HM := Lib.hid hm
    have hd : decide (r ≥ 0) = true := decide_eq_true h0; clear hm; go_wp2; go_ret; exact ⟨by rw [HM.out]; rfl, rfl⟩
  · have HM := Lib.hid hm
    clear hm; go_wp2; go_ret; exact ⟨by rw [HM.out]; rfl, rfl⟩
structure RuleOk (lo hi pr se : Int) (nv : List Int) : Prop where
  flo : 4 ≤ lo ∧ lo ≤ 60
  fhi : 4 ≤ hi ∧ hi ≤ 60
  fle : lo ≤ hi
  fpr : 1 ≤ pr ∧ pr ≤ 3
  fse : 1 ≤ se ∧ se ≤ 3
  flen : nv.length ≤ 6
  fnv : nv.all (fun x => inB x 4 60) = true
set_option maxRecDepth 100000 in
theorem t_isRule (lo hi pr se : Int) (p : Option Addr) (cap : Nat) (nv : List Int) (w : World) (hx : RdI w p nv) (h : RuleOk lo hi pr se nv) :
    Calls Tryz.prog 33 #[.agg #[.int .i64 lo, .int .i64 hi, .int .i64 pr, .int .i64 se, .slice p nv.length cap]] w fun e w' => e = .returned (.bool true) ∧ Below w.heap.size w w' := by
  obtain ⟨w0, e0, HS0, k0, k1, k2, k3, k4, b0⟩ := box5 w (.int .i64 lo) (.int .i64 hi) (.int .i64 pr) (.int .i64 se) (.slice p nv.length cap) 25; have HB := Lib.hid b0; have hcf := cf_rule p cap nv w0 (hx.below b0) (by have := h.flen; omega); rw [h.fnv] at hcf; have h1 : inB lo 4 60 = true := inB_iff.2 h.flo; have h2 : inB hi 4 60 = true := inB_iff.2 h.fhi; have h3 : decide (lo ≤ hi) = true := decide_eq_true h.fle; have h4 : inB pr 1 3 = true := inB_iff.2 h.fpr; have h5 : inB (se - 1) 0 2 = true := inB_iff.2 ⟨by have := h.fse; omega, by have := h.fse; omega⟩; have hws : IntKind.i64.wrap (se - 1) = se - 1 := w64 _ (by have := h.fse; omega) (by have := h.fse; omega); have h6 : decide ((nv.length : Int) ≤ 6) = true := decide_eq_true (by have := h.flen; omega); clear b0 hx h
  go_enter Tryz.func33, Tryz.ntmps33
  go_wp2_with fail; refine (t_teeth _ _).mono ?_; rw [h1]; rintro e w' ⟨rfl, rfl⟩; go_wp2_with fail; refine (t_teeth _ _).mono ?_; rw [h2]; rintro e w' ⟨rfl, rfl⟩; go_wp2_with fail; refine (t_in _ _ _ _).mono ?_; rw [h4]; rintro e w' ⟨rfl, rfl⟩; go_wp2_with fail; refine (t_in _ _ _ _).mono ?_; rw [h5]; rintro e w' ⟨rfl, rfl⟩; go_wp2_with fail; refine hcf.mono ?_; rintro e w' ⟨rfl, b1⟩; have HB2 := Lib.hid (HB.out.trans (b1.mono HB.out.size)); clear b1; go_wp2; go_ret; exact ⟨rfl, HB2.out⟩
end Go.Proofs.YtchclaipbahiiaaGreat
end

section
namespace Go.Proofs.YtchclaipbahiiaaGreat
open Go Go.RowKit Go.Proofs
set_option linter.unusedVariables false
attribute [local go_sem] imax2 imin2
theorem wq_inv {P : Program} {C : World → Prop} {ops : Array Oper} {Q : Act → Prop} {rest : List Oper} {a : Act} {d : Nat} {x : Operand} {ty : TypeId} {pos nm : String} {af : Array Edge} {g : Option (Nat × Bool)} {ats : Array TypeId} {v : Value} {f : FuncId} {ars : Array Value}
    (hr : ∀ w, (execOp a.eval ⟨some d, .call ⟨.invoke x nm, #[], ats⟩, ty, pos, af, g⟩).run P w = .ok (.enter f ars) w)
    (hc : ∀ w, C w → Calls P f ars w fun e w' => e = .returned v ∧ C w') (hw : Region.wanted ⟨some d, .call ⟨.invoke x nm, #[], ats⟩, ty, pos, af, g⟩ (yielded ops a.tmps) = true)
    (hk : wpQuiet P ops C Q rest (a.put (some d) v)) : wpQuiet P ops C Q (⟨some d, .call ⟨.invoke x nm, #[], ats⟩, ty, pos, af, g⟩ :: rest) a :=
  wq hw (q_call v f ars (fun w _ => hr w) hc hk)
def AfterPost (q : Option Addr) (cq : Nat) (pl pc : List Int) (m : Int) (w : World) (e : Ending) (w' : World) : Prop :=
  ∃ hv, e = .returned (.agg #[.slice q pl.length cq, hv]) ∧ w'.ownsRow w.heap.size 3 1 hv (pl.length + 1) (inV (mvF pl pc m)) ∧ Below w.heap.size w w'
theorem asOn (v : Value) (w : World) : (Instr.typeAssert (.iface 234 v) 231 234 true).run Tryz.prog w = .ok (.tuple #[v, .bool true]) w := by kernel_rfl
theorem asBackOn (v : Value) (w : World) : (Instr.typeAssert (.iface 235 v) 231 234 true).run Tryz.prog w = .ok (.tuple #[.int .i64 0, .bool false]) w := by kernel_rfl
theorem asBack (v : Value) (w : World) : (Instr.typeAssert (.iface 235 v) 231 235 true).run Tryz.prog w = .ok (.tuple #[v, .bool true]) w := by kernel_rfl
attribute [local go_sem] asOn asBackOn asBack
set_option maxHeartbeats 1600000 in
set_option maxRecDepth 100000 in
theorem c_after_on (q : Option Addr) (cq : Nat) (pl : List Int) (pb po pcap : Nat) (pc : List Int) (m : Int) (w : World) (hq : RdI w q pl) (hpc : RdI w (some ⟨pb, po, none⟩) pc) (hp : PlOk pl) (hch : Chain pl pc) (hr : ∀ i, i < pc.length → -100000 ≤ gi pc i ∧ gi pc i ≤ 100000) (hm : 0 ≤ m) (hm2 : m ≤ 100000) :
    Calls Tryz.prog 168 #[.agg #[.slice q pl.length cq, .slice (some ⟨pb, po, none⟩) pc.length pcap], .iface 234 (.int .i64 m)] w (AfterPost q cq pl pc m w) := by
  obtain ⟨w1, e1, HS1, k0, k1, b1⟩ := box2 w (.slice q pl.length cq) (.slice (some ⟨pb, po, none⟩) pc.length pcap) 125; have kb := alloc_new w1 (.cells #[.slice none 0 0, .slice none 0 0] 125); obtain ⟨w2, e2, HS2, _, _, b2⟩ := box2 w1 (.slice none 0 0) (.slice none 0 0) 125; rw [e2] at kb; have hcl := c_Clone pb po pcap pc w2 ((hpc.below b1).below b2) (by have := hch.len; have := hp.len; omega); have k0 := (b2.cell (lt_of_cellq k0)).trans k0; have k1 := (b2.cell (lt_of_cellq k1)).trans k1; have HQ := Lib.hid ((hq.below b1).below b2); have HB := Lib.hid (b1.trans (b2.mono b1.size)); have HK0 := Lib.hid k0; have HKB := Lib.hid kb; have HP := Lib.hid hp; have HCH := Lib.hid hch; have HR := Lib.hid hr; have HLE := Lib.hid hch.len; have HNB := Lib.hid (show -100000 ≤ -m ∧ -m ≤ 100000 ∨ 0 ≤ m by omega); clear hq hpc hp hch hr b1 b2
  go_enter Tryz.func168, Tryz.ntmps168
  go_wp2_with fail; refine hcl.mono ?_; rintro e w3 ⟨v, rfl, hown, hb3⟩; clear e1 e2 hcl
  obtain ⟨g, cap, rfl⟩ : ∃ g cap, v = .slice (some ⟨g, 0, none⟩) pc.length cap := by
    rcases hown.2 with ⟨_, h0⟩ | ⟨g', cap', cur, h1, _⟩
    · have := HLE.out; omega
    · exact ⟨g', cap', h1⟩
  have e0 := own_cell hown (j := 0) (by have := HLE.out; omega); have HOW := Lib.hid hown; have HB3 := Lib.hid hb3; have hr0 := HR.out 0 (by have := HLE.out; omega); obtain ⟨hr01, hr02⟩ := hr0; have h0l : 0 < pc.length := by have := HLE.out; omega
  clear hown hb3 kb k0 k1; go_upto_region 2 with (fail); refine wp_region_below_tail 7 (by kernel_rfl) (by kernel_rfl) ?_; simp only [List.take_succ_cons, List.take_zero, List.drop_succ_cons, List.drop_zero]; (repeat (first | ((with_reducible first | apply wq_fg faP0 | apply wq_fg faP1 | apply wq_fg faP2 | apply wq_fg faM0 | apply wq_fg faS0 | apply wq_fg faS1 | apply wq_fg faR0 | apply wq_fg faR1 | apply wq_fg faR2 | apply wq_fg faR3 | apply wq_fg faT0 | apply wq_fg faT1 | apply wq_fg faQ0 | apply wq_fg faQ1 | apply wq_fg faH0 | apply wq_fg faH1 | apply wq_fg faH2 | apply wq_fg faH3); (focus rfl); (focus rfl); go_frame) | ((with_reducible refine wq_inv (v := .int .i64 m) (f := 193) (ars := #[.int .i64 m]) (fun _ => by kernel_rfl) (fun w' hw => (c_on m w').mono fun e w'' h => ⟨h.1, h.2 ▸ hw⟩) ?_ ?_); (focus rfl); go_frame) | ((with_reducible first | apply wq_ix Tryz.underlying23 szI | apply wq_ix Tryz.underlying48 szSp | apply wq_ix Tryz.underlying56 szM | apply wq_ix Tryz.underlying57 szR | apply wq_ix Tryz.underlying90 szL | apply wq_ix Tryz.underlying118 szT); (focus rfl); (focus rfl); (focus rfl); (focus omega); (try simp only [Nat.mul_one]); go_frame) | ((with_reducible first | apply wq_ld agI | apply wq_ld agB | apply wq_ld agLI | apply wq_ld agLS | apply wq_ld agLM | apply wq_ld agLR | apply wq_ld agLL | apply wq_ld agLT); (focus rfl); (focus rfl); (focus (intro _ hbq; first | exact (hbq.cell (lt_of_cellq e0)).trans e0)); go_frame) | ((with_reducible first | apply wq_add | apply wq_sub | apply wq_mul | apply wq_rem); (focus rfl); (focus rfl); (focus rfl); (focus omega); (focus omega); go_frame) | ((with_reducible first | apply wq_eql | apply wq_neq | apply wq_lss | apply wq_leq | apply wq_gtr | apply wq_geq | apply wq_max2 | apply wq_min2); (focus rfl); (focus rfl); (focus rfl); go_frame) | ((with_reducible first | apply wq_max3 | apply wq_min3); (focus rfl); (focus rfl); (focus rfl); (focus rfl); go_frame) | go_big_quiet_step (fail))); refine wpQuiet_nil ?_; intro wq hbq
  have e0 := (hbq.cell (lt_of_cellq e0)).trans e0; have f0 := (hbq.frozen (p := ⟨g, 0, none⟩) (own_lt HOW.out).2).trans (own_frozen HOW.out 0); obtain ⟨w4, s4⟩ : ∃ w4, wq.setCell ⟨g, 0, none⟩ (.int .i64 (gi pc 0 + m)) = w4 := ⟨_, rfl⟩
  have HO4 := Lib.hid (show w4.ownsRow w2.heap.size 3 1 (.slice (some ⟨g, 0, none⟩) pc.length cap) pc.length (inV (mvTo pl pc m 0)) by
    have := own_put (own_kept HOW.out hbq) (j := 0) h0l (.int .i64 (gi pc 0 + m)); rw [inV_set, mvTo_zero m HLE.out, s4] at this; exact this)
  have HB4 := Lib.hid (show Below w2.heap.size w2 w4 by
    have := (HB3.out.trans (hbq.mono HB3.out.size)).setCell (p := ⟨g, 0, none⟩) (own_lt HOW.out).1 (.int .i64 (gi pc 0 + m)); rw [s4] at this; exact this)
  have k0 := (HB4.out.cell (lt_of_cellq HK0.out)).trans HK0.out; clear hbq; go_wp2; clear s4 e0 f0
  go_loopw [21] (fun i wr => ∃ k : Nat, k ≤ pl.length ∧ i = .int .i64 k ∧ Hid (wr.ownsRow w2.heap.size 3 1 (.slice (some ⟨g, 0, none⟩) pc.length cap) pc.length (inV (mvTo pl pc m k))) ∧ Below w2.heap.size w2 wr) (fun i _ => pl.length - (intOf i).toNat)
  case atStart => exact ⟨0, by omega, rfl, HO4, HB4.out⟩
  case round =>
    obtain ⟨k, hk, rfl, HO, hnx⟩ := hrel; have HN := Lib.hid hnx
    by_cases hlt : k < pl.length
    · obtain ⟨b, off, rfl, hc⟩ := (HQ.out.below hnx).at hlt
      have e1 := hc k hlt; have hle := HLE.out; have e2 : wr.cell? ⟨g, 0 + k, none⟩ = some (.int .i64 (gi (mvTo pl pc m k) k)) := by rw [Nat.zero_add]; exact own_cell HO.out (by rw [mvTo_len]; omega)
      have e3 : wr.cell? ⟨g, 0 + (k + 1), none⟩ = some (.int .i64 (gi (mvTo pl pc m k) (k + 1))) := by rw [Nat.zero_add]; exact own_cell HO.out (by rw [mvTo_len]; omega)
      have f3 : wr.frozen? ⟨g, 0 + (k + 1), none⟩ = false := own_frozen HO.out _
      have hrk : -1000000 ≤ gi (mvTo pl pc m k) k ∧ gi (mvTo pl pc m k) k ≤ 1000000 := by
        rw [mvTo_done pl pc m k (by omega), mvF_on hm k (by omega)]; have h1 := HP.out.sum k (by omega); have h2 := HR.out k (by omega); omega
      have hrp := HP.out.in' k hlt; obtain ⟨hrk1, hrk2⟩ := hrk; obtain ⟨hrp1, hrp2⟩ := hrp; have HV := Lib.hid (show max (gi (mvTo pl pc m k) (k + 1)) (gi (mvTo pl pc m k) k - gi pl k) = gi (mvF pl pc m) (k + 1) by rw [mvTo_next pl pc m k hlt, mvTo_done pl pc m k (by omega)]; exact (mvF_stepOn HCH.out hm k hlt).symm); have HKS := Lib.hid (show (k : Int) + 1 = ((k + 1 : Nat) : Int) by omega); have HLEH := Lib.hid hle; have hpl := HP.out.len; have hl1 : k + 1 < pc.length := by omega
      have hl0 : k < pc.length := by omega
      clear hc hnx hle; go_upto_region 8 with (fail); refine wp_region_below_tail 16 (by kernel_rfl) (by kernel_rfl) ?_; simp only [List.take_succ_cons, List.take_zero, List.drop_succ_cons, List.drop_zero]; (repeat (first | ((with_reducible first | apply wq_fg faP0 | apply wq_fg faP1 | apply wq_fg faP2 | apply wq_fg faM0 | apply wq_fg faS0 | apply wq_fg faS1 | apply wq_fg faR0 | apply wq_fg faR1 | apply wq_fg faR2 | apply wq_fg faR3 | apply wq_fg faT0 | apply wq_fg faT1 | apply wq_fg faQ0 | apply wq_fg faQ1 | apply wq_fg faH0 | apply wq_fg faH1 | apply wq_fg faH2 | apply wq_fg faH3); (focus rfl); (focus rfl); go_frame) | (rw [HKS.out]) | ((with_reducible first | apply wq_ix Tryz.underlying23 szI | apply wq_ix Tryz.underlying48 szSp | apply wq_ix Tryz.underlying56 szM | apply wq_ix Tryz.underlying57 szR | apply wq_ix Tryz.underlying90 szL | apply wq_ix Tryz.underlying118 szT); (focus rfl); (focus rfl); (focus rfl); (focus omega); (try simp only [Nat.mul_one]); go_frame) | ((with_reducible first | apply wq_ld agI | apply wq_ld agB | apply wq_ld agLI | apply wq_ld agLS | apply wq_ld agLM | apply wq_ld agLR | apply wq_ld agLL | apply wq_ld agLT); (focus rfl); (focus rfl); (focus (intro _ hbq; first | exact (hbq.cell (lt_of_cellq e2)).trans e2 | exact (hbq.cell (lt_of_cellq e3)).trans e3)); go_frame) | ((with_reducible first | apply wq_add | apply wq_sub | apply wq_mul | apply wq_rem); (focus rfl); (focus rfl); (focus rfl); (focus omega); (focus omega); go_frame) | ((with_reducible first | apply wq_eql | apply wq_neq | apply wq_lss | apply wq_leq | apply wq_gtr | apply wq_geq | apply wq_max2 | apply wq_min2); (focus rfl); (focus rfl); (focus rfl); go_frame) | ((with_reducible first | apply wq_max3 | apply wq_min3); (focus rfl); (focus rfl); (focus rfl); (focus rfl); go_frame) | go_big_quiet_step (fail))); refine wpQuiet_nil ?_; intro wq hbq
      have e3 := (hbq.cell (lt_of_cellq e3)).trans e3; have f3 := (hbq.frozen (p := ⟨g, 0 + (k + 1), none⟩) (own_lt HO.out).2).trans f3; obtain ⟨w5, s5⟩ : ∃ w5, wq.setCell ⟨g, 0 + (k + 1), none⟩ (.int .i64 (gi (mvF pl pc m) (k + 1))) = w5 := ⟨_, rfl⟩
      have HO5 := Lib.hid (show w5.ownsRow w2.heap.size 3 1 (.slice (some ⟨g, 0, none⟩) pc.length cap) pc.length (inV (mvTo pl pc m (k + 1))) by
        have := own_put (own_kept HO.out hbq) (j := k + 1) hl1 (.int .i64 (gi (mvF pl pc m) (k + 1))); rw [inV_set, mvTo_succ pl pc m k hlt] at this; rw [Nat.zero_add] at s5; rw [s5] at this; exact this)
      have HB5 := Lib.hid (show Below w2.heap.size w2 w5 by
        have := (HN.out.trans (hbq.mono HN.out.size)).setCell (p := ⟨g, 0 + (k + 1), none⟩) (own_lt HO.out).1 (.int .i64 (gi (mvF pl pc m) (k + 1))); rw [s5] at this; exact this)
      clear hbq e1 e2; rw [HV.out]; rw [Nat.zero_add] at e3 f3 s5; go_wp2; clear s5 e3 f3; go_roundw
      case rel => exact ⟨k + 1, by omega, by go_num, HO5, HB5.out⟩
      case measure => simp [intOf]; omega
    · obtain rfl : k = pl.length := by omega
      have k0 := (hnx.cell (lt_of_cellq HK0.out)).trans HK0.out; have HKR := Lib.hid ((hnx.block w1.heap.size (by have := HS2.out; omega)).trans HKB.out); obtain ⟨w5, w6, s1, s2, ⟨c0, f0⟩, ⟨c1, f1⟩, hx4, hxk, HZ, hxb⟩ := set2 wr w1.heap.size 125 _ _ (.slice q pl.length cq) (.slice (some ⟨g, 0, none⟩) pc.length cap) HKR.out; obtain ⟨r0, r1⟩ := cells2 hx4; have HOW6 := Lib.hid (own_same HO.out (w' := w6) (fun g' hg' => hxk g' (by have := own_lt HO.out; have h2 := HS2.out; simp [Value.ownBlock] at hg'; omega))); have HBB := Lib.hid (hxb w w.heap.size (by have := HS1.out; omega) (HB.out.trans (hnx.mono HB.out.size))); clear hnx hx4 hxk hxb; go_wp2; refine bodyPost_ret (v := .agg #[.slice q pl.length cq, .slice (some ⟨g, 0, none⟩) pc.length cap]) ?_ rfl ⟨_, rfl, ?_, HBB.out⟩
      · simp [results, Tryz.results168, go_sem, r0, r1]
      · have := HOW6.out
        rw [mvTo_all] at this; rw [← HLE.out]; exact own_mono this HB.out.size
theorem mvF_backZ {pl pc : List Int} {m : Int} (hc : Chain pl pc) (hm : m ≤ 0) (k : Nat) (h : k ≤ pl.length) : gi (mvF pl pc m) k = min (gi pc k) (gi pc 0 + m) := by
  by_cases h0 : m = 0
  · subst h0
    rw [mvF_on (Int.le_refl 0) k h]; have := hc.low k h; have := hc.top k h; omega
  · exact mvF_back (by omega) k h
theorem mvF_stepBackZ {pl pc : List Int} {m : Int} (hc : Chain pl pc) (hm : m ≤ 0) (k : Nat) (h : k < pl.length) : gi (mvF pl pc m) (k + 1) = min (gi pc (k + 1)) (gi (mvF pl pc m) k) := by
  rw [mvF_backZ hc hm k (by omega), mvF_backZ hc hm (k + 1) (by omega)]; have := hc.le k h; omega
set_option maxHeartbeats 1600000 in
set_option maxRecDepth 100000 in
theorem c_after_back (q : Option Addr) (cq : Nat) (pl : List Int) (pb po pcap : Nat) (pc : List Int) (m : Int) (w : World) (hq : RdI w q pl) (hpc : RdI w (some ⟨pb, po, none⟩) pc) (hp : PlOk pl) (hch : Chain pl pc) (hr : ∀ i, i < pc.length → -100000 ≤ gi pc i ∧ gi pc i ≤ 100000) (hm : m ≤ 0) (hm2 : -100000 ≤ m) :
    Calls Tryz.prog 168 #[.agg #[.slice q pl.length cq, .slice (some ⟨pb, po, none⟩) pc.length pcap], .iface 235 (.int .i64 (-m))] w (AfterPost q cq pl pc m w) := by
  obtain ⟨w1, e1, HS1, k0, k1, b1⟩ := box2 w (.slice q pl.length cq) (.slice (some ⟨pb, po, none⟩) pc.length pcap) 125; have kb := alloc_new w1 (.cells #[.slice none 0 0, .slice none 0 0] 125); obtain ⟨w2, e2, HS2, _, _, b2⟩ := box2 w1 (.slice none 0 0) (.slice none 0 0) 125; rw [e2] at kb; have hcl := c_Clone pb po pcap pc w2 ((hpc.below b1).below b2) (by have := hch.len; have := hp.len; omega); have k0 := (b2.cell (lt_of_cellq k0)).trans k0; have k1 := (b2.cell (lt_of_cellq k1)).trans k1; have HQ := Lib.hid ((hq.below b1).below b2); have HB := Lib.hid (b1.trans (b2.mono b1.size)); have HK0 := Lib.hid k0; have HKB := Lib.hid kb; have HP := Lib.hid hp; have HCH := Lib.hid hch; have HR := Lib.hid hr; have HLE := Lib.hid hch.len; have HNB := Lib.hid (show -100000 ≤ -m ∧ -m ≤ 100000 ∨ 0 ≤ m by omega); clear hq hpc hp hch hr b1 b2
  go_enter Tryz.func168, Tryz.ntmps168
  go_wp2_with fail; refine hcl.mono ?_; rintro e w3 ⟨v, rfl, hown, hb3⟩; clear e1 e2 hcl
  obtain ⟨g, cap, rfl⟩ : ∃ g cap, v = .slice (some ⟨g, 0, none⟩) pc.length cap := by
    rcases hown.2 with ⟨_, h0⟩ | ⟨g', cap', cur, h1, _⟩
    · have := HLE.out; omega
    · exact ⟨g', cap', h1⟩
  have e0 := own_cell hown (j := 0) (by have := HLE.out; omega); have HOW := Lib.hid hown; have HB3 := Lib.hid hb3; have hr0 := HR.out 0 (by have := HLE.out; omega); obtain ⟨hr01, hr02⟩ := hr0; have h0l : 0 < pc.length := by have := HLE.out; omega
  clear hown hb3 kb k0 k1; go_upto_region 2 with (fail); refine wp_region_below_tail 7 (by kernel_rfl) (by kernel_rfl) ?_; simp only [List.take_succ_cons, List.take_zero, List.drop_succ_cons, List.drop_zero]; (repeat (first | ((with_reducible first | apply wq_fg faP0 | apply wq_fg faP1 | apply wq_fg faP2 | apply wq_fg faM0 | apply wq_fg faS0 | apply wq_fg faS1 | apply wq_fg faR0 | apply wq_fg faR1 | apply wq_fg faR2 | apply wq_fg faR3 | apply wq_fg faT0 | apply wq_fg faT1 | apply wq_fg faQ0 | apply wq_fg faQ1 | apply wq_fg faH0 | apply wq_fg faH1 | apply wq_fg faH2 | apply wq_fg faH3); (focus rfl); (focus rfl); go_frame) | ((with_reducible refine wq_inv (v := .int .i64 m) (f := 194) (ars := #[.int .i64 (-m)]) (fun _ => by kernel_rfl) (fun w' hw => (c_back (-m) w' (by omega)).mono fun e w'' h => ⟨by rw [h.1, Int.neg_neg], h.2 ▸ hw⟩) ?_ ?_); (focus rfl); go_frame) | ((with_reducible first | apply wq_ix Tryz.underlying23 szI | apply wq_ix Tryz.underlying48 szSp | apply wq_ix Tryz.underlying56 szM | apply wq_ix Tryz.underlying57 szR | apply wq_ix Tryz.underlying90 szL | apply wq_ix Tryz.underlying118 szT); (focus rfl); (focus rfl); (focus rfl); (focus omega); (try simp only [Nat.mul_one]); go_frame) | ((with_reducible first | apply wq_ld agI | apply wq_ld agB | apply wq_ld agLI | apply wq_ld agLS | apply wq_ld agLM | apply wq_ld agLR | apply wq_ld agLL | apply wq_ld agLT); (focus rfl); (focus rfl); (focus (intro _ hbq; first | exact (hbq.cell (lt_of_cellq e0)).trans e0)); go_frame) | ((with_reducible first | apply wq_add | apply wq_sub | apply wq_mul | apply wq_rem); (focus rfl); (focus rfl); (focus rfl); (focus omega); (focus omega); go_frame) | ((with_reducible first | apply wq_eql | apply wq_neq | apply wq_lss | apply wq_leq | apply wq_gtr | apply wq_geq | apply wq_max2 | apply wq_min2); (focus rfl); (focus rfl); (focus rfl); go_frame) | ((with_reducible first | apply wq_max3 | apply wq_min3); (focus rfl); (focus rfl); (focus rfl); (focus rfl); go_frame) | go_big_quiet_step (fail))); refine wpQuiet_nil ?_; intro wq hbq
  have e0 := (hbq.cell (lt_of_cellq e0)).trans e0; have f0 := (hbq.frozen (p := ⟨g, 0, none⟩) (own_lt HOW.out).2).trans (own_frozen HOW.out 0); obtain ⟨w4, s4⟩ : ∃ w4, wq.setCell ⟨g, 0, none⟩ (.int .i64 (gi pc 0 + m)) = w4 := ⟨_, rfl⟩
  have HO4 := Lib.hid (show w4.ownsRow w2.heap.size 3 1 (.slice (some ⟨g, 0, none⟩) pc.length cap) pc.length (inV (mvTo pl pc m 0)) by
    have := own_put (own_kept HOW.out hbq) (j := 0) h0l (.int .i64 (gi pc 0 + m)); rw [inV_set, mvTo_zero m HLE.out, s4] at this; exact this)
  have HB4 := Lib.hid (show Below w2.heap.size w2 w4 by
    have := (HB3.out.trans (hbq.mono HB3.out.size)).setCell (p := ⟨g, 0, none⟩) (own_lt HOW.out).1 (.int .i64 (gi pc 0 + m)); rw [s4] at this; exact this)
  have k0 := (HB4.out.cell (lt_of_cellq HK0.out)).trans HK0.out; clear hbq; go_wp2; clear s4 e0 f0
  go_loopw [21] (fun i wr => ∃ k : Nat, k ≤ pl.length ∧ i = .int .i64 k ∧ Hid (wr.ownsRow w2.heap.size 3 1 (.slice (some ⟨g, 0, none⟩) pc.length cap) pc.length (inV (mvTo pl pc m k))) ∧ Below w2.heap.size w2 wr) (fun i _ => pl.length - (intOf i).toNat)
  case atStart => exact ⟨0, by omega, rfl, HO4, HB4.out⟩
  case round =>
    obtain ⟨k, hk, rfl, HO, hnx⟩ := hrel; have HN := Lib.hid hnx
    by_cases hlt : k < pl.length
    · obtain ⟨b, off, rfl, hc⟩ := (HQ.out.below hnx).at hlt
      have e1 := hc k hlt; have hle := HLE.out; have e2 : wr.cell? ⟨g, 0 + k, none⟩ = some (.int .i64 (gi (mvTo pl pc m k) k)) := by rw [Nat.zero_add]; exact own_cell HO.out (by rw [mvTo_len]; omega)
      have e3 : wr.cell? ⟨g, 0 + (k + 1), none⟩ = some (.int .i64 (gi (mvTo pl pc m k) (k + 1))) := by rw [Nat.zero_add]; exact own_cell HO.out (by rw [mvTo_len]; omega)
      have f3 : wr.frozen? ⟨g, 0 + (k + 1), none⟩ = false := own_frozen HO.out _
      have hrk : -1000000 ≤ gi (mvTo pl pc m k) k ∧ gi (mvTo pl pc m k) k ≤ 1000000 := by
        rw [mvTo_done pl pc m k (by omega), mvF_backZ HCH.out hm k (by omega)]; have h1 := HP.out.sum k (by omega); have h2 := HR.out k (by omega); omega
      have hrp := HP.out.in' k hlt; obtain ⟨hrk1, hrk2⟩ := hrk; obtain ⟨hrp1, hrp2⟩ := hrp; have HV := Lib.hid (show min (gi (mvTo pl pc m k) (k + 1)) (gi (mvTo pl pc m k) k) = gi (mvF pl pc m) (k + 1) by rw [mvTo_next pl pc m k hlt, mvTo_done pl pc m k (by omega)]; exact (mvF_stepBackZ HCH.out hm k hlt).symm); have HKS := Lib.hid (show (k : Int) + 1 = ((k + 1 : Nat) : Int) by omega); have HLEH := Lib.hid hle; have hpl := HP.out.len; have hl1 : k + 1 < pc.length := by omega
      have hl0 : k < pc.length := by omega
      clear hc hnx hle; go_upto_region 10 with (fail); refine wp_region_below_tail 14 (by kernel_rfl) (by kernel_rfl) ?_; simp only [List.take_succ_cons, List.take_zero, List.drop_succ_cons, List.drop_zero]; (repeat (first | ((with_reducible first | apply wq_fg faP0 | apply wq_fg faP1 | apply wq_fg faP2 | apply wq_fg faM0 | apply wq_fg faS0 | apply wq_fg faS1 | apply wq_fg faR0 | apply wq_fg faR1 | apply wq_fg faR2 | apply wq_fg faR3 | apply wq_fg faT0 | apply wq_fg faT1 | apply wq_fg faQ0 | apply wq_fg faQ1 | apply wq_fg faH0 | apply wq_fg faH1 | apply wq_fg faH2 | apply wq_fg faH3); (focus rfl); (focus rfl); go_frame) | (rw [HKS.out]) | ((with_reducible first | apply wq_ix Tryz.underlying23 szI | apply wq_ix Tryz.underlying48 szSp | apply wq_ix Tryz.underlying56 szM | apply wq_ix Tryz.underlying57 szR | apply wq_ix Tryz.underlying90 szL | apply wq_ix Tryz.underlying118 szT); (focus rfl); (focus rfl); (focus rfl); (focus omega); (try simp only [Nat.mul_one]); go_frame) | ((with_reducible first | apply wq_ld agI | apply wq_ld agB | apply wq_ld agLI | apply wq_ld agLS | apply wq_ld agLM | apply wq_ld agLR | apply wq_ld agLL | apply wq_ld agLT); (focus rfl); (focus rfl); (focus (intro _ hbq; first | exact (hbq.cell (lt_of_cellq e2)).trans e2 | exact (hbq.cell (lt_of_cellq e3)).trans e3)); go_frame) | ((with_reducible first | apply wq_add | apply wq_sub | apply wq_mul | apply wq_rem); (focus rfl); (focus rfl); (focus rfl); (focus omega); (focus omega); go_frame) | ((with_reducible first | apply wq_eql | apply wq_neq | apply wq_lss | apply wq_leq | apply wq_gtr | apply wq_geq | apply wq_max2 | apply wq_min2); (focus rfl); (focus rfl); (focus rfl); go_frame) | ((with_reducible first | apply wq_max3 | apply wq_min3); (focus rfl); (focus rfl); (focus rfl); (focus rfl); go_frame) | go_big_quiet_step (fail))); refine wpQuiet_nil ?_; intro wq hbq
      have e3 := (hbq.cell (lt_of_cellq e3)).trans e3; have f3 := (hbq.frozen (p := ⟨g, 0 + (k + 1), none⟩) (own_lt HO.out).2).trans f3; obtain ⟨w5, s5⟩ : ∃ w5, wq.setCell ⟨g, 0 + (k + 1), none⟩ (.int .i64 (gi (mvF pl pc m) (k + 1))) = w5 := ⟨_, rfl⟩
      have HO5 := Lib.hid (show w5.ownsRow w2.heap.size 3 1 (.slice (some ⟨g, 0, none⟩) pc.length cap) pc.length (inV (mvTo pl pc m (k + 1))) by
        have := own_put (own_kept HO.out hbq) (j := k + 1) hl1 (.int .i64 (gi (mvF pl pc m) (k + 1))); rw [inV_set, mvTo_succ pl pc m k hlt] at this; rw [Nat.zero_add] at s5; rw [s5] at this; exact this)
      have HB5 := Lib.hid (show Below w2.heap.size w2 w5 by
        have := (HN.out.trans (hbq.mono HN.out.size)).setCell (p := ⟨g, 0 + (k + 1), none⟩) (own_lt HO.out).1 (.int .i64 (gi (mvF pl pc m) (k + 1))); rw [s5] at this; exact this)
      clear hbq e1 e2; rw [HV.out]; rw [Nat.zero_add] at e3 f3 s5; go_wp2; clear s5 e3 f3; go_roundw
      case rel => exact ⟨k + 1, by omega, by go_num, HO5, HB5.out⟩
      case measure => simp [intOf]; omega
    · obtain rfl : k = pl.length := by omega
      have k0 := (hnx.cell (lt_of_cellq HK0.out)).trans HK0.out; have HKR := Lib.hid ((hnx.block w1.heap.size (by have := HS2.out; omega)).trans HKB.out); obtain ⟨w5, w6, s1, s2, ⟨c0, f0⟩, ⟨c1, f1⟩, hx4, hxk, HZ, hxb⟩ := set2 wr w1.heap.size 125 _ _ (.slice q pl.length cq) (.slice (some ⟨g, 0, none⟩) pc.length cap) HKR.out; obtain ⟨r0, r1⟩ := cells2 hx4; have HOW6 := Lib.hid (own_same HO.out (w' := w6) (fun g' hg' => hxk g' (by have := own_lt HO.out; have h2 := HS2.out; simp [Value.ownBlock] at hg'; omega))); have HBB := Lib.hid (hxb w w.heap.size (by have := HS1.out; omega) (HB.out.trans (hnx.mono HB.out.size))); clear hnx hx4 hxk hxb; go_wp2; refine bodyPost_ret (v := .agg #[.slice q pl.length cq, .slice (some ⟨g, 0, none⟩) pc.length cap]) ?_ rfl ⟨_, rfl, ?_, HBB.out⟩
      · simp [results, Tryz.results168, go_sem, r0, r1]
      · have := HOW6.out
        rw [mvTo_all] at this; rw [← HLE.out]; exact own_mono this HB.out.size
end Go.Proofs.YtchclaipbahiiaaGreat
end

section
namespace Go.Proofs.YtchclaipbahiiaaGreat
open Go Go.RowKit Go.Proofs
set_option linter.unusedVariables false
attribute [local go_sem] imax2 imin2
theorem PlaysOk.plok {p : Pc} (hp : PieceOk p) {pl : List Int} (h : PlaysOk p pl) : PlOk pl := by
  have h1 := pieceB_iff.2 hp
  rw [pieceB_parts] at h1
  simp only [Bool.and_eq_true, decide_eq_true_eq] at h1
  obtain ⟨⟨⟨⟨⟨h1, _⟩, _⟩, _⟩, _⟩, _⟩ := h1
  have := inB_iff.1 h1
  have h2 := h.len
  exact ⟨by omega, h.in'⟩
theorem c_after (q : Option Addr) (cq : Nat) (pl : List Int) (g cap n : Nat) (pc : List Int) (m : Int) (w : World) (hq : RdI w q pl) (hpc : RdI w (some ⟨g, 0, none⟩) pc) (hn : pc.length = n) (hp : PlOk pl) (hch : Chain pl pc) (hr : ∀ i, i < pc.length → -100000 ≤ gi pc i ∧ gi pc i ≤ 100000) (hm : -100000 ≤ m ∧ m ≤ 100000) :
    Calls Tryz.prog 168 #[.agg #[.slice q pl.length cq, .slice (some ⟨g, 0, none⟩) n cap], mvV m] w (AfterPost q cq pl pc m w) := by
  subst hn
  by_cases h : 0 ≤ m
  · rw [mvV_on h]; exact c_after_on q cq pl g 0 cap pc m w hq hpc hp hch hr h hm.2
  · rw [mvV_back (by omega)]; exact c_after_back q cq pl g 0 cap pc m w hq hpc hp hch hr (by omega) hm.1
def trV (pv : Value) : List Value → List Value
  | [] => []
  | h :: r => pv :: h :: trV pv r
theorem trV_append (pv : Value) (a b : List Value) : trV pv (a ++ b) = trV pv a ++ trV pv b := by
  induction a with
  | nil => rfl
  | cons h r ih => simp [trV, ih]
theorem trV_get (pv : Value) : ∀ (hs : List Value) (i : Nat) (h : Value), hs[i]? = some h → (trV pv hs)[i * 2]? = some pv ∧ (trV pv hs)[i * 2 + 1]? = some h := by
  intro hs
  induction hs with
  | nil => intro i h hh; simp at hh
  | cons x r ih =>
    intro i h hh
    cases i with
    | zero => simp at hh; subst hh; exact ⟨rfl, rfl⟩
    | succ i =>
      rw [show (i + 1) * 2 = i * 2 + 2 by omega]
      exact ih i h (by simpa using hh)
def ElC (w : World) (B : Nat) (css : List (List Int)) (hs : List Value) : Prop := hs.length = css.length ∧ ∀ i, i < css.length → ∃ g cap, hs[i]? = some (.slice (some ⟨g, 0, none⟩) (gl css i).length cap) ∧ w.ownsRow B 3 1 (.slice (some ⟨g, 0, none⟩) (gl css i).length cap) (gl css i).length (inV (gl css i))
theorem ElC.below {w w' : World} {B : Nat} {css : List (List Int)} {hs : List Value} (h : ElC w B css hs) (hb : Below w.heap.size w w') : ElC w' B css hs := by
  refine ⟨h.1, fun i hi => ?_⟩
  obtain ⟨g, cap, e1, e2⟩ := h.2 i hi
  exact ⟨g, cap, e1, own_kept e2 hb⟩
theorem ElC.mono {w : World} {B B' : Nat} {css : List (List Int)} {hs : List Value} (h : ElC w B css hs) (hB : B' ≤ B) : ElC w B' css hs := by
  refine ⟨h.1, fun i hi => ?_⟩
  obtain ⟨g, cap, e1, e2⟩ := h.2 i hi
  exact ⟨g, cap, e1, own_mono e2 hB⟩
theorem ElC.grown {w w' : World} {B B' n size e : Nat} {css : List (List Int)} {hs xs : List Value} {v : Value} (h : ElC w B css hs) (ho : w.ownsRow B' e size v n xs) (he : e ≠ 3) (hg : w.grownBy w' v.ownBlock) : ElC w' B css hs := by
  refine ⟨h.1, fun i hi => ?_⟩
  obtain ⟨g, cap, e1, e2⟩ := h.2 i hi
  exact ⟨g, cap, e1, e2.kept hg (own_apart e2 ho (Ne.symm he))⟩
theorem gl_snoc (css : List (List Int)) (x : List Int) (i : Nat) : gl (css ++ [x]) i = if i < css.length then gl css i else if i = css.length then x else [] := by
  unfold gl
  rw [List.getD_eq_getElem?_getD, List.getD_eq_getElem?_getD]
  by_cases h : i < css.length
  · rw [if_pos h, List.getElem?_append_left h]
  · rw [if_neg h, List.getElem?_append_right (by omega)]
    by_cases h2 : i = css.length
    · subst h2; simp
    · rw [if_neg h2, List.getElem?_eq_none (by simp; omega)]; rfl
theorem ElC.snoc {w : World} {B : Nat} {css : List (List Int)} {hs : List Value} {x : List Int} {g cap : Nat} (h : ElC w B css hs) (hx : w.ownsRow B 3 1 (.slice (some ⟨g, 0, none⟩) x.length cap) x.length (inV x)) : ElC w B (css ++ [x]) (hs ++ [.slice (some ⟨g, 0, none⟩) x.length cap]) := by
  refine ⟨by simp [h.1], fun i hi => ?_⟩
  rw [List.length_append, List.length_singleton] at hi
  rw [gl_snoc]
  by_cases h1 : i < css.length
  · obtain ⟨g', c', e1, e2⟩ := h.2 i h1
    rw [if_pos h1]
    exact ⟨g', c', by rw [List.getElem?_append_left (by rw [h.1]; omega)]; exact e1, e2⟩
  · obtain rfl : i = css.length := by omega
    rw [if_neg h1, if_pos rfl]
    exact ⟨g, cap, by rw [← h.1]; simp, hx⟩
theorem own_form {w : World} {B e size n : Nat} {v : Value} {xs : List Value} (h : w.ownsRow B e size v (n + 1) xs) : ∃ g cap, v = .slice (some ⟨g, 0, none⟩) (n + 1) cap := by
  rcases h.2 with ⟨_, h0⟩ | ⟨g, cap, cur, h1, _⟩
  · omega
  · exact ⟨g, cap, h1⟩
theorem rd_of_own0 {w : World} {B g n cap : Nat} {xs : List Int} (h : w.ownsRow B 3 1 (.slice (some ⟨g, 0, none⟩) n cap) n (inV xs)) : RdI w (some ⟨g, 0, none⟩) xs :=
  .inr ⟨g, 0, rfl, fun i hi => by rw [Nat.zero_add]; exact own_cell h hi⟩
def RunPost (pv : Value) (pl mv : List Int) (w : World) (e : Ending) (w' : World) : Prop :=
  ∃ g cap hs, e = .returned (.slice (some ⟨g, 0, none⟩) (mv.length + 1) cap) ∧ w'.ownsRow w.heap.size 125 2 (.slice (some ⟨g, 0, none⟩) (mv.length + 1) cap) (mv.length + 1) (trV pv hs) ∧ ElC w' w.heap.size (allF pl mv mv.length) hs ∧ Below w.heap.size w w'
set_option maxHeartbeats 1600000 in
set_option maxRecDepth 100000 in
theorem c_run (pm pv pr : Option Addr) (cm cv cr : Nat) (p : Pc) (q : Option Addr) (cq : Nat) (pl : List Int) (w : World) (hv : RdI w pv p.mv) (hq : RdI w q pl) (hp : PieceOk p) (hpl : PlaysOk p pl) :
    Calls Tryz.prog 162 #[.agg #[.slice pm p.ms.length cm, .slice pv p.mv.length cv, .slice pr p.rs.length cr], .slice q pl.length cq] w (RunPost (.slice q pl.length cq) pl p.mv w) := by
  obtain ⟨i0, hi0, hz0, hz1, hz2⟩ := info_parts infT
  obtain ⟨w1, e1, HS1, _, k1, _, b1⟩ := box3 w (.slice pm p.ms.length cm) (.slice pv p.mv.length cv) (.slice pr p.rs.length cr) 59
  have hcl := c_begun q cq pl w1 (hq.below b1) (hpl.plok hp)
  have HQ := Lib.hid (hq.below b1)
  have HV := Lib.hid (hv.below b1)
  have HB1 := Lib.hid b1
  have HP := Lib.hid hp
  have HPL := Lib.hid hpl
  have hml := HP.out
  clear hv hq hp hpl b1
  go_enter Tryz.func162, Tryz.ntmps162
  go_wp2_with fail
  refine hcl.mono ?_
  rintro e w2 ⟨v, rfl, hown, hb2⟩
  clear e1 hcl
  obtain ⟨g0, c0, rfl⟩ := own_form hown
  have k1 := (hb2.cell (lt_of_cellq k1)).trans k1
  obtain ⟨w3, e3, HS3, _, _, b3⟩ := box2 w2 (.slice q pl.length cq) (.slice (some ⟨g0, 0, none⟩) (pl.length + 1) c0) 125
  have hrow := World.ownsRow_lit (base := w1.heap.size) (e := 125) (size := 2) w2 #[.slice q pl.length cq, .slice (some ⟨g0, 0, none⟩) (pl.length + 1) c0] 1 hb2.size (by unfold maxLen; omega) (by simp)
  rw [e3] at hrow
  have k1 := (b3.cell (lt_of_cellq k1)).trans k1
  have HEL := Lib.hid (show ElC w3 w1.heap.size (allF pl p.mv 0) [.slice (some ⟨g0, 0, none⟩) (pl.length + 1) c0] by
    rw [allF_zero]
    refine ⟨rfl, fun i hi => ?_⟩
    obtain rfl : i = 0 := by simp at hi; exact hi
    have e : (gl [begF pl] 0).length = pl.length + 1 := begF_len pl
    rw [e]
    exact ⟨g0, c0, rfl, own_kept hown b3⟩)
  have HRW := Lib.hid hrow
  have HB3 := Lib.hid (show Below w1.heap.size w1 w3 from hb2.trans (b3.mono hb2.size))
  have hs31 := HB3.out.size
  clear hown hb2 hrow b3
  go_wp2
  clear e3
  go_loopw [5, 15] (fun v i wr => ∃ (k g cap : Nat) (hs : List Value), k ≤ p.mv.length ∧ i = .int .i64 k ∧ v = .slice (some ⟨g, 0, none⟩) (k + 1) cap ∧ Hid (wr.ownsRow w1.heap.size 125 2 (.slice (some ⟨g, 0, none⟩) (k + 1) cap) (k + 1) (trV (.slice q pl.length cq) hs)) ∧ Hid (ElC wr w1.heap.size (allF pl p.mv k) hs) ∧ Below w1.heap.size w1 wr) (fun _ i _ => p.mv.length - (intOf i).toNat)
  case atStart => exact ⟨0, w2.heap.size, 1, [.slice (some ⟨g0, 0, none⟩) (pl.length + 1) c0], by omega, rfl, rfl, HRW, HEL, HB3.out⟩
  case round =>
    obtain ⟨k, g, cap, hs, hk, rfl, rfl, HO, HE, hnx⟩ := hrel
    have HN := Lib.hid hnx
    by_cases hlt : k < p.mv.length
    · obtain ⟨b, off, rfl, hc⟩ := (HV.out.below hnx).at hlt
      have e1 := hc k hlt
      obtain ⟨gk, ck, hek, hok⟩ := HE.out.2 k (by rw [allF_len]; omega)
      rw [allF_at _ _ _ _ (Nat.le_refl k)] at hek hok
      have hcn := runF_chain HPL.out.pos p.mv k
      have hlk := hcn.len
      rw [hlk] at hek hok
      obtain ⟨t0, t1⟩ := trV_get (.slice q pl.length cq) hs k _ hek
      have d0 := HO.out.cells (g := g) rfl _ _ t0
      have d1 := HO.out.cells (g := g) rfl _ _ t1
      rw [add_new] at d0 d1
      have HQr := Lib.hid (HQ.out.below hnx)
      have HPC := Lib.hid (rd_of_own0 hok)
      have HNN := Lib.hid hlk
      have HPK := Lib.hid (HPL.out.plok HP.out)
      have HCN := Lib.hid hcn
      have HRG := Lib.hid (show ∀ i, i < (runF pl p.mv k).length → -100000 ≤ gi (runF pl p.mv k) i ∧ gi (runF pl p.mv k) i ≤ 100000 from fun i hi => by
        have := place_range HP.out HPL.out k i (by omega) (by omega)
        omega)
      have HMR := Lib.hid (show -100000 ≤ gi p.mv k ∧ gi p.mv k ≤ 100000 by have := HP.out.move k hlt; omega)
      have HNK := Lib.hid (show runF pl p.mv (k + 1) = mvF pl (runF pl p.mv k) (gi p.mv k) from rfl)
      have h0k : (0 : Int) ≤ (k : Int) := by omega
      have hkk : (k : Int) < (k : Int) + 1 := by omega
      clear hc hnx hcn hlk hek hok t0 t1
      go_upto_region 5 with (fail)
      have HA0 := Lib.hid (show ∀ o : Obj, (wr.alloc o).cell? ⟨g, k * 2, none⟩ = some (.slice q pl.length cq) ∧ (wr.alloc o).cell? ⟨g, k * 2 + 1, none⟩ = some (.slice (some ⟨gk, 0, none⟩) (pl.length + 1) ck) from fun o => ⟨((below_alloc1 wr o).cell (lt_of_cellq d0)).trans d0, ((below_alloc1 wr o).cell (lt_of_cellq d1)).trans d1⟩)
      go_region_held3 (fun w' => w'.cell? ⟨g, k * 2, none⟩ = some (.slice q pl.length cq) ∧ w'.cell? ⟨g, k * 2 + 1, none⟩ = some (.slice (some ⟨gk, 0, none⟩) (pl.length + 1) ck))
          (first | exact HS.out | exact HA.out _ | exact HA0.out _ | exact ⟨d0, d1⟩ | exact kB)
          (first
            | (go_at_call 169; (with_reducible refine (c_turned (gi p.mv k) _ HMR.out).mono ?_); rintro e wa ⟨rfl, rfl⟩)
            | (go_at_call 168; (with_reducible refine (c_after q cq pl gk ck (pl.length + 1) (runF pl p.mv k) (gi p.mv k) wr.drew (HQr.out.below ((Below.refl _ _).drew)) (HPC.out.below ((Below.refl _ _).drew)) HNN.out HPK.out HCN.out HRG.out HMR.out).mono ?_); rintro e wb ⟨hv, rfl, hov, hbv⟩; obtain ⟨ga, ca, rfl⟩ := own_form hov
               have kB : wb.cell? ⟨g, k * 2, none⟩ = some (.slice q pl.length cq) ∧ wb.cell? ⟨g, k * 2 + 1, none⟩ = some (.slice (some ⟨gk, 0, none⟩) (pl.length + 1) ck) := ⟨(hbv.cell (lt_of_cellq d0)).trans d0, (hbv.cell (lt_of_cellq d1)).trans d1⟩
               have HA : Hid (∀ o : Obj, (wb.alloc o).cell? ⟨g, k * 2, none⟩ = some (.slice q pl.length cq) ∧ (wb.alloc o).cell? ⟨g, k * 2 + 1, none⟩ = some (.slice (some ⟨gk, 0, none⟩) (pl.length + 1) ck)) := Lib.hid fun o => ⟨((below_alloc1 wb o).cell (lt_of_cellq kB.1)).trans kB.1, ((below_alloc1 wb o).cell (lt_of_cellq kB.2)).trans kB.2⟩
               obtain ⟨w6, e6, HS6, y0, y1, b6⟩ := box2 wb (.slice q pl.length cq) (.slice (some ⟨ga, 0, none⟩) (pl.length + 1) ca) 125
               have hbw : Below wr.heap.size wr wb := ⟨hbv.os, hbv.tape, hbv.output, hbv.size, hbv.block⟩
               have HBX := Lib.hid (hbw.trans (b6.mono hbw.size))
               have HOX := Lib.hid (own_mono (own_kept hov b6) (show wr.heap.size ≤ wr.drew.heap.size from Nat.le_refl _))
               have HS : Hid (w6.cell? ⟨g, k * 2, none⟩ = some (.slice q pl.length cq) ∧ w6.cell? ⟨g, k * 2 + 1, none⟩ = some (.slice (some ⟨gk, 0, none⟩) (pl.length + 1) ck)) := Lib.hid ⟨(b6.cell (lt_of_cellq kB.1)).trans kB.1, (b6.cell (lt_of_cellq kB.2)).trans kB.2⟩
               clear hbw b6)
            | (go_at_call 168; (with_reducible refine (c_after q cq pl gk ck (pl.length + 1) (runF pl p.mv k) (gi p.mv k) (wr.alloc (.cells #[.slice none 0 0, .slice none 0 0] 125)).drew (HQr.out.below ((below_alloc1 wr _).drew)) (HPC.out.below ((below_alloc1 wr _).drew)) HNN.out HPK.out HCN.out HRG.out HMR.out).mono ?_); rintro e wb ⟨hv, rfl, hov, hbv⟩; obtain ⟨ga, ca, rfl⟩ := own_form hov
               have kB : wb.cell? ⟨g, k * 2, none⟩ = some (.slice q pl.length cq) ∧ wb.cell? ⟨g, k * 2 + 1, none⟩ = some (.slice (some ⟨gk, 0, none⟩) (pl.length + 1) ck) := ⟨(hbv.cell (lt_of_cellq (HA0.out (.cells #[.slice none 0 0, .slice none 0 0] 125)).1)).trans (HA0.out _).1, (hbv.cell (lt_of_cellq (HA0.out (.cells #[.slice none 0 0, .slice none 0 0] 125)).2)).trans (HA0.out _).2⟩
               have hzr : wb.heap[wr.heap.size]? = some (.cells #[.slice none 0 0, .slice none 0 0] 125 (0, 0)) := (hbv.block wr.heap.size (by simp)).trans (alloc_new wr _)
               obtain ⟨w5, w6, s5, s6, ⟨z0, zf0⟩, ⟨z1, zf1⟩, hx4, hxk, HZ, hxb⟩ := set2 wb wr.heap.size 125 _ _ (.slice q pl.length cq) (.slice (some ⟨ga, 0, none⟩) (pl.length + 1) ca) hzr
               obtain ⟨y0, y1⟩ := cells2 hx4
               have hbw : Below wr.heap.size wr wb := (below_alloc1 wr (.cells #[.slice none 0 0, .slice none 0 0] 125)).trans (Below.mono ⟨hbv.os, hbv.tape, hbv.output, hbv.size, hbv.block⟩ (by simp))
               have HBX := Lib.hid (hxb wr wr.heap.size (Nat.le_refl _) hbw)
               have HOX := Lib.hid (own_mono (own_same hov (w' := w6) (fun g' hg' => hxk g' (by have := (hov.lt g' hg').1; simp at this; omega))) (show wr.heap.size ≤ (wr.alloc (.cells #[.slice none 0 0, .slice none 0 0] 125)).drew.heap.size by simp))
               have HS : Hid (w6.cell? ⟨g, k * 2, none⟩ = some (.slice q pl.length cq) ∧ w6.cell? ⟨g, k * 2 + 1, none⟩ = some (.slice (some ⟨gk, 0, none⟩) (pl.length + 1) ck)) := Lib.hid ⟨(HBX.out.cell (lt_of_cellq d0)).trans d0, (HBX.out.cell (lt_of_cellq d1)).trans d1⟩
               clear hbw hx4 hxk hxb hzr))
      all_goals
        have HOw := Lib.hid (own_kept HO.out HBX.out)
        have HEw := Lib.hid (HE.out.below HBX.out)
        have hsw := HBX.out.size
        have hs1 := HN.out.size
        have hsb := HB1.out.size
        have hkm : k ≤ 1000 := by have := (pieceB_iff.2 HP.out); rw [pieceB_parts] at this; simp only [Bool.and_eq_true, decide_eq_true_eq] at this; omega
        go_wp2_with (at_builtin; refine wpList_append_own _ rfl _ _ 118 rfl w1.heap.size 125 i0 _ 2 48 Tryz.underlying118 hi0 hz0 hz1 hz2 rfl (by decide) _ _ _ rfl (HOw.out.alloc _) ⟨w6.heap.size, 0, none⟩ 1 1 [.slice q pl.length cq, .slice (some ⟨ga, 0, none⟩) (pl.length + 1) ca] rfl rfl ?c1 ?c2 ?c3 ?c4 ?c5 ?_)
        case c1 => exact news_of _ _ _
        case c2 => intro u hu; simp at hu; rcases hu with rfl | rfl <;> rfl
        case c3 => unfold maxLen; omega
        case c4 => omega
        case c5 => simp; omega
        intro v' w7 hown' hgrow _
        obtain ⟨g', cap', rfl⟩ := own_form hown'
        have HO7 := Lib.hid hown'
        have HB7 := Lib.hid (show Below w1.heap.size w1 w7 from ((HN.out.trans (HBX.out.mono hs1)).trans ((below_alloc1 w6 _).mono (Nat.le_trans hs1 hsw))).grown hgrow (by simp; omega) (fun j hj => (HO.out.lt j hj).1))
        have HE7 := Lib.hid (show ElC w7 w1.heap.size (allF pl p.mv (k + 1)) (hs ++ [.slice (some ⟨ga, 0, none⟩) (pl.length + 1) ca]) by
          have h1 := (HEw.out.below (below_alloc1 w6 (.cells #[.slice q pl.length cq, .slice (some ⟨ga, 0, none⟩) (pl.length + 1) ca] 125))).grown (HOw.out.alloc _) (by decide) hgrow
          have h3 := own_kept HOX.out (below_alloc1 w6 (.cells #[.slice q pl.length cq, .slice (some ⟨ga, 0, none⟩) (pl.length + 1) ca] 125))
          have h2 := h3.kept hgrow (own_apart h3 (HOw.out.alloc _) (by decide))
          have hl : (runF pl p.mv (k + 1)).length = pl.length + 1 := by rw [HNK.out, mvF_len]
          rw [← HNK.out] at h2
          rw [allF_succ, ← hl]
          exact h1.snoc (by rw [hl]; exact own_mono h2 (by omega)))
        clear hown' hgrow
        go_wp2
        go_roundw
        case rel =>
          refine ⟨k + 1, g', cap', hs ++ [.slice (some ⟨ga, 0, none⟩) (pl.length + 1) ca], by omega, by go_num, rfl, Lib.hid ?_, HE7, HB7.out⟩
          have := HO7.out
          rw [trV_append]
          exact this
        case measure => simp [intOf]; omega
    · obtain rfl : k = p.mv.length := by omega
      go_wp2
      go_ret
      exact ⟨g, cap, hs, rfl, own_mono HO.out HB1.out.size, HE.out.mono HB1.out.size, HB1.out.trans (hnx.mono HB1.out.size)⟩
def agreeR (pc : List Int) (i : Nat) (r : Rd) : Bool := !decide (r.aft = (i : Int)) || inB (gi pc r.arb.toNat - r.seen) (-r.off) r.off
def agreesB (rs : List Rd) (pc : List Int) (i : Nat) : Bool := rs.all (agreeR pc i)
theorem agreeAt_eq (p : Pc) (pl : List Int) (i : Nat) : agreeAt p pl i = agreesB p.rs (runF pl p.mv i) i := rfl
def disE (j : Int) : Ending := .panicked [{ v := .iface 225 (.agg #[.int .i64 j]), recovered := false }]
def AgreePost (ok : Bool) (w : World) (e : Ending) (w' : World) : Prop :=
  ((ok = true ∧ e = .returned (.tuple #[])) ∨ (ok = false ∧ ∃ j, e = disE j)) ∧ Below w.heap.size w w'
structure RdsOk (rs : List Rd) (n : Nat) : Prop where
  len : rs.length ≤ 1000
  arb : ∀ j, j < rs.length → 0 ≤ (gr rs j).arb ∧ (gr rs j).arb < n
  seen : ∀ j, j < rs.length → -5000 ≤ (gr rs j).seen ∧ (gr rs j).seen ≤ 5000
  off : ∀ j, j < rs.length → 0 ≤ (gr rs j).off ∧ (gr rs j).off ≤ 50
set_option maxHeartbeats 1600000 in
set_option maxRecDepth 100000 in
theorem c_agree (q : Option Addr) (nq cq g n cap : Nat) (pc : List Int) (pm pv pr : Option Addr) (cm cv cr : Nat) (p : Pc) (i : Nat) (w : World) (hpc : RdI w (some ⟨g, 0, none⟩) pc) (hn : pc.length = n) (hrs : RdR w pr p.rs) (hro : RdsOk p.rs n) (hr : ∀ i, i < pc.length → -100000 ≤ gi pc i ∧ gi pc i ≤ 100000) :
    Calls Tryz.prog 163 #[.agg #[.slice q nq cq, .slice (some ⟨g, 0, none⟩) n cap], .agg #[.slice pm p.ms.length cm, .slice pv p.mv.length cv, .slice pr p.rs.length cr], .int .i64 i] w (AgreePost (agreesB p.rs pc i) w) := by
  obtain ⟨w1, e1, HS1, t0, t1, b1⟩ := box2 w (.slice q nq cq) (.slice (some ⟨g, 0, none⟩) n cap) 125
  obtain ⟨w2, e2, HS2, k0, k1, k2, b2⟩ := box3 w1 (.slice pm p.ms.length cm) (.slice pv p.mv.length cv) (.slice pr p.rs.length cr) 59
  have t1 := (b2.cell (lt_of_cellq t1)).trans t1
  have HPC := Lib.hid ((hpc.below b1).below b2)
  have HRS := Lib.hid ((hrs.below b1).below b2)
  have HB := Lib.hid (b1.trans (b2.mono b1.size))
  have HRO := Lib.hid hro
  have HR := Lib.hid hr
  have HNE := Lib.hid hn
  have HT1 := Lib.hid t1
  clear hpc hrs hro hr hn b1 b2 t0 t1
  go_enter Tryz.func163, Tryz.ntmps163
  go_wp2
  clear e1 e2
  go_loopw [12] (fun v wr => ∃ k : Nat, k ≤ p.rs.length ∧ v = .int .i64 k ∧ Hid (∀ j, j < k → agreeR pc i (gr p.rs j) = true) ∧ Below w2.heap.size w2 wr) (fun v _ => p.rs.length - (intOf v).toNat)
  case atStart => exact ⟨0, by omega, rfl, Lib.hid (by intro j hj; omega), Below.refl _ _⟩
  case round =>
    obtain ⟨k, hk, rfl, HH, hnx⟩ := hrel
    have HN := Lib.hid hnx
    have hlen := HRO.out.len
    by_cases hlt : k < p.rs.length
    · obtain ⟨b, off, rfl, hc⟩ := (HRS.out.below hnx).at hlt
      obtain ⟨a0, a1, a2, a3⟩ := hc k hlt
      obtain ⟨hb1, hb2⟩ := HRO.out.arb k hlt
      obtain ⟨hs1, hs2⟩ := HRO.out.seen k hlt
      obtain ⟨ho1, ho2⟩ := HRO.out.off k hlt
      obtain ⟨a, ha⟩ : ∃ a : Nat, (gr p.rs k).arb = (a : Int) := ⟨(gr p.rs k).arb.toNat, by omega⟩
      rw [ha] at a1 hb1 hb2
      have han : a < n := by omega
      have hpl := HR.out a (by rw [HNE.out]; exact han)
      obtain ⟨hp1, hp2⟩ := hpl
      have t1 := (hnx.cell (lt_of_cellq HT1.out)).trans HT1.out
      obtain ⟨b', off', hbe, hcc⟩ := (HPC.out.below hnx).at (show a < pc.length by rw [HNE.out]; exact han)
      obtain ⟨rfl, rfl⟩ : g = b' ∧ 0 = off' := by cases hbe; exact ⟨rfl, rfl⟩
      have pa := hcc a (by rw [HNE.out]; exact han)
      obtain ⟨w4, e4, HS4, y0, y1, y2, y3, b4⟩ := box4 wr (.int .i64 (gr p.rs k).aft) (.int .i64 (a : Int)) (.int .i64 (gr p.rs k).seen) (.int .i64 (gr p.rs k).off) 116
      have t1 := (b4.cell (lt_of_cellq t1)).trans t1
      have pa := (b4.cell (lt_of_cellq pa)).trans pa
      have HN4 := Lib.hid (HN.out.trans (b4.mono HN.out.size))
      have HAG := Lib.hid (show agreeR pc i (gr p.rs k) = (!decide ((gr p.rs k).aft = (i : Int)) || inB (gi pc a - (gr p.rs k).seen) (-(gr p.rs k).off) (gr p.rs k).off) by unfold agreeR; rw [ha, Int.toNat_natCast])
      have hw : IntKind.i64.wrap (-(gr p.rs k).off) = -(gr p.rs k).off := w64 _ (by omega) (by omega)
      clear hc hcc hnx hbe b4 ha
      go_upto_region 4 with (fail)
      clear e4
      refine wp_region_quiet_below (by kernel_rfl) (by kernel_rfl) ?_; (repeat (first | ((with_reducible first | apply wq_fg faP0 | apply wq_fg faP1 | apply wq_fg faP2 | apply wq_fg faM0 | apply wq_fg faS0 | apply wq_fg faS1 | apply wq_fg faR0 | apply wq_fg faR1 | apply wq_fg faR2 | apply wq_fg faR3 | apply wq_fg faT0 | apply wq_fg faT1 | apply wq_fg faQ0 | apply wq_fg faQ1 | apply wq_fg faH0 | apply wq_fg faH1 | apply wq_fg faH2 | apply wq_fg faH3); (focus rfl); (focus rfl); go_frame) | ((with_reducible first | apply wq_ix Tryz.underlying23 szI | apply wq_ix Tryz.underlying48 szSp | apply wq_ix Tryz.underlying56 szM | apply wq_ix Tryz.underlying57 szR | apply wq_ix Tryz.underlying90 szL | apply wq_ix Tryz.underlying118 szT); (focus rfl); (focus rfl); (focus rfl); (focus omega); (try simp only [Nat.mul_one]); go_frame) | ((with_reducible first | apply wq_ld agI | apply wq_ld agB | apply wq_ld agLI | apply wq_ld agLS | apply wq_ld agLM | apply wq_ld agLR | apply wq_ld agLL | apply wq_ld agLT); (focus rfl); (focus rfl); (focus (intro _ hbq; first | exact (hbq.cell (lt_of_cellq t1)).trans t1 | exact (hbq.cell (lt_of_cellq y1)).trans y1 | exact (hbq.cell (lt_of_cellq y2)).trans y2 | exact (hbq.cell (lt_of_cellq pa)).trans pa)); go_frame) | ((with_reducible first | apply wq_add | apply wq_sub | apply wq_mul | apply wq_rem); (focus rfl); (focus rfl); (focus rfl); (focus omega); (focus omega); go_frame) | ((with_reducible first | apply wq_eql | apply wq_neq | apply wq_lss | apply wq_leq | apply wq_gtr | apply wq_geq | apply wq_max2 | apply wq_min2); (focus rfl); (focus rfl); (focus rfl); go_frame) | ((with_reducible first | apply wq_max3 | apply wq_min3); (focus rfl); (focus rfl); (focus rfl); (focus rfl); go_frame) | go_big_quiet_step (fail))); refine wpQuiet_nil ?_; intro wq hbq
      have y0 := (hbq.cell (lt_of_cellq y0)).trans y0
      have y3 := (hbq.cell (lt_of_cellq y3)).trans y3
      have HN5 := Lib.hid (HN4.out.trans (hbq.mono HN4.out.size))
      clear hbq y1 y2 t1 pa
      by_cases haft : (gr p.rs k).aft = (i : Int)
      · have haft' : ((gr p.rs k).aft == (i : Int)) = true := by simp [haft]
        rcases hin : inB (gi pc a - (gr p.rs k).seen) (-(gr p.rs k).off) (gr p.rs k).off with _ | _
        · have H := Lib.hid (show agreesB p.rs pc i = false from all_bad (f := agreeR pc i) (d := rd0) (l := p.rs) hlt (show agreeR pc i (gr p.rs k) = false by rw [HAG.out, haft, hin]; simp))
          clear haft
          go_wp2_with (go_at_call 104; refine (c_in _ _ _ _).mono ?_; rintro e w' ⟨rfl, rfl⟩)
          exact ⟨rfl, .inr ⟨H.out, k, rfl⟩, HB.out.trans (HN5.out.mono HB.out.size)⟩
        · have HG := Lib.hid (show agreeR pc i (gr p.rs k) = true by rw [HAG.out, hin]; simp)
          clear haft
          go_wp2_with (go_at_call 104; refine (c_in _ _ _ _).mono ?_; rintro e w' ⟨rfl, rfl⟩)
          go_roundw
          case rel =>
            refine ⟨k + 1, by omega, by go_num, Lib.hid fun j hj => ?_, HN5.out⟩
            rcases Nat.lt_or_ge j k with h | h
            · exact HH.out j h
            · obtain rfl : j = k := by omega
              exact HG.out
          case measure => simp [intOf]; omega
      · have haft' : ((gr p.rs k).aft == (i : Int)) = false := by simp [haft]
        have HG := Lib.hid (show agreeR pc i (gr p.rs k) = true by rw [HAG.out, decide_eq_false haft]; rfl)
        clear haft
        go_wp2_with (go_at_call 104; refine (c_in _ _ _ _).mono ?_; rintro e w' ⟨rfl, rfl⟩)
        go_roundw
        case rel =>
          refine ⟨k + 1, by omega, by go_num, Lib.hid fun j hj => ?_, HN5.out⟩
          rcases Nat.lt_or_ge j k with h | h
          · exact HH.out j h
          · obtain rfl : j = k := by omega
            exact HG.out
        case measure => simp [intOf]; omega
    · obtain rfl : k = p.rs.length := by omega
      have H := Lib.hid (show agreesB p.rs pc i = true from all_ok (f := agreeR pc i) (d := rd0) (l := p.rs) HH.out)
      go_wp2
      refine bodyPost_end (results_none rfl _ _ _) rfl ?_
      exact ⟨.inl ⟨H.out, rfl⟩, HB.out.trans (hnx.mono HB.out.size)⟩
end Go.Proofs.YtchclaipbahiiaaGreat
end

section
namespace Go.Proofs.YtchclaipbahiiaaGreat
open Go Go.RowKit Go.Proofs
set_option linter.unusedVariables false
theorem asDis (v : Value) (w : World) : (Instr.typeAssert (.iface 225 v) 20 225 true).run Tryz.prog w = .ok (.tuple #[v, .bool true]) w := by kernel_rfl
theorem rep10 : Array.replicate 10 undef = #[undef, undef, undef, undef, undef, undef, undef, undef, undef, undef] := by rfl
set_option maxRecDepth 100000 in
set_option maxHeartbeats 1000000 in
theorem catch_dis (pt pi : Nat) (a b v0 : Value) (x : Int) (older : List PanicEntry) (w : World) (ht : w.heap[pt]? = some (.cells #[a, b] 125 (0, 0))) (hi : w.heap[pi]? = some (.cells #[v0] 4 (0, 0))) (hne : pt ≠ pi) :
    CallsD Tryz.prog 161 #[.pointer (some ⟨pt, 0, none⟩), .pointer (some ⟨pi, 0, none⟩)] (.panicking ({ v := .iface 225 (.agg #[.int .i64 x]), recovered := false } :: older)) w fun e u' w' =>
      e = .returned (.tuple #[]) ∧ u' = .panicking ({ v := .iface 225 (.agg #[.int .i64 x]), recovered := true } :: older) ∧ w'.heap[pt]? = some (.cells #[.slice none 0 0, .slice none 0 0] 125 (0, 0)) ∧ w'.heap[pi]? = some (.cells #[.bool false] 4 (0, 0)) ∧ (∀ B, B ≤ pt → B ≤ pi → Below B w w') := by
  have hlt := block_lt ht; have hlt2 := block_lt hi; have ha := asDis (.agg #[.int .i64 x]) w; obtain ⟨w1, e1, HS1, y0, _, b1⟩ := box1 w (.int .i64 x) 225; have ht1 := (b1.block pt hlt).trans ht; have hi1 := (b1.block pi hlt2).trans hi; obtain ⟨w2, w3, s2, s3, ⟨c0, f0⟩, ⟨c1, f1⟩, hx4, hxk, HZ, hxb⟩ := set2 w1 pt 125 _ _ (.slice none 0 0) (.slice none 0 0) ht1; have hi3 := (hxk pi (Ne.symm hne)).trans hi1; have d0 : w3.cell? ⟨pi, 0, none⟩ = some v0 := by rw [cell_of_row _ _ _ _ _ _ hi3]; rfl
  have df : w3.frozen? ⟨pi, 0, none⟩ = false := frozen_of_row _ _ _ _ _ hi3; obtain ⟨w4, s4⟩ : ∃ w4, w3.setCell ⟨pi, 0, none⟩ (.bool false) = w4 := ⟨_, rfl⟩; have hi4 : w4.heap[pi]? = some (.cells #[.bool false] 4 (0, 0)) := by rw [← s4]; rw [heap_setCell_same w3 pi 0 _ _ _ hi3]; rfl
  have ht4 : w4.heap[pt]? = some (.cells #[.slice none 0 0, .slice none 0 0] 125 (0, 0)) := by rw [← s4, Below.heap_setCell _ _ _ _ hne]; exact hx4
  have hB4 : ∀ B, B ≤ pt → B ≤ pi → Below B w w4 := fun B h1 h2 => by
    have h3 := hxb w B h1 (b1.mono (by omega)); rw [← s4]; exact h3.setCell h2 _
  have HOUT := Lib.hid (And.intro ht4 (And.intro hi4 hB4)); clear hx4 hxk hxb hi3 ht1 hi1 b1 ht hi hi4 ht4 hB4 y0; refine callsD_of_wpS Tryz.func161 rfl fun c₀ cs hu => ?_
  apply wpS_seq; apply wpS_region; simp [wpOpsS, go_sem, recoverD, hu, Tryz.ntmps161, Exit.thenS, rep10]; refine wpS_of_wp ?_; go_wp2; simp [bodyPostS, results, Tryz.results161]; exact HOUT.out
set_option maxRecDepth 100000 in
theorem catch_dis_idle (pt pi : Nat) (w : World) :
    CallsD Tryz.prog 161 #[.pointer (some ⟨pt, 0, none⟩), .pointer (some ⟨pi, 0, none⟩)] .returning w fun e u' w' => e = .returned (.tuple #[]) ∧ u' = .returning ∧ w' = w := by
  refine callsD_of_wpS Tryz.func161 rfl fun c₀ cs hu => ?_
  apply wpS_seq; apply wpS_region; simp [wpOpsS, go_sem, recoverD, hu, Tryz.ntmps161, Exit.thenS, rep10]; refine wpS_of_wp ?_; go_wp2
  cases c₀
  simp_all [bodyPostS, results, Tryz.results161]
end Go.Proofs.YtchclaipbahiiaaGreat
end

section
namespace Go.Proofs.YtchclaipbahiiaaGreat
open Go Go.RowKit Go.Proofs
set_option linter.unusedVariables false
attribute [local go_sem] imax2 imin2
def LivedPost (pv : Value) (p : Pc) (pl : List Int) (w : World) (e : Ending) (w' : World) : Prop :=
  ((livedB p pl = true ∧ ∃ g cap, e = .returned (.tuple #[.agg #[pv, .slice (some ⟨g, 0, none⟩) (pl.length + 1) cap], .bool true]) ∧ w'.ownsRow w.heap.size 3 1 (.slice (some ⟨g, 0, none⟩) (pl.length + 1) cap) (pl.length + 1) (inV (endF p pl))) ∨
   (livedB p pl = false ∧ e = .returned (.tuple #[.agg #[.slice none 0 0, .slice none 0 0], .bool false]))) ∧ Below w.heap.size w w'
theorem piece_len {p : Pc} (hp : PieceOk p) : (1 ≤ p.ms.length ∧ p.ms.length ≤ 4) ∧ p.mv.length ≤ 8 ∧ p.rs.length ≤ 6 := by
  have h1 := pieceB_iff.2 hp; rw [pieceB_parts] at h1; simp only [Bool.and_eq_true, decide_eq_true_eq] at h1; obtain ⟨⟨⟨⟨⟨h1, _⟩, h2⟩, _⟩, _⟩, _⟩ := h1; have := inB_iff.1 h1; omega
theorem piece_rds {p : Pc} (hp : PieceOk p) : RdsOk p.rs (p.ms.length + 1) := by
  have h1 := pieceB_iff.2 hp; rw [pieceB_parts] at h1; simp only [Bool.and_eq_true, decide_eq_true_eq] at h1; obtain ⟨⟨⟨⟨⟨h1, _⟩, h2⟩, _⟩, _⟩, _⟩ := h1; exact ⟨by omega, fun j hj => by have := hp.read j hj; omega, fun j hj => by have := hp.read j hj; omega, fun j hj => by have := hp.read j hj; omega⟩
set_option maxHeartbeats 1600000 in
set_option maxRecDepth 100000 in
theorem c_lived (pm pv pr : Option Addr) (cm cv cr : Nat) (p : Pc) (q : Option Addr) (cq : Nat) (pl : List Int) (w : World) (hv : RdI w pv p.mv) (hrs : RdR w pr p.rs) (hq : RdI w q pl) (hp : PieceOk p) (hpl : PlaysOk p pl) :
    Calls Tryz.prog 146 #[.agg #[.slice pm p.ms.length cm, .slice pv p.mv.length cv, .slice pr p.rs.length cr], .slice q pl.length cq] w (LivedPost (.slice q pl.length cq) p pl w) := by
  have hml8 := (piece_len hp).2.1; have hmf : ∀ (fn : Fn) (first cap : Array Value) (w : World), (Instr.makeFunc fn first cap).run Tryz.prog w = .ok (.func fn first cap) w := fun _ _ _ _ => rfl
  obtain ⟨w1, e1, HS1, k0, k1, k2, b1⟩ := box3 w (.slice pm p.ms.length cm) (.slice pv p.mv.length cv) (.slice pr p.rs.length cr) 59; have kt := alloc_new w1 (.cells #[.slice none 0 0, .slice none 0 0] 125); obtain ⟨w2, e2, HS2, _, _, b2⟩ := box2 w1 (.slice none 0 0) (.slice none 0 0) 125; rw [e2] at kt; have ki := alloc_new w2 (.cells #[.bool false] 4); obtain ⟨w3, e3, HS3, _, _, b3⟩ := box1 w2 (.bool false) 4; rw [e3] at ki; have kt := (b3.block _ (block_lt kt)).trans kt; have b23 := b2.trans (b3.mono b2.size); have b13 := b1.trans (b23.mono b1.size); have hcl := c_run pm pv pr cm cv cr p q cq pl w3 (hv.below b13) (hq.below b13) hp hpl; have k0 := (b23.cell (lt_of_cellq k0)).trans k0; have k1 := (b23.cell (lt_of_cellq k1)).trans k1; have k2 := (b23.cell (lt_of_cellq k2)).trans k2; have HRS0 := Lib.hid hrs; have HB := Lib.hid b13; have HP := Lib.hid hp; have HPL := Lib.hid hpl; clear hv hrs hq hp hpl b1 b2 b3 b23 b13
  go_enter_defers Tryz.func146, Tryz.ntmps146
  go_wp2_with fail; refine hcl.mono ?_; rintro e w4 ⟨g, cap, hs, rfl, ho, hel, b4⟩; clear e1 e2 e3 hcl; have k0 := (b4.cell (lt_of_cellq k0)).trans k0; have k1 := (b4.cell (lt_of_cellq k1)).trans k1; have k2 := (b4.cell (lt_of_cellq k2)).trans k2; have HKT := Lib.hid ((b4.block _ (block_lt kt)).trans kt); have HKI := Lib.hid ((b4.block _ (block_lt ki)).trans ki); have HO := Lib.hid ho; have HEL := Lib.hid hel; have HB4 := Lib.hid b4; clear ho hel b4 kt ki; go_wp2; have hs0 := Lib.hid (Nat.le_trans HB.out.size HB4.out.size)
  go_loopw [13] (fun i wr => ∃ (k : Nat) (a b : Value), k ≤ p.mv.length + 1 ∧ i = .int .i64 k ∧ Hid (wr.heap[w1.heap.size]? = some (.cells #[a, b] 125 (0, 0))) ∧ Hid (0 < k → a = .slice q pl.length cq ∧ hs[k - 1]? = some b) ∧ Hid (∀ j, j < k → agreesB p.rs (runF pl p.mv j) j = true) ∧ Hid (BelX (fun x => x = w1.heap.size) w4.heap.size w4 wr)) (fun i _ => p.mv.length + 1 - (intOf i).toNat)
  case atStart => exact ⟨0, _, _, by omega, rfl, HKT, Lib.hid (fun h => absurd h (Nat.lt_irrefl _)), Lib.hid (by intro j hj; omega), Lib.hid (BelX.refl _ _ _)⟩
  case round =>
    obtain ⟨k, a, b, hk, rfl, HT, HAB, HAG, HX⟩ := hrel
    by_cases hlt : k < p.mv.length + 1
    · obtain ⟨gk, ck, hek, hok⟩ := HEL.out.2 k (by rw [allF_len]; exact hlt)
      have hle := (runF_chain HPL.out.pos p.mv k).len; rw [allF_at _ _ _ _ (by omega), hle] at hek hok; obtain ⟨t0, t1⟩ := trV_get (.slice q pl.length cq) hs k _ hek; have hz1 := HS1.out; have hz2 := HS2.out; have hz3 := HS3.out; have h4 := HB4.out.size; have hog := own_lt HO.out; have hkg := own_lt hok; have d0 := HO.out.cells (g := g) rfl _ _ t0; have d1 := HO.out.cells (g := g) rfl _ _ t1; rw [add_new] at d0 d1; have d0 := (HX.out.cell (p := ⟨g, k * 2, none⟩) hog.2 (by show ¬ g = w1.heap.size; omega)).trans d0; have d1 := (HX.out.cell (p := ⟨g, k * 2 + 1, none⟩) hog.2 (by show ¬ g = w1.heap.size; omega)).trans d1; have q0 := (HX.out.cell (p := ⟨w.heap.size, 0, none⟩) (lt_of_cellq k0) (by show ¬ w.heap.size = w1.heap.size; omega)).trans k0; have q1 := (HX.out.cell (p := ⟨w.heap.size, 1, none⟩) (lt_of_cellq k1) (by show ¬ w.heap.size = w1.heap.size; omega)).trans k1; have q2 := (HX.out.cell (p := ⟨w.heap.size, 2, none⟩) (lt_of_cellq k2) (by show ¬ w.heap.size = w1.heap.size; omega)).trans k2
      obtain ⟨w5, e5, HS5, y0, y1, b5⟩ := box2 wr (.slice q pl.length cq) (.slice (some ⟨gk, 0, none⟩) (pl.length + 1) ck) 125; have q0 := (b5.cell (lt_of_cellq q0)).trans q0; have q1 := (b5.cell (lt_of_cellq q1)).trans q1; have q2 := (b5.cell (lt_of_cellq q2)).trans q2; have hBr : Below w.heap.size w wr := ((belX_of (X := fun x => x = w1.heap.size) (HB.out.trans (HB4.out.mono HB.out.size))).trans (HX.out.mono (by omega))).below (B' := w.heap.size) (Nat.le_refl _) (fun x hx => by subst hx; omega); have hB5 : Below w.heap.size w w5 := hBr.trans (b5.mono hBr.size); have hokr : wr.ownsRow w3.heap.size 3 1 (.slice (some ⟨gk, 0, none⟩) (pl.length + 1) ck) (pl.length + 1) (inV (runF pl p.mv k)) := own_same hok (fun g' hg' => by simp [Value.ownBlock] at hg'; subst hg'; exact HX.out.block gk hkg.2 (by omega))
      have hag := c_agree q pl.length cq gk (pl.length + 1) ck (runF pl p.mv k) pm pv pr cm cv cr p k w5 (rd_of_own0 (own_kept hokr b5)) hle (HRS0.out.below hB5) (by have := piece_rds HP.out; rw [← HPL.out.len] at this; exact this) (fun i hi => by
        have := place_range HP.out HPL.out k i (by omega) (by omega); omega)
      have HB5 := Lib.hid hB5; have hx5 : BelX (fun x => x = w1.heap.size) w4.heap.size w4 w5 := HX.out.trans ((belX_of b5).mono HX.out.size); have HX5 := Lib.hid hx5; have HT5 := Lib.hid ((b5.block _ (block_lt HT.out)).trans HT.out); have HI5 := Lib.hid ((hx5.block w2.heap.size (by omega) (by omega)).trans HKI.out); have HEK := Lib.hid hek; have hki : (k : Int) < (p.mv.length : Int) + 1 := by omega
      have HZ12 := Lib.hid (show w1.heap.size < w2.heap.size ∧ w2.heap.size < w3.heap.size ∧ w.heap.size < w1.heap.size ∧ w3.heap.size ≤ w4.heap.size from ⟨by omega, by omega, by omega, by omega⟩); clear hx5 hBr hB5 hokr hek hok hle b5 hz1 hz2 hz3 h4 hog hkg t0 t1; go_wp2_with fail; refine hag.mono ?_; rintro e w6 ⟨⟨hok6, rfl⟩ | ⟨hno, j, rfl⟩, b6⟩
      · have y0 := (b6.cell (lt_of_cellq y0)).trans y0
        have y1 := (b6.cell (lt_of_cellq y1)).trans y1; have HT6 := (b6.block _ (block_lt HT5.out)).trans HT5.out; obtain ⟨w7, w8, s1, s2, ⟨c0, f0⟩, ⟨c1, f1⟩, hx4, hxk, HZ, hxb⟩ := set2 w6 w1.heap.size 125 _ _ (.slice q pl.length cq) (.slice (some ⟨gk, 0, none⟩) (pl.length + 1) ck) HT6; have HT8 := Lib.hid hx4
        have HX8 := Lib.hid (show BelX (fun x => x = w1.heap.size) w4.heap.size w4 w8 by
          have h1 := HX5.out.trans ((belX_of b6).mono HX5.out.size); have h2 := (h1.setCell (p := ⟨w1.heap.size, 0, none⟩) (.inl rfl) (.slice q pl.length cq)).setCell (p := ⟨w1.heap.size, 1, none⟩) (.inl rfl) (.slice (some ⟨gk, 0, none⟩) (pl.length + 1) ck); rw [s1, s2] at h2; exact h2)
        have HOK6 := Lib.hid hok6; clear hx4 hxk hxb b6 hag e5 HT6 hok6; go_wp2; go_roundw
        case rel =>
          refine ⟨k + 1, _, _, by omega, by go_num, HT8, Lib.hid (fun _ => ⟨rfl, by rw [Nat.add_sub_cancel]; exact HEK.out⟩), Lib.hid (fun j hj => ?_), HX8⟩
          rcases Nat.lt_or_ge j k with h | h
          · exact HAG.out j h
          · obtain rfl : j = k := by omega
            exact HOK6.out
        case measure => simp [intOf]; omega
      · have HT6 := (b6.block _ (block_lt HT5.out)).trans HT5.out
        have HI6 := (b6.block _ (block_lt HI5.out)).trans HI5.out
        have HNO := Lib.hid (show livedB p pl = false by
          cases hh : livedB p pl with
          | false => rfl
          | true =>
            have h1 := (agree_all HP.out pl).2 hh k (by omega); rw [agreeAt_eq, hno] at h1
            cases h1)
        have HB6 := Lib.hid (HB5.out.trans (b6.mono HB5.out.size)); obtain ⟨hz12, hz23, hz01, hz34⟩ := HZ12.out; have hcd := catch_dis w1.heap.size w2.heap.size a b (.bool false) j [] w6 HT6 HI6 (by omega); have HW := Lib.hid (And.intro hz01 hz12); clear hag b6 e5 HT6 HI6 hno hz12 hz23 hz01 hz34; simp only [disE]; go_wp2; refine leaves_cons (f := 161) (args := #[.pointer (some ⟨w1.heap.size, 0, none⟩), .pointer (some ⟨w2.heap.size, 0, none⟩)]) (by simp) (by simp [go_sem]) ?_; refine hcd.mono ?_; rintro e u' w'' ⟨rfl, rfl, ht'', hi'', hb''⟩; obtain ⟨r0, r1⟩ := cells2 ht''; have r2 : w''.cell? ⟨w2.heap.size, 0, none⟩ = some (.bool false) := by rw [cell_of_row _ _ _ _ _ _ hi'']; rfl
        simp [Leaves, settle, results, Tryz.results146, go_sem, r0, r1, r2]; exact ⟨.inr ⟨HNO.out, rfl⟩, HB6.out.trans (hb'' _ (by have := HW.out; omega) (by have := HW.out; omega))⟩
    · obtain rfl : k = p.mv.length + 1 := by omega
      obtain ⟨rfl, hbb⟩ := HAB.out (by omega); obtain ⟨ge, ce, hee, hoe⟩ := HEL.out.2 p.mv.length (by rw [allF_len]; omega); have hle := (runF_chain HPL.out.pos p.mv p.mv.length).len; rw [allF_at _ _ _ _ (Nat.le_refl _), hle] at hee hoe; rw [Nat.add_sub_cancel, hee] at hbb; obtain rfl := Option.some.inj hbb; have hz1 := HS1.out; have hz2 := HS2.out; have hz3 := HS3.out; have h4 := HB4.out.size; have hKI := (HX.out.block w2.heap.size (by omega) (by omega)).trans HKI.out; obtain ⟨w5, w6, s1, s2, ⟨c0, f0⟩, ⟨c1, f1⟩, hx4, hxk, HZ, hxb⟩ := set2 wr w1.heap.size 125 _ _ (.slice q pl.length cq) (.slice (some ⟨ge, 0, none⟩) (pl.length + 1) ce) HT.out; have c1' : wr.cell? ⟨w1.heap.size, 1, none⟩ = some (.slice (some ⟨ge, 0, none⟩) (pl.length + 1) ce) := (cells2 HT.out).2; have hKI6 := (hxk w2.heap.size (by omega)).trans hKI; have d0 : w6.cell? ⟨w2.heap.size, 0, none⟩ = some (.bool false) := by rw [cell_of_row _ _ _ _ _ _ hKI6]; rfl
      have df : w6.frozen? ⟨w2.heap.size, 0, none⟩ = false := frozen_of_row _ _ _ _ _ hKI6; obtain ⟨w7, s7⟩ : ∃ w7, w6.setCell ⟨w2.heap.size, 0, none⟩ (.bool true) = w7 := ⟨_, rfl⟩; have hI7 : w7.heap[w2.heap.size]? = some (.cells #[.bool true] 4 (0, 0)) := by rw [← s7, heap_setCell_same w6 w2.heap.size 0 _ _ _ hKI6]; rfl
      have hT7 : w7.heap[w1.heap.size]? = some (.cells #[.slice q pl.length cq, .slice (some ⟨ge, 0, none⟩) (pl.length + 1) ce] 125 (0, 0)) := by rw [← s7, Below.heap_setCell _ _ _ _ (by show w1.heap.size ≠ w2.heap.size; omega)]; exact hx4
      obtain ⟨r0, r1⟩ := cells2 hT7; have r2 : w7.cell? ⟨w2.heap.size, 0, none⟩ = some (.bool true) := by rw [cell_of_row _ _ _ _ _ _ hI7]; rfl
      have HLV := Lib.hid (show livedB p pl = true from (agree_all HP.out pl).1 fun i hi => by rw [agreeAt_eq]; exact HAG.out i (by omega)); have hgl := own_lt hoe
      have HOW := Lib.hid (show w7.ownsRow w.heap.size 3 1 (.slice (some ⟨ge, 0, none⟩) (pl.length + 1) ce) (pl.length + 1) (inV (endF p pl)) from own_mono (own_same hoe (w' := w7) (fun g' hg' => by
        simp [Value.ownBlock] at hg'; subst hg'; rw [← s7, Below.heap_setCell _ _ _ _ (by show ge ≠ w2.heap.size; omega), hxk ge (by omega), HX.out.block ge hgl.2 (by omega)])) (by omega))
      have HBB := Lib.hid (show Below w.heap.size w w7 by
        have h1 := (belX_of (X := fun x => x = w1.heap.size) (HB.out.trans (HB4.out.mono HB.out.size))); have h2 := (h1.trans (HX.out.mono (by omega))).below (B' := w.heap.size) (Nat.le_refl _) (fun x hx => by subst hx; omega); rw [← s7]; exact (hxb w w.heap.size (by omega) h2).setCell (by show w.heap.size ≤ w2.heap.size; omega) _)
      clear hx4 hxk hxb hKI hKI6 hI7 hT7 hz1 hz2 hz3 h4 hee hoe hle hbb hgl; go_wp2; refine leaves_cons (f := 161) (args := #[.pointer (some ⟨w1.heap.size, 0, none⟩), .pointer (some ⟨w2.heap.size, 0, none⟩)]) (by simp) (by simp [go_sem]) ?_; refine (catch_dis_idle w1.heap.size w2.heap.size _).mono ?_; rintro e u' w'' ⟨rfl, rfl, rfl⟩; simp [Leaves, settle, results, Tryz.results146, go_sem, r0, r1, r2]; exact ⟨.inl ⟨HLV.out, ge, ce, rfl, HOW.out⟩, HBB.out⟩

theorem c_wider (a b c d : Int) (f : Bool) (w : World) : Calls Tryz.prog 108 #[.agg #[.int .i64 a, .int .i64 b], .agg #[.int .i64 c, .int .i64 d], .bool f] w fun e w' => e = .returned (.agg #[.int .i64 (if f = true then c else min a c), .int .i64 (if f = true then d else max b d)]) ∧ Below w.heap.size w w' := by
  obtain ⟨w1, e1, HS1, a0, a1, b1⟩ := box2 w (.int .i64 a) (.int .i64 b) 61; obtain ⟨w2, e2, HS2, d0, d1, b2⟩ := box2 w1 (.int .i64 c) (.int .i64 d) 61; have kb := alloc_new w2 (.cells #[.int .i64 0, .int .i64 0] 61); obtain ⟨w3, e3, HS3, _, _, b3⟩ := box2 w2 (.int .i64 0) (.int .i64 0) 61; rw [e3] at kb; have a0 := ((b2.trans (b3.mono b2.size)).cell (lt_of_cellq a0)).trans a0; have a1 := ((b2.trans (b3.mono b2.size)).cell (lt_of_cellq a1)).trans a1; have d0 := (b3.cell (lt_of_cellq d0)).trans d0; have d1 := (b3.cell (lt_of_cellq d1)).trans d1; have hz : w.heap.size ≤ w2.heap.size := Nat.le_trans b1.size b2.size; have hb : Below w.heap.size w w3 := b1.trans ((b2.trans (b3.mono b2.size)).mono b1.size)
  cases f with
  | true =>
    obtain ⟨w4, w5, s1, s2, ⟨c0, f0⟩, ⟨c1, f1⟩, hx4, hxk, HZ, hxb⟩ := set2 w3 w2.heap.size 61 _ _ (.int .i64 c) (.int .i64 d) kb; obtain ⟨r0, r1⟩ := cells2 hx4; have HB := Lib.hid (hxb w w.heap.size hz hb); clear hx4 hxk hxb b1 b2 b3 kb hz hb
    go_enter Tryz.func108, Tryz.ntmps108
    go_wp2; refine bodyPost_ret (v := .agg #[.int .i64 c, .int .i64 d]) ?_ rfl ⟨rfl, HB.out⟩; simp [results, Tryz.results108, go_sem, r0, r1]
  | false =>
    obtain ⟨w4, w5, s1, s2, ⟨c0, f0⟩, ⟨c1, f1⟩, hx4, hxk, HZ, hxb⟩ := set2 w3 w2.heap.size 61 _ _ (.int .i64 (min a c)) (.int .i64 (max b d)) kb; obtain ⟨r0, r1⟩ := cells2 hx4; have HB := Lib.hid (hxb w w.heap.size hz hb); clear hx4 hxk hxb b1 b2 b3 kb hz hb
    go_enter Tryz.func108, Tryz.ntmps108
    go_wp2; refine bodyPost_ret (v := .agg #[.int .i64 (min a c), .int .i64 (max b d)]) ?_ rfl ⟨rfl, HB.out⟩; simp [results, Tryz.results108, go_sem, r0, r1]
def RdQ (w : World) (a : Option Addr) (p : Pc) (ts : List (List Int)) : Prop :=
  ∃ b, a = some ⟨b, 0, none⟩ ∧ ∀ i, i < ts.length → (gl ts i).length = p.ms.length ∧ ∃ p1 c1 p2 c2, w.cell? ⟨b, i * 2, none⟩ = some (.slice p1 p.ms.length c1) ∧ w.cell? ⟨b, i * 2 + 1, none⟩ = some (.slice p2 (p.ms.length + 1) c2) ∧ RdI w p1 (gl ts i) ∧ RdI w p2 (endF p (gl ts i)) ∧ (endF p (gl ts i)).length = p.ms.length + 1 ∧ p.ms.length ≤ c1 ∧ ∃ g, p2 = some ⟨g, 0, none⟩
theorem RdQ.below {w w' : World} {a : Option Addr} {p : Pc} {ts : List (List Int)} (h : RdQ w a p ts) (hb : Below w.heap.size w w') : RdQ w' a p ts := by
  obtain ⟨b, rfl, h⟩ := h; refine ⟨b, rfl, fun i hi => ?_⟩; obtain ⟨h0, p1, c1, p2, c2, h1, h2, h3, h4, h5⟩ := h i hi; exact ⟨h0, p1, c1, p2, c2, (hb.cell (lt_of_cellq h1)).trans h1, (hb.cell (lt_of_cellq h2)).trans h2, h3.below hb, h4.below hb, h5⟩
def ovTo (of : List Int → Int × Int) (ts : List (List Int)) (k : Nat) : Int × Int := overF ((ts.take k).map of)
theorem ovTo_zero (of : List Int → Int × Int) (ts : List (List Int)) : ovTo of ts 0 = overF [] := by simp [ovTo]
theorem ovTo_succ (of : List Int → Int × Int) (ts : List (List Int)) (k : Nat) (hk : k < ts.length) : ovTo of ts (k + 1) = if k = 0 then of (gl ts k) else (min (ovTo of ts k).1 (of (gl ts k)).1, max (ovTo of ts k).2 (of (gl ts k)).2) := by
  unfold ovTo
  have e : ts.take (k + 1) = ts.take k ++ [gl ts k] := by
    rw [List.take_succ_eq_append_getElem hk]; unfold gl; simp [hk]
  rw [e, List.map_append, List.map_cons, List.map_nil, overF_snoc]
  by_cases h : k = 0
  · subst h; simp
  · rw [if_neg h, if_neg (by
      intro hc; rw [List.map_eq_nil_iff] at hc; have := congrArg List.length hc; rw [List.length_take, List.length_nil] at this; omega)]
def wdLo (f : Bool) (a c : Int) : Int := if f = true then c else min a c
def wdHi (f : Bool) (b d : Int) : Int := if f = true then d else max b d
theorem c_wider' (a b c d : Int) (f : Bool) (w : World) : Calls Tryz.prog 108 #[.agg #[.int .i64 a, .int .i64 b], .agg #[.int .i64 c, .int .i64 d], .bool f] w fun e w' => e = .returned (.agg #[.int .i64 (wdLo f a c), .int .i64 (wdHi f b d)]) ∧ Below w.heap.size w w' := c_wider a b c d f w


theorem tdiv_down {a b : Int} (hb : 0 < b) : a / b = (if a.tmod b < 0 then a.tdiv b - 1 else a.tdiv b) ∧ a % b = (if a.tmod b < 0 then a.tmod b + b else a.tmod b) := by
  have h1 := Int.mul_tdiv_add_tmod a b; have h2 := Int.tmod_lt_of_pos a hb; have h3 := Int.mul_ediv_add_emod a b; have h4 := Int.emod_nonneg a (show b ≠ 0 by omega); have h5 := Int.emod_lt_of_pos a hb
  have h6 : -b < a.tmod b := by
    have := Int.lt_tmod_of_pos a hb; omega
  split
  · have e : b * (a / b - (a.tdiv b - 1)) = a.tmod b + b - a % b := by rw [Int.mul_sub, Int.mul_sub]; omega
    have hz : a / b - (a.tdiv b - 1) = 0 := by
      rcases Int.lt_trichotomy (a / b - (a.tdiv b - 1)) 0 with h | h | h
      · have : b * (a / b - (a.tdiv b - 1)) ≤ b * (-1) := Int.mul_le_mul_of_nonneg_left (by omega) (by omega)
        omega
      · exact h
      · have : b * 1 ≤ b * (a / b - (a.tdiv b - 1)) := Int.mul_le_mul_of_nonneg_left (by omega) (by omega)
        omega
    rw [hz] at e; omega
  · have e : b * (a / b - a.tdiv b) = a.tmod b - a % b := by rw [Int.mul_sub]; omega
    have hz : a / b - a.tdiv b = 0 := by
      rcases Int.lt_trichotomy (a / b - a.tdiv b) 0 with h | h | h
      · have : b * (a / b - a.tdiv b) ≤ b * (-1) := Int.mul_le_mul_of_nonneg_left (by omega) (by omega)
        omega
      · exact h
      · have : b * 1 ≤ b * (a / b - a.tdiv b) := Int.mul_le_mul_of_nonneg_left (by omega) (by omega)
        omega
    rw [hz] at e; omega
set_option maxRecDepth 100000 in
theorem c_floor (a b : Int) (w : World) (hb : 0 < b) (hb2 : b ≤ 100000) (ha : -1000000000 ≤ a ∧ a ≤ 1000000000) :
    Calls Tryz.prog 109 #[.int .i64 a, .int .i64 b] w fun e w' => e = .returned (.tuple #[.int .i64 (a / b), .int .i64 (a % b)]) ∧ Below w.heap.size w w' := by
  obtain ⟨ha1, ha2⟩ := ha; have hb0 : ¬ b = 0 := by omega
  have hd := tdiv_down (a := a) hb; have h2 := Int.tmod_lt_of_pos a hb
  have h3 : -1000000000 ≤ a / b ∧ a / b ≤ 1000000000 := by
    have e1 := Int.mul_ediv_add_emod a b; have e2 := Int.emod_nonneg a hb0; have e3 := Int.emod_lt_of_pos a hb; refine ⟨?_, ?_⟩
    · exact Int.le_ediv_of_mul_le hb (by have : (-1000000000 : Int) * b ≤ -1000000000 * 1 := Int.mul_le_mul_of_nonpos_left (by omega) (by omega); omega)
    · exact Int.ediv_le_of_le_mul hb (by have : (1000000000 : Int) * 1 ≤ 1000000000 * b := Int.mul_le_mul_of_nonneg_left (by omega) (by omega); omega)
  have h4 := Int.emod_nonneg a hb0; have h5 := Int.emod_lt_of_pos a hb; obtain ⟨h31, h32⟩ := h3
  by_cases h : a.tmod b < 0
  · rw [if_pos h, if_pos h] at hd
    obtain ⟨hd1, hd2⟩ := hd; have HD := Lib.hid (And.intro hd1 hd2); have w1 : IntKind.i64.wrap (a.tdiv b) = a.tdiv b := w64 _ (by omega) (by omega); have w2 : IntKind.i64.wrap (a.tmod b) = a.tmod b := w64 _ (by omega) (by omega); have w3 : IntKind.i64.wrap (a.tdiv b - 1) = a.tdiv b - 1 := w64 _ (by omega) (by omega); have w4 : IntKind.i64.wrap (a.tmod b + b) = a.tmod b + b := w64 _ (by omega) (by omega); clear hd1 hd2 h31 h32 h4 h5 h2; rw [HD.out.1, HD.out.2]
    go_enter Tryz.func109, Tryz.ntmps109
    go_wp2
    go_quiet (fail)
    go_wp2; refine bodyPost_ret (v := .tuple #[.int .i64 (a.tdiv b - 1), .int .i64 (a.tmod b + b)]) (by simp [results, Tryz.results109, go_sem]) rfl ?_; exact ⟨rfl, below_drewN (Below.refl _ _) _⟩
  · rw [if_neg h, if_neg h] at hd
    obtain ⟨hd1, hd2⟩ := hd; have HD := Lib.hid (And.intro hd1 hd2); have w1 : IntKind.i64.wrap (a.tdiv b) = a.tdiv b := w64 _ (by omega) (by omega); have w2 : IntKind.i64.wrap (a.tmod b) = a.tmod b := w64 _ (by omega) (by omega); clear hd1 hd2 h31 h32 h4 h5 h2; rw [HD.out.1, HD.out.2]
    go_enter Tryz.func109, Tryz.ntmps109
    go_wp2
    go_quiet (fail)
    go_wp2; refine bodyPost_ret (v := .tuple #[.int .i64 (a.tdiv b), .int .i64 (a.tmod b)]) (by simp [results, Tryz.results109, go_sem]) rfl ?_; exact ⟨rfl, below_drewN (Below.refl _ _) _⟩
end Go.Proofs.YtchclaipbahiiaaGreat
end

section
namespace Go.Proofs.YtchclaipbahiiaaGreat
set_option linter.unusedVariables false
def lexB : List Int → List Int → Bool
  | [], [] => false
  | [], _ :: _ => true
  | _ :: _, [] => false
  | x :: a, y :: b => if x = y then lexB a b else decide (x < y)
end Go.Proofs.YtchclaipbahiiaaGreat
end
