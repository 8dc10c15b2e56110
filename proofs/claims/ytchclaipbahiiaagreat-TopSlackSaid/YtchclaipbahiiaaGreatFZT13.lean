/-
  cmp.Compare, cmp.Or, slices.Compare on ints: contracts.
  Short words for the steps of a drawn region's walk.
  A drawn region whose cells are known: its beginning, in short words.
  Pairs in order: contract.
  The place of a product in a list of products: slices.BinarySearchFunc: contract.
  Whether a list of fractions holds a fraction: contracts.
  Two trains that are the same: contract.
  The example of a shop's piece: contracts.
  What the arguments of the top statements read as; the frame that both claims of this seat share.
  Pairs and trains of the shop that are as defined: contracts.
  The spots of a shop's piece: contracts.
  The path from the motor to an arbor: plain, and the iterator's making.
  Structs of six and of eight cells that are stored (printed by top.py).
  A rule with its numbers of teeth: contract.
  math/bits.Mul, as the shelf lays it at this dump (in plain words; printed by names).
  copy; slices.Repeat of one number: contracts.
  A loop over a function that hands out things whose memory it has laid: what the loop's body is told of each, and what is known of all of them behind the loop.
  Truths in memory that an iterator hands out, and what its loop keeps.
-/
import Derived.OrdersHeld
import Derived.Deep.RegionHeld
import Derived.ProofKit
import Derived.BigQuiet
import Derived.Test.YtchclaipbahiiaaGreatRows
import Derived.WalkKit
import Derived.OpenShut
import Derived.ChangeOld
import Derived.Lib.SmallJoins
import Derived.Deep.Slices
import Derived.Deep.AppendLies
import Derived.Shelf.Bits.Mul64
import Derived.Test.YtchclaipbahiiaaGreatProg
import Derived.Laws.CopyOwn
import Derived.StillTailTactics
import Derived.Deep.RegionHeld3
import Derived.RangeFuncWrites
import Derived.Test.YtchclaipbahiiaaGreatFZT11
import Derived.Test.YtchclaipbahiiaaGreatFZT12
section
namespace Go.Proofs.YtchclaipbahiiaaGreat
open Go Go.RowKit Go.Proofs
set_option linter.unusedVariables false
set_option linter.unusedSimpArgs false
attribute [local go_sem] imax2 imin2
def cmpI (a b : Int) : Int := if a < b then -1 else if b < a then 1 else 0
theorem cmpI_neg (a b : Int) : cmpI a b < 0 ↔ a < b := by unfold cmpI; split <;> (try split) <;> omega
theorem cmpI_zero (a b : Int) : cmpI a b = 0 ↔ a = b := by unfold cmpI; split <;> (try split) <;> omega
theorem c_isNaN (x : Int) (w : World) : Calls Tryz.prog 155 #[.int .i64 x] w fun e w' => e = .returned (.bool false) ∧ w = w' := by
  go_enter Tryz.func155, Tryz.ntmps155
  go_wp2; go_ret; exact ⟨by simp, rfl⟩
theorem c_compare (x y : Int) (w : World) : Calls Tryz.prog 126 #[.int .i64 x, .int .i64 y] w fun e w' => e = .returned (.int .i64 (cmpI x y)) ∧ w = w' := by
  by_cases h1 : x < y
  · have HE := Lib.hid (show cmpI x y = -1 by unfold cmpI; rw [if_pos h1])
    go_enter Tryz.func126, Tryz.ntmps126
    go_wp2_with fail; refine (c_isNaN x _).mono ?_; rintro e w1 ⟨rfl, rfl⟩; go_wp2_with fail; refine (c_isNaN y _).mono ?_; rintro e w1 ⟨rfl, rfl⟩; go_wp2; go_ret; exact ⟨by rw [HE.out]; rfl, rfl⟩
  · by_cases h2 : y < x
    · have HE := Lib.hid (show cmpI x y = 1 by unfold cmpI; rw [if_neg h1, if_pos h2])
      go_enter Tryz.func126, Tryz.ntmps126
      go_wp2_with fail; refine (c_isNaN x _).mono ?_; rintro e w1 ⟨rfl, rfl⟩; go_wp2_with fail; refine (c_isNaN y _).mono ?_; rintro e w1 ⟨rfl, rfl⟩; go_wp2; go_ret; exact ⟨by rw [HE.out]; rfl, rfl⟩
    · have HE := Lib.hid (show cmpI x y = 0 by unfold cmpI; rw [if_neg h1, if_neg h2])
      go_enter Tryz.func126, Tryz.ntmps126
      go_wp2_with fail; refine (c_isNaN x _).mono ?_; rintro e w1 ⟨rfl, rfl⟩; go_wp2_with fail; refine (c_isNaN y _).mono ?_; rintro e w1 ⟨rfl, rfl⟩; go_wp2; go_ret; exact ⟨by rw [HE.out]; rfl, rfl⟩
def orL : List Int → Int
  | [] => 0
  | x :: l => if x ≠ 0 then x else orL l
set_option maxHeartbeats 800000 in
set_option maxRecDepth 100000 in
theorem c_or (p : Option Addr) (cap : Nat) (xs : List Int) (w : World) (hx : RdI w p xs) (hl : xs.length ≤ 1000000) :
    Calls Tryz.prog 133 #[.slice p xs.length cap] w fun e w' => e = .returned (.int .i64 (orL xs)) ∧ w = w' := by
  have HX := Lib.hid hx; clear hx
  go_enter Tryz.func133, Tryz.ntmps133
  go_wp2
  go_loop [8] (fun i => ∃ k : Nat, k ≤ xs.length ∧ i = .int .i64 k ∧ Hid (orL (xs.drop k) = orL xs)) (fun i => xs.length - (intOf i).toNat)
  case atStart => exact ⟨0, by omega, rfl, Lib.hid rfl⟩
  case round =>
    obtain ⟨k, hk, rfl, HD⟩ := hrel
    by_cases hlt : k < xs.length
    · obtain ⟨b, off, rfl, hc⟩ := HX.out.at hlt
      have e1 := hc k hlt
      have hdx : xs.drop k = gi xs k :: xs.drop (k + 1) := by
        rw [List.drop_eq_getElem_cons hlt]
        congr 1
        unfold gi; simp [hlt]
      have hcm := HD.out; rw [hdx, orL] at hcm; have HCM := Lib.hid hcm; have hi1 : (k : Int) < (xs.length : Int) := by omega
      clear hc hdx hcm; obtain ⟨c, hce⟩ : ∃ c, gi xs k = c := ⟨_, rfl⟩; rw [hce] at e1 HCM; clear hce
      by_cases hz : c = 0
      · subst hz
        have HN := Lib.hid (show orL (xs.drop (k + 1)) = orL xs by have h := HCM.out; rwa [if_neg (by decide)] at h); go_wp2; go_round
        case rel => exact ⟨k + 1, by omega, by go_num, HN⟩
        case measure => simp [intOf]; omega
      · have HN := Lib.hid (show c = orL xs by have h := HCM.out; rwa [if_pos hz] at h)
        go_wp2; go_ret; exact ⟨by rw [← HN.out]; rfl, rfl⟩
    · obtain rfl : k = xs.length := by omega
      have HN := Lib.hid (show orL xs = 0 by rw [← HD.out, List.drop_eq_nil_of_le (Nat.le_refl _)]; rfl); go_wp2; go_ret; exact ⟨by rw [HN.out]; rfl, rfl⟩
end Go.Proofs.YtchclaipbahiiaaGreat
end

section
namespace Go.Proofs.YtchclaipbahiiaaGreat
open Go Go.RowKit
section
variable {P : Program} {ops : Array Oper} {Q : Exit → Act → World → Prop} {md : Region.Mode} {S : World → Prop}
theorem tk (i : Nat) {oi : Oper} {d : Nat} {v : Value} {fuel : Nat} {listed : Array Bool} {a : Act} {w : World} (hi : ops[i]? = some oi) (hS : S w)
    (h : wpAnyH P md ops Q S fuel (listed.setIfInBounds i true) { a with tmps := a.tmps.setIfInBounds d v } w)
    (hs : Region.noSelect ops = true := by kernel_rfl) (hf : Region.free md ops listed i = true := by kernel_rfl) (hr : (Region.ready md ops listed).contains i = true := by kernel_rfl)
    (hd : oi.dst = some d := by rfl)
    (hQ : ∀ c a w, Q (.panic c) (a.put oi.dst v) w → Q (.panic c) a w := by intro _ _ _ h; first | exact h | (exact absurd h.1 (by intro hh; cases hh)))
    (hw : Region.wanted oi (yielded ops a.tmps) = true := by rfl)
    (hy : ∀ w, S w → (execOp a.eval oi).run P w = .ok (.value v) w := by (intro w hSw; (try dsimp only at hSw); go_simp <;> (try with_reducible rfl))) :
    wpAnyH P md ops Q S (fuel + 1) listed a w := wpAnyH_take hi hs hf hr hQ (Or.inl ⟨hw, hy⟩) hS (by rw [hd]; exact h)
theorem tj (i : Nat) {oi : Oper} {d : Nat} {v : Value} {fuel : Nat} {listed : Array Bool} {a : Act} {w : World} (hi : ops[i]? = some oi) (hS : S w)
    (h : wpAnyH P md ops Q S fuel (listed.setIfInBounds i true) { a with tmps := a.tmps.setIfInBounds d v } w)
    (hs : Region.noSelect ops = true := by kernel_rfl) (hf : Region.free md ops listed i = true := by kernel_rfl) (hr : (Region.ready md ops listed).contains i = true := by kernel_rfl)
    (hd : oi.dst = some d := by rfl)
    (hQ : ∀ c a w, Q (.panic c) (a.put oi.dst v) w → Q (.panic c) a w := by intro _ _ _ h; first | (exact absurd h.1 (by intro hh; cases hh)) | exact h)
    (hw : Region.wanted oi (yielded ops a.tmps) = true := by rfl)
    (hy : ∀ w, S w → (execOp a.eval oi).run P w = .ok (.value v) w := by (intro w hSw; (try dsimp only at hSw); go_simp <;> (try with_reducible rfl))) :
    wpAnyH P md ops Q S (fuel + 1) listed a w := wpAnyH_take hi hs hf hr hQ (Or.inl ⟨hw, hy⟩) hS (by rw [hd]; exact h)
theorem kz {K : Act → World → Prop} {T : Act → World → Prop} {a : Act} {w : World} (hK : Shut (∀ a w, S w → (S w → T a w) → K a w)) (hS : S w) (h : T a w) : K a w := hK.out _ _ hS fun _ => h
theorem rz1 (i : Nat) {o : Oper} {fuel : Nat} {listed : Array Bool} {a : Act} {w : World} (ho : ops[i]? = some o)
    (h : ∀ K' : Act → World → Prop, Shut (∀ a w, S w → (S w → wpAnyH P md ops Q S fuel (listed.setIfInBounds i true) a w) → K' a w) → if Region.wanted o (yielded ops a.tmps) = true then Oper.wp P o a w K' Q else K' (a.put o.dst undef) w)
    (hr : Region.ready md ops listed = [i] := by kernel_rfl) : wpAnyH P md ops Q S (fuel + 1) listed a w := wpAnyH_ready hr (by simp) (AllReadyH.cons ho h AllReadyH.nil)
theorem rz2 (i j : Nat) {o u : Oper} {fuel : Nat} {listed : Array Bool} {a : Act} {w : World} (ho : ops[i]? = some o) (hu : ops[j]? = some u)
    (h : ∀ K' : Act → World → Prop, Shut (∀ a w, S w → (S w → wpAnyH P md ops Q S fuel (listed.setIfInBounds i true) a w) → K' a w) → if Region.wanted o (yielded ops a.tmps) = true then Oper.wp P o a w K' Q else K' (a.put o.dst undef) w)
    (g : ∀ K' : Act → World → Prop, Shut (∀ a w, S w → (S w → wpAnyH P md ops Q S fuel (listed.setIfInBounds j true) a w) → K' a w) → if Region.wanted u (yielded ops a.tmps) = true then Oper.wp P u a w K' Q else K' (a.put u.dst undef) w)
    (hr : Region.ready md ops listed = [i, j] := by kernel_rfl) : wpAnyH P md ops Q S (fuel + 1) listed a w := wpAnyH_ready hr (by simp) (AllReadyH.cons ho h (AllReadyH.cons hu g AllReadyH.nil))
end
theorem ptL : (∀ (l : List Value) (i : Nat) (v : Value), l.toArray.setIfInBounds i v = (l.set i v).toArray) ∧ (∀ (l : List Bool) (i : Nat) (v : Bool), l.toArray.setIfInBounds i v = (l.set i v).toArray) ∧
    (∀ (l : List Value) (x v : Value), (x :: l).set 0 v = v :: l) ∧ (∀ (l : List Bool) (x v : Bool), (x :: l).set 0 v = v :: l) ∧
    (∀ (l : List Value) (i : Nat) (x v : Value), (x :: l).set (i + 1) v = x :: l.set i v) ∧ (∀ (l : List Bool) (i : Nat) (x v : Bool), (x :: l).set (i + 1) v = x :: l.set i v) := by
  refine ⟨fun l i v => ?_, fun l i v => ?_, fun _ _ _ => rfl, fun _ _ _ => rfl, fun _ _ _ _ => rfl, fun _ _ _ _ => rfl⟩ <;> simp
end Go.Proofs.YtchclaipbahiiaaGreat
end

section
namespace Go.Proofs.YtchclaipbahiiaaGreat
open Go Go.RowKit
set_option linter.unusedVariables false
section
variable {P : Program} {ops : Array Oper} {Q : Exit → Act → World → Prop} {id : Nat} {a : Act} {w : World}
theorem cl2 {a0 a1 : Addr} {v0 v1 : Value} (h0 : w.cell? a0 = some v0) (h1 : w.cell? a1 = some v1) : ∀ w', Below w.heap.size w w' → w'.cell? a0 = some v0 ∧ w'.cell? a1 = some v1 := fun w' hb => ⟨(hb.cell (lt_of_cellq h0)).trans h0, (hb.cell (lt_of_cellq h1)).trans h1⟩
theorem held2 {a0 a1 : Addr} {v0 v1 : Value} (h0 : w.cell? a0 = some v0) (h1 : w.cell? a1 = some v1)
    (k : ∀ W0, Below w.heap.size w W0 → wpAnyH P .any ops Q (fun w' => w'.cell? a0 = some v0 ∧ w'.cell? a1 = some v1) ops.size (Array.replicate ops.size false) a W0)
    (hm : P.follows .mixedOrders = true := by kernel_rfl) : (Code.region id ops true).wp P Q a w :=
  wp_region_held_drew (S := fun w' => w'.cell? a0 = some v0 ∧ w'.cell? a1 = some v1) hm (cl2 h0 h1 _ (Below.refl _ _).drew) (fun _ => k _ (Below.refl _ _).drew)
theorem cl3 {a0 a1 a2 : Addr} {v0 v1 v2 : Value} (h0 : w.cell? a0 = some v0) (h1 : w.cell? a1 = some v1) (h2 : w.cell? a2 = some v2) : ∀ w', Below w.heap.size w w' → w'.cell? a0 = some v0 ∧ w'.cell? a1 = some v1 ∧ w'.cell? a2 = some v2 := fun w' hb => ⟨(hb.cell (lt_of_cellq h0)).trans h0, (hb.cell (lt_of_cellq h1)).trans h1, (hb.cell (lt_of_cellq h2)).trans h2⟩
theorem held3 {a0 a1 a2 : Addr} {v0 v1 v2 : Value} (h0 : w.cell? a0 = some v0) (h1 : w.cell? a1 = some v1) (h2 : w.cell? a2 = some v2)
    (k : ∀ W0, Below w.heap.size w W0 → wpAnyH P .any ops Q (fun w' => w'.cell? a0 = some v0 ∧ w'.cell? a1 = some v1 ∧ w'.cell? a2 = some v2) ops.size (Array.replicate ops.size false) a W0)
    (hm : P.follows .mixedOrders = true := by kernel_rfl) : (Code.region id ops true).wp P Q a w :=
  wp_region_held_drew (S := fun w' => w'.cell? a0 = some v0 ∧ w'.cell? a1 = some v1 ∧ w'.cell? a2 = some v2) hm (cl3 h0 h1 h2 _ (Below.refl _ _).drew) (fun _ => k _ (Below.refl _ _).drew)
theorem cl4 {a0 a1 a2 a3 : Addr} {v0 v1 v2 v3 : Value} (h0 : w.cell? a0 = some v0) (h1 : w.cell? a1 = some v1) (h2 : w.cell? a2 = some v2) (h3 : w.cell? a3 = some v3) : ∀ w', Below w.heap.size w w' → w'.cell? a0 = some v0 ∧ w'.cell? a1 = some v1 ∧ w'.cell? a2 = some v2 ∧ w'.cell? a3 = some v3 := fun w' hb => ⟨(hb.cell (lt_of_cellq h0)).trans h0, (hb.cell (lt_of_cellq h1)).trans h1, (hb.cell (lt_of_cellq h2)).trans h2, (hb.cell (lt_of_cellq h3)).trans h3⟩
theorem held4 {a0 a1 a2 a3 : Addr} {v0 v1 v2 v3 : Value} (h0 : w.cell? a0 = some v0) (h1 : w.cell? a1 = some v1) (h2 : w.cell? a2 = some v2) (h3 : w.cell? a3 = some v3)
    (k : ∀ W0, Below w.heap.size w W0 → wpAnyH P .any ops Q (fun w' => w'.cell? a0 = some v0 ∧ w'.cell? a1 = some v1 ∧ w'.cell? a2 = some v2 ∧ w'.cell? a3 = some v3) ops.size (Array.replicate ops.size false) a W0)
    (hm : P.follows .mixedOrders = true := by kernel_rfl) : (Code.region id ops true).wp P Q a w :=
  wp_region_held_drew (S := fun w' => w'.cell? a0 = some v0 ∧ w'.cell? a1 = some v1 ∧ w'.cell? a2 = some v2 ∧ w'.cell? a3 = some v3) hm (cl4 h0 h1 h2 h3 _ (Below.refl _ _).drew) (fun _ => k _ (Below.refl _ _).drew)
theorem cl5 {a0 a1 a2 a3 a4 : Addr} {v0 v1 v2 v3 v4 : Value} (h0 : w.cell? a0 = some v0) (h1 : w.cell? a1 = some v1) (h2 : w.cell? a2 = some v2) (h3 : w.cell? a3 = some v3) (h4 : w.cell? a4 = some v4) : ∀ w', Below w.heap.size w w' → w'.cell? a0 = some v0 ∧ w'.cell? a1 = some v1 ∧ w'.cell? a2 = some v2 ∧ w'.cell? a3 = some v3 ∧ w'.cell? a4 = some v4 := fun w' hb => ⟨(hb.cell (lt_of_cellq h0)).trans h0, (hb.cell (lt_of_cellq h1)).trans h1, (hb.cell (lt_of_cellq h2)).trans h2, (hb.cell (lt_of_cellq h3)).trans h3, (hb.cell (lt_of_cellq h4)).trans h4⟩
theorem held5 {a0 a1 a2 a3 a4 : Addr} {v0 v1 v2 v3 v4 : Value} (h0 : w.cell? a0 = some v0) (h1 : w.cell? a1 = some v1) (h2 : w.cell? a2 = some v2) (h3 : w.cell? a3 = some v3) (h4 : w.cell? a4 = some v4)
    (k : ∀ W0, Below w.heap.size w W0 → wpAnyH P .any ops Q (fun w' => w'.cell? a0 = some v0 ∧ w'.cell? a1 = some v1 ∧ w'.cell? a2 = some v2 ∧ w'.cell? a3 = some v3 ∧ w'.cell? a4 = some v4) ops.size (Array.replicate ops.size false) a W0)
    (hm : P.follows .mixedOrders = true := by kernel_rfl) : (Code.region id ops true).wp P Q a w :=
  wp_region_held_drew (S := fun w' => w'.cell? a0 = some v0 ∧ w'.cell? a1 = some v1 ∧ w'.cell? a2 = some v2 ∧ w'.cell? a3 = some v3 ∧ w'.cell? a4 = some v4) hm (cl5 h0 h1 h2 h3 h4 _ (Below.refl _ _).drew) (fun _ => k _ (Below.refl _ _).drew)
theorem cl7 {a0 a1 a2 a3 a4 a5 a6 : Addr} {v0 v1 v2 v3 v4 v5 v6 : Value} (h0 : w.cell? a0 = some v0) (h1 : w.cell? a1 = some v1) (h2 : w.cell? a2 = some v2) (h3 : w.cell? a3 = some v3) (h4 : w.cell? a4 = some v4) (h5 : w.cell? a5 = some v5) (h6 : w.cell? a6 = some v6) : ∀ w', Below w.heap.size w w' → w'.cell? a0 = some v0 ∧ w'.cell? a1 = some v1 ∧ w'.cell? a2 = some v2 ∧ w'.cell? a3 = some v3 ∧ w'.cell? a4 = some v4 ∧ w'.cell? a5 = some v5 ∧ w'.cell? a6 = some v6 := fun w' hb => ⟨(hb.cell (lt_of_cellq h0)).trans h0, (hb.cell (lt_of_cellq h1)).trans h1, (hb.cell (lt_of_cellq h2)).trans h2, (hb.cell (lt_of_cellq h3)).trans h3, (hb.cell (lt_of_cellq h4)).trans h4, (hb.cell (lt_of_cellq h5)).trans h5, (hb.cell (lt_of_cellq h6)).trans h6⟩
theorem held7 {a0 a1 a2 a3 a4 a5 a6 : Addr} {v0 v1 v2 v3 v4 v5 v6 : Value} (h0 : w.cell? a0 = some v0) (h1 : w.cell? a1 = some v1) (h2 : w.cell? a2 = some v2) (h3 : w.cell? a3 = some v3) (h4 : w.cell? a4 = some v4) (h5 : w.cell? a5 = some v5) (h6 : w.cell? a6 = some v6)
    (k : ∀ W0, Below w.heap.size w W0 → wpAnyH P .any ops Q (fun w' => w'.cell? a0 = some v0 ∧ w'.cell? a1 = some v1 ∧ w'.cell? a2 = some v2 ∧ w'.cell? a3 = some v3 ∧ w'.cell? a4 = some v4 ∧ w'.cell? a5 = some v5 ∧ w'.cell? a6 = some v6) ops.size (Array.replicate ops.size false) a W0)
    (hm : P.follows .mixedOrders = true := by kernel_rfl) : (Code.region id ops true).wp P Q a w :=
  wp_region_held_drew (S := fun w' => w'.cell? a0 = some v0 ∧ w'.cell? a1 = some v1 ∧ w'.cell? a2 = some v2 ∧ w'.cell? a3 = some v3 ∧ w'.cell? a4 = some v4 ∧ w'.cell? a5 = some v5 ∧ w'.cell? a6 = some v6) hm (cl7 h0 h1 h2 h3 h4 h5 h6 _ (Below.refl _ _).drew) (fun _ => k _ (Below.refl _ _).drew)
theorem cl8 {a0 a1 a2 a3 a4 a5 a6 a7 : Addr} {v0 v1 v2 v3 v4 v5 v6 v7 : Value} (h0 : w.cell? a0 = some v0) (h1 : w.cell? a1 = some v1) (h2 : w.cell? a2 = some v2) (h3 : w.cell? a3 = some v3) (h4 : w.cell? a4 = some v4) (h5 : w.cell? a5 = some v5) (h6 : w.cell? a6 = some v6) (h7 : w.cell? a7 = some v7) : ∀ w', Below w.heap.size w w' → w'.cell? a0 = some v0 ∧ w'.cell? a1 = some v1 ∧ w'.cell? a2 = some v2 ∧ w'.cell? a3 = some v3 ∧ w'.cell? a4 = some v4 ∧ w'.cell? a5 = some v5 ∧ w'.cell? a6 = some v6 ∧ w'.cell? a7 = some v7 := fun w' hb => ⟨(hb.cell (lt_of_cellq h0)).trans h0, (hb.cell (lt_of_cellq h1)).trans h1, (hb.cell (lt_of_cellq h2)).trans h2, (hb.cell (lt_of_cellq h3)).trans h3, (hb.cell (lt_of_cellq h4)).trans h4, (hb.cell (lt_of_cellq h5)).trans h5, (hb.cell (lt_of_cellq h6)).trans h6, (hb.cell (lt_of_cellq h7)).trans h7⟩
theorem held8 {a0 a1 a2 a3 a4 a5 a6 a7 : Addr} {v0 v1 v2 v3 v4 v5 v6 v7 : Value} (h0 : w.cell? a0 = some v0) (h1 : w.cell? a1 = some v1) (h2 : w.cell? a2 = some v2) (h3 : w.cell? a3 = some v3) (h4 : w.cell? a4 = some v4) (h5 : w.cell? a5 = some v5) (h6 : w.cell? a6 = some v6) (h7 : w.cell? a7 = some v7)
    (k : ∀ W0, Below w.heap.size w W0 → wpAnyH P .any ops Q (fun w' => w'.cell? a0 = some v0 ∧ w'.cell? a1 = some v1 ∧ w'.cell? a2 = some v2 ∧ w'.cell? a3 = some v3 ∧ w'.cell? a4 = some v4 ∧ w'.cell? a5 = some v5 ∧ w'.cell? a6 = some v6 ∧ w'.cell? a7 = some v7) ops.size (Array.replicate ops.size false) a W0)
    (hm : P.follows .mixedOrders = true := by kernel_rfl) : (Code.region id ops true).wp P Q a w :=
  wp_region_held_drew (S := fun w' => w'.cell? a0 = some v0 ∧ w'.cell? a1 = some v1 ∧ w'.cell? a2 = some v2 ∧ w'.cell? a3 = some v3 ∧ w'.cell? a4 = some v4 ∧ w'.cell? a5 = some v5 ∧ w'.cell? a6 = some v6 ∧ w'.cell? a7 = some v7) hm (cl8 h0 h1 h2 h3 h4 h5 h6 h7 _ (Below.refl _ _).drew) (fun _ => k _ (Below.refl _ _).drew)
theorem cl10 {a0 a1 a2 a3 a4 a5 a6 a7 a8 a9 : Addr} {v0 v1 v2 v3 v4 v5 v6 v7 v8 v9 : Value} (h0 : w.cell? a0 = some v0) (h1 : w.cell? a1 = some v1) (h2 : w.cell? a2 = some v2) (h3 : w.cell? a3 = some v3) (h4 : w.cell? a4 = some v4) (h5 : w.cell? a5 = some v5) (h6 : w.cell? a6 = some v6) (h7 : w.cell? a7 = some v7) (h8 : w.cell? a8 = some v8) (h9 : w.cell? a9 = some v9) : ∀ w', Below w.heap.size w w' → w'.cell? a0 = some v0 ∧ w'.cell? a1 = some v1 ∧ w'.cell? a2 = some v2 ∧ w'.cell? a3 = some v3 ∧ w'.cell? a4 = some v4 ∧ w'.cell? a5 = some v5 ∧ w'.cell? a6 = some v6 ∧ w'.cell? a7 = some v7 ∧ w'.cell? a8 = some v8 ∧ w'.cell? a9 = some v9 := fun w' hb => ⟨(hb.cell (lt_of_cellq h0)).trans h0, (hb.cell (lt_of_cellq h1)).trans h1, (hb.cell (lt_of_cellq h2)).trans h2, (hb.cell (lt_of_cellq h3)).trans h3, (hb.cell (lt_of_cellq h4)).trans h4, (hb.cell (lt_of_cellq h5)).trans h5, (hb.cell (lt_of_cellq h6)).trans h6, (hb.cell (lt_of_cellq h7)).trans h7, (hb.cell (lt_of_cellq h8)).trans h8, (hb.cell (lt_of_cellq h9)).trans h9⟩
theorem held10 {a0 a1 a2 a3 a4 a5 a6 a7 a8 a9 : Addr} {v0 v1 v2 v3 v4 v5 v6 v7 v8 v9 : Value} (h0 : w.cell? a0 = some v0) (h1 : w.cell? a1 = some v1) (h2 : w.cell? a2 = some v2) (h3 : w.cell? a3 = some v3) (h4 : w.cell? a4 = some v4) (h5 : w.cell? a5 = some v5) (h6 : w.cell? a6 = some v6) (h7 : w.cell? a7 = some v7) (h8 : w.cell? a8 = some v8) (h9 : w.cell? a9 = some v9)
    (k : ∀ W0, Below w.heap.size w W0 → wpAnyH P .any ops Q (fun w' => w'.cell? a0 = some v0 ∧ w'.cell? a1 = some v1 ∧ w'.cell? a2 = some v2 ∧ w'.cell? a3 = some v3 ∧ w'.cell? a4 = some v4 ∧ w'.cell? a5 = some v5 ∧ w'.cell? a6 = some v6 ∧ w'.cell? a7 = some v7 ∧ w'.cell? a8 = some v8 ∧ w'.cell? a9 = some v9) ops.size (Array.replicate ops.size false) a W0)
    (hm : P.follows .mixedOrders = true := by kernel_rfl) : (Code.region id ops true).wp P Q a w :=
  wp_region_held_drew (S := fun w' => w'.cell? a0 = some v0 ∧ w'.cell? a1 = some v1 ∧ w'.cell? a2 = some v2 ∧ w'.cell? a3 = some v3 ∧ w'.cell? a4 = some v4 ∧ w'.cell? a5 = some v5 ∧ w'.cell? a6 = some v6 ∧ w'.cell? a7 = some v7 ∧ w'.cell? a8 = some v8 ∧ w'.cell? a9 = some v9) hm (cl10 h0 h1 h2 h3 h4 h5 h6 h7 h8 h9 _ (Below.refl _ _).drew) (fun _ => k _ (Below.refl _ _).drew)
theorem tu {md : Region.Mode} {S : World → Prop} (i : Nat) {oi : Oper} {d : Nat} {fuel : Nat} {listed : Array Bool} {a : Act} {w : World} (hi : ops[i]? = some oi) (hS : S w)
    (h : wpAnyH P md ops Q S fuel (listed.setIfInBounds i true) { a with tmps := a.tmps.setIfInBounds d undef } w)
    (hs : Region.noSelect ops = true := by kernel_rfl) (hf : Region.free md ops listed i = true := by kernel_rfl) (hr : (Region.ready md ops listed).contains i = true := by kernel_rfl)
    (hd : oi.dst = some d := by rfl)
    (hQ : ∀ c a w, Q (.panic c) (a.put oi.dst undef) w → Q (.panic c) a w := by intro _ _ _ h; first | exact h | (exact absurd h.1 (by intro hh; cases hh)))
    (hw : Region.wanted oi (yielded ops a.tmps) = false := by kernel_rfl) : wpAnyH P md ops Q S (fuel + 1) listed a w :=
  wpAnyH_take hi hs hf hr hQ (Or.inr ⟨hw, rfl⟩) hS (by rw [hd]; exact h)
end
end Go.Proofs.YtchclaipbahiiaaGreat
end

section
namespace Go.Proofs.YtchclaipbahiiaaGreat
open Go Go.RowKit Go.Proofs
set_option linter.unusedVariables false
set_option linter.unusedSimpArgs false
attribute [local go_sem] imax2 imin2
def cmpP (a b : Int × Int) : Int := orL [cmpI a.1 b.1, cmpI a.2 b.2]
theorem rd_new2 (w : World) (a b : Int) (t : TypeId) : RdI (w.alloc (.cells #[.int .i64 a, .int .i64 b] t)) (some ⟨w.heap.size, 0, none⟩) [a, b] :=
  .inr ⟨_, 0, rfl, fun i hi => match i, hi with
    | 0, _ => by rw [at_new]; rfl
    | 1, _ => by rw [at_new]; rfl⟩
theorem cmpP_neg (a b : Int × Int) : decide (cmpP a b < 0) = ordB a b := by
  unfold cmpP ordB
  by_cases h : a.1 = b.1
  · rw [orL, if_neg (by rw [(cmpI_zero _ _).2 h]; decide), orL]
    by_cases h2 : a.2 = b.2
    · rw [if_neg (by rw [(cmpI_zero _ _).2 h2]; decide), orL, h, h2]; simp
    · rw [if_pos (fun hc => h2 ((cmpI_zero _ _).1 hc)), h]
      simp only [Int.lt_irrefl, decide_false, decide_true, Bool.true_and, Bool.false_or]; exact decide_eq_decide.2 (cmpI_neg _ _)
  · rw [orL, if_pos (fun hc => h ((cmpI_zero _ _).1 hc))]
    simp only [h, decide_false, Bool.false_and, Bool.or_false]; exact decide_eq_decide.2 (cmpI_neg _ _)
set_option maxHeartbeats 1600000 in
set_option maxRecDepth 100000 in
theorem t_inOrder (a b c d : Int) (w : World) : Calls Tryz.prog 87 #[.agg #[.int .i64 a, .int .i64 b], .agg #[.int .i64 c, .int .i64 d]] w fun e w' => e = .returned (.int .i64 (cmpP (a, b) (c, d))) ∧ Below w.heap.size w w' := by
  obtain ⟨w0, e0, HS0, k0, k1, b0⟩ := box2 w (.int .i64 a) (.int .i64 b) 99; obtain ⟨w1, e1, HS1, q0, q1, b1⟩ := box2 w0 (.int .i64 c) (.int .i64 d) 99; have k0 := (b1.cell (lt_of_cellq k0)).trans k0; have k1 := (b1.cell (lt_of_cellq k1)).trans k1; have HB := Lib.hid (b0.trans (b1.mono b0.size)); have HP := Lib.hid (show cmpP (a, b) (c, d) = orL [cmpI a c, cmpI b d] from rfl); have hc1 := c_compare a c; have hc2 := c_compare b d; obtain ⟨X, hX⟩ : ∃ X, cmpI a c = X := ⟨_, rfl⟩; obtain ⟨Y, hY⟩ : ∃ Y, cmpI b d = Y := ⟨_, rfl⟩; rw [hX] at hc1 HP; rw [hY] at hc2 HP; have H1 := Lib.hid hc1; have H2 := Lib.hid hc2; clear b0 b1 hX hY hc1 hc2
  go_enter Tryz.func87, Tryz.ntmps87
  go_upto_region 1 with (fail); clear e0 e1; have HSB := Lib.hid (cl4 k0 k1 q0 q1); refine held4 k0 k1 q0 q1 (fun W0 HB0 => ?_); refine tk 0 rfl (by exact HSB.out _ HB0) ?_; (try simp only [Act.put, ptL]); refine tk 1 rfl (by exact HSB.out _ HB0) ?_; (try simp only [Act.put, ptL]); refine tk 2 rfl (by exact HSB.out _ HB0) ?_; (try simp only [Act.put, ptL]); refine tk 3 rfl (by exact HSB.out _ HB0) ?_; (try simp only [Act.put, ptL]); refine tk 5 rfl (by exact HSB.out _ HB0) ?_; (try simp only [Act.put, ptL]); refine tk 6 rfl (by exact HSB.out _ HB0) ?_; (try simp only [Act.put, ptL]); refine tk 7 rfl (by exact HSB.out _ HB0) ?_; (try simp only [Act.put, ptL]); refine tk 8 rfl (by exact HSB.out _ HB0) ?_; (try simp only [Act.put, ptL]); refine rz1 4 rfl ?_; intro K hK; go_simp; refine (H1.out _).mono ?_; rintro e w' ⟨rfl, rfl⟩; refine kz hK (by exact HSB.out _ HB0) ?_; clear hK K; (try simp only [Act.put, ptL])
  refine rz1 9 rfl ?_; intro K hK; go_simp; refine (H2.out _).mono ?_; rintro e w' ⟨rfl, rfl⟩; refine kz hK (by exact HSB.out _ HB0) ?_; clear hK K; (try simp only [Act.put, ptL]); refine rz1 10 rfl ?_; intro K hK; go_simp; obtain ⟨W1, e1⟩ : ∃ W1, W0.alloc (.cells #[.int .i64 X, .int .i64 Y] 3) = W1 := ⟨_, rfl⟩; rw [e1]; have HB1 : Below w1.heap.size w1 W1 := by rw [← e1]; exact HB0.alloc HB0.size _
  have hor := c_or (some ⟨W0.heap.size, 0, none⟩) 2 [X, Y] W1 (by rw [← e1]; exact rd_new2 W0 X Y 3) (by simp); refine kz hK (by exact HSB.out _ HB1) ?_; clear hK K; (try simp only [Act.put, ptL]); refine rz1 11 rfl ?_; intro K hK; go_simp; refine hor.mono ?_; clear hor; rintro e W2 ⟨rfl, hb2⟩; have HB2 : Below w1.heap.size w1 W2 := HB1.trans (Below.mono (hb2 ▸ Below.refl _ _) HB1.size); refine kz hK (by exact HSB.out _ HB2) ?_; clear hK K; (try simp only [Act.put, ptL]); refine tk 12 rfl (by exact HSB.out _ HB2) ?_; (try simp only [Act.put, ptL]); refine wpAnyH_done (by kernel_rfl) ?_ _; have HBZ := Lib.hid (HB.out.trans (HB2.mono HB.out.size)); clear HSB HB2 HB1 HB0 k0 k1 q0 q1 hb2; go_wp2; go_ret; exact ⟨by rw [HP.out]; rfl, HBZ.out⟩
theorem t_near1 (x v num : Int) (bF : Nat) (w : World) (h : w.cell? ⟨bF, 0, none⟩ = some (.int .i64 num)) (hm : Mid (x * num)) :
    Calls Tryz.prog 125 #[.int .i64 x, .int .i64 v, .pointer (some ⟨bF, 0, none⟩)] w fun e w' => e = .returned (.int .i64 (cmpI (x * num) v)) ∧ w = w' := by
  unfold Mid at hm; obtain ⟨P, hP⟩ : ∃ P, x * num = P := ⟨_, rfl⟩; rw [hP] at hm; have hw : IntKind.i64.wrap (x * num) = P := by rw [hP]; exact w64 _ (by omega) (by omega)
  rw [hP]; clear hP
  go_enter Tryz.func125, Tryz.ntmps125
  go_wp2_with fail; refine (c_compare _ _ _).mono ?_; rintro e w' ⟨rfl, rfl⟩; go_wp2; go_ret; exact ⟨rfl, rfl⟩
theorem atN_of {xs : List Int} {num v : Int} {i : Nat} (h1 : ∀ j, j < i → gi xs j * num < v) (h2 : i ≤ xs.length) (h3 : i < xs.length → ¬ gi xs i * num < v) : atN xs num v = i := by
  unfold atN
  induction xs generalizing i with
  | nil => simp at h2; subst h2; rfl
  | cons x r ih =>
    cases i with
    | zero =>
      have := h3 (by simp); have e : gi (x :: r) 0 = x := rfl; rw [e] at this; rw [List.takeWhile_cons_of_neg (by simpa using this)]; rfl
    | succ i =>
      have h0 := h1 0 (by omega); have e : gi (x :: r) 0 = x := rfl; rw [e] at h0; rw [List.takeWhile_cons_of_pos (by simpa using h0), List.length_cons, ih (i := i) (fun j hj => h1 (j + 1) (by omega)) (by simpa using h2) (fun hi => h3 (by simpa using hi))]
def AtPost (n : Nat) (e : Ending) : Prop := ∃ b, e = .returned (.tuple #[.int .i64 n, .bool b])
set_option maxHeartbeats 1600000 in
set_option maxRecDepth 100000 in
theorem t_bsearch (p : Option Addr) (cap : Nat) (xs : List Int) (v num : Int) (bF : Nat) (w : World) (hx : RdI w p xs) (hl : xs.length ≤ 1000000) (h : w.cell? ⟨bF, 0, none⟩ = some (.int .i64 num)) (hm : ∀ i, i < xs.length → Mid (gi xs i * num))
    (hmono : ∀ i j, i ≤ j → j < xs.length → gi xs i * num ≤ gi xs j * num) :
    Calls Tryz.prog 124 #[.slice p xs.length cap, .int .i64 v, .func (.func 125) #[] #[.pointer (some ⟨bF, 0, none⟩)]] w fun e w' => AtPost (atN xs num v) e ∧ w = w' := by
  have HX := Lib.hid hx; have HM := Lib.hid hm; have HMO := Lib.hid hmono; have HAT := Lib.hid (fun (i : Nat) h1 h2 h3 => @atN_of xs num v i h1 h2 h3); clear hx hm hmono
  go_enter Tryz.func124, Tryz.ntmps124
  go_wp2
  go_loopw [9, 10] (fun a b wr => ∃ i j : Nat, a = .int .i64 i ∧ b = .int .i64 j ∧ i ≤ j ∧ j ≤ xs.length ∧ Hid (∀ k, k < i → gi xs k * num < v) ∧ Hid (∀ k, j ≤ k → k < xs.length → v ≤ gi xs k * num) ∧ w = wr) (fun a b _ => (intOf b - intOf a).toNat)
  case atStart => exact ⟨0, xs.length, rfl, rfl, Nat.zero_le _, Nat.le_refl _, Lib.hid (fun k hk => by omega), Lib.hid (fun k h1 h2 => by omega), rfl⟩
  case round =>
    obtain ⟨i, j, rfl, rfl, hij, hjn, HLO, HHI, rfl⟩ := hrel
    by_cases hlt : i < j
    · have hltI : decide ((i : Int) < (j : Int)) = true := decide_eq_true (by omega)
      have hw1 : IntKind.i64.wrap ((i : Int) + (j : Int)) = (i : Int) + (j : Int) := w64 _ (by omega) (by omega); have hu : IntKind.u64.wrap ((i : Int) + (j : Int)) = (i : Int) + (j : Int) := by rw [IntKind.wrap_u64]; omega
      obtain ⟨m, hme⟩ : ∃ m, (i + j) / 2 = m := ⟨_, rfl⟩; have hmid : ((i : Int) + (j : Int)) / 2 = (m : Int) := by omega
      have him : i ≤ m := by omega
      have hmj : m < j := by omega
      have hwm : IntKind.i64.wrap ((m : Int) + 1) = (m : Int) + 1 := w64 _ (by omega) (by omega); obtain ⟨b, off, rfl, hc⟩ := HX.out.at (i := m) (by omega); have d0 := hc m (by omega); have hcl := t_near1 (gi xs m) v num bF w h (HM.out m (by omega)); have HLO2 := Lib.hid (show gi xs m * num < v → ∀ k, k < m + 1 → gi xs k * num < v from fun hh k hk => Int.lt_of_le_of_lt (HMO.out k m (by omega) (by omega)) hh); have HHI2 := Lib.hid (show ¬ gi xs m * num < v → ∀ k, m ≤ k → k < xs.length → v ≤ gi xs k * num from fun hh k h1 h2 => Int.le_trans (Int.not_lt.1 hh) (HMO.out m k h1 h2)); obtain ⟨y, hy⟩ : ∃ y, gi xs m = y := ⟨_, rfl⟩; rw [hy] at d0 hcl HLO2 HHI2; clear hy hc hme
      by_cases hlv : y * num < v
      · have hcm : decide (cmpI (y * num) v < 0) = true := decide_eq_true ((cmpI_neg _ _).2 hlv)
        have HLO3 := Lib.hid (HLO2.out hlv); obtain ⟨C, hC⟩ : ∃ C, cmpI (y * num) v = C := ⟨_, rfl⟩; rw [hC] at hcl hcm; clear hC hlv HLO2 HHI2; go_wp2_with fail; refine hcl.mono ?_; clear hcl; rintro e w' ⟨rfl, rfl⟩; go_wp2; go_roundw
        case rel => exact ⟨m + 1, j, by go_num, rfl, by omega, hjn, HLO3, HHI, trivial⟩
        case measure => simp [intOf]; omega
      · have hcm : decide (cmpI (y * num) v < 0) = false := decide_eq_false (fun hh => hlv ((cmpI_neg _ _).1 hh))
        have HHI3 := Lib.hid (HHI2.out hlv); obtain ⟨C, hC⟩ : ∃ C, cmpI (y * num) v = C := ⟨_, rfl⟩; rw [hC] at hcl hcm; clear hC hlv HLO2 HHI2; go_wp2_with fail; refine hcl.mono ?_; clear hcl; rintro e w' ⟨rfl, rfl⟩; go_wp2; go_roundw
        case rel => exact ⟨i, m, rfl, rfl, by omega, by omega, HLO, HHI3, trivial⟩
        case measure => simp [intOf]; omega
    · obtain rfl : i = j := by omega
      have hltI : decide ((i : Int) < (i : Int)) = false := by simp
      have HE := Lib.hid (HAT.out i HLO.out hjn (fun hh => HHI.out i (Nat.le_refl _) hh))
      by_cases hn : i < xs.length
      · have hnI : decide ((i : Int) < (xs.length : Int)) = true := decide_eq_true (by omega)
        obtain ⟨b, off, rfl, hc⟩ := HX.out.at (i := i) hn; have d0 := hc i hn; have hcl := t_near1 (gi xs i) v num bF w h (HM.out i hn); clear hc; go_wp2_with fail; refine hcl.mono ?_; clear hcl; rintro e w' ⟨rfl, rfl⟩; go_wp2; go_ret2; exact ⟨⟨_, by rw [HE.out]; rfl⟩, rfl⟩
      · have hnI : decide ((i : Int) < (xs.length : Int)) = false := decide_eq_false (by omega)
        go_wp2; go_ret2; exact ⟨⟨_, by rw [HE.out]; rfl⟩, rfl⟩
set_option maxHeartbeats 1600000 in
set_option maxRecDepth 100000 in
theorem t_ixFr (p : Option Addr) (cap : Nat) (xs : List (Int × Int)) (x1 x2 : Int) (w : World) (hx : RdS w p xs) (hl : xs.length ≤ 1000000) :
    Calls Tryz.prog 157 #[.slice p xs.length cap, .agg #[.int .i64 x1, .int .i64 x2]] w fun e w' => (∃ r : Int, e = .returned (.int .i64 r) ∧ ((0 ≤ r ∧ xs.contains (x1, x2) = true) ∨ (r = -1 ∧ xs.contains (x1, x2) = false))) ∧ Below w.heap.size w w' := by
  obtain ⟨w1, e1, HS1, c0, c1, b1⟩ := box2 w (.int .i64 x1) (.int .i64 x2) 27; have HX := Lib.hid (hx.below b1); have HC := Lib.hid (And.intro c0 c1); have HB := Lib.hid b1; clear hx c0 c1 b1
  go_enter Tryz.func157, Tryz.ntmps157
  go_wp2
  go_loopw [8] (fun i wr => ∃ k : Nat, k ≤ xs.length ∧ i = .int .i64 k ∧ Hid (∀ j, j < k → gm xs j ≠ (x1, x2)) ∧ Hid (Below w1.heap.size w1 wr)) (fun i _ => xs.length - (intOf i).toNat)
  case atStart => exact ⟨0, Nat.zero_le _, rfl, Lib.hid (fun j h => by omega), Lib.hid (Below.refl _ _)⟩
  case round =>
    obtain ⟨k, hk, rfl, HN, HBR⟩ := hrel
    by_cases hlt : k < xs.length
    · have hltI : decide ((k : Int) < (xs.length : Int)) = true := by simp; omega
      obtain ⟨b, off, rfl, hc⟩ := (HX.out.below HBR.out).at hlt; obtain ⟨d0, d1⟩ := hc k hlt; have c0 := (HBR.out.cell (lt_of_cellq HC.out.1)).trans HC.out.1; have c1 := (HBR.out.cell (lt_of_cellq HC.out.2)).trans HC.out.2; have HL := Lib.hid hlt; obtain ⟨⟨y1, y2⟩, hy⟩ : ∃ y, gm xs k = y := ⟨_, rfl⟩; rw [hy] at d0 d1; simp only at d0 d1; have HY := Lib.hid hy; clear hc hy; have HSB := Lib.hid (cl4 c0 c1 d0 d1); have hkI : (k : Int) < (xs.length : Int) := by omega
      by_cases he : x1 = y1 ∧ x2 = y2
      · obtain ⟨rfl, rfl⟩ := he
        have HM := Lib.hid (show xs.contains (x1, x2) = true by rw [← HY.out, gm_get _ _ HL.out]; simp); go_wp2; refine held4 c0 c1 d0 d1 (fun W0 HB0 => ?_); clear c0 c1 d0 d1; refine tk 0 rfl (by exact HSB.out _ HB0) ?_; (try simp only [Act.put, ptL]); refine tk 1 rfl (by exact HSB.out _ HB0) ?_; (try simp only [Act.put, ptL]); refine tk 2 rfl (by exact HSB.out _ HB0) ?_; (try simp only [Act.put, ptL]); refine tk 3 rfl (by exact HSB.out _ HB0) ?_; (try simp only [Act.put, ptL]); refine tk 4 rfl (by exact HSB.out _ HB0) ?_; (try simp only [Act.put, ptL]); refine tk 5 rfl (by exact HSB.out _ HB0) ?_; (try simp only [Act.put, ptL]); refine wpAnyH_done (by kernel_rfl) ?_ _; have HBF := Lib.hid (HBR.out.trans (HB0.mono HBR.out.size)); clear HSB HB0; go_wp2; go_ret; exact ⟨⟨_, rfl, .inl ⟨by omega, HM.out⟩⟩, HB.out.trans (HBF.out.mono HB.out.size)⟩
      · have HN2 := Lib.hid (show ∀ j, j < k + 1 → gm xs j ≠ (x1, x2) from fun j hj => by
          by_cases h : j < k
          · exact HN.out j h
          · obtain rfl : j = k := by omega
            rw [HY.out]; intro e; exact he ⟨(congrArg Prod.fst e).symm, (congrArg Prod.snd e).symm⟩)
        by_cases h1 : x1 = y1
        · have h2 : ¬ x2 = y2 := fun h => he ⟨h1, h⟩
          clear he; go_wp2; refine held4 c0 c1 d0 d1 (fun W0 HB0 => ?_); clear c0 c1 d0 d1; refine tk 0 rfl (by exact HSB.out _ HB0) ?_; (try simp only [Act.put, ptL]); refine tk 1 rfl (by exact HSB.out _ HB0) ?_; (try simp only [Act.put, ptL]); refine tk 2 rfl (by exact HSB.out _ HB0) ?_; (try simp only [Act.put, ptL]); refine tk 3 rfl (by exact HSB.out _ HB0) ?_; (try simp only [Act.put, ptL]); refine tk 4 rfl (by exact HSB.out _ HB0) ?_; (try simp only [Act.put, ptL]); refine tk 5 rfl (by exact HSB.out _ HB0) ?_; (try simp only [Act.put, ptL]); refine wpAnyH_done (by kernel_rfl) ?_ _; have HBF := Lib.hid (HBR.out.trans (HB0.mono HBR.out.size)); clear HSB HB0; go_wp2; go_roundw
          case rel => exact ⟨k + 1, by omega, by go_num, HN2, HBF⟩
          case measure => simp [intOf]; omega
        · clear he
          go_wp2; refine held4 c0 c1 d0 d1 (fun W0 HB0 => ?_); clear c0 c1 d0 d1; refine tk 0 rfl (by exact HSB.out _ HB0) ?_; (try simp only [Act.put, ptL]); refine tk 1 rfl (by exact HSB.out _ HB0) ?_; (try simp only [Act.put, ptL]); refine tk 2 rfl (by exact HSB.out _ HB0) ?_; (try simp only [Act.put, ptL]); refine tk 3 rfl (by exact HSB.out _ HB0) ?_; (try simp only [Act.put, ptL]); refine tk 4 rfl (by exact HSB.out _ HB0) ?_; (try simp only [Act.put, ptL]); refine tk 5 rfl (by exact HSB.out _ HB0) ?_; (try simp only [Act.put, ptL]); refine wpAnyH_done (by kernel_rfl) ?_ _; have HBF := Lib.hid (HBR.out.trans (HB0.mono HBR.out.size)); clear HSB HB0; go_wp2; go_roundw
          case rel => exact ⟨k + 1, by omega, by go_num, HN2, HBF⟩
          case measure => simp [intOf]; omega
    · obtain rfl : k = xs.length := by omega
      have hltI : decide ((xs.length : Int) < (xs.length : Int)) = false := by simp
      have HM := Lib.hid (show xs.contains (x1, x2) = false by
        rw [← Bool.not_eq_true, List.contains_iff_mem]; intro hm; obtain ⟨j, hj, e⟩ := List.getElem_of_mem hm; exact HN.out j hj (by rw [gm_get _ _ hj]; exact e))
      go_wp2; go_ret; exact ⟨⟨_, rfl, .inr ⟨rfl, HM.out⟩⟩, HB.out.trans (HBR.out.mono HB.out.size)⟩
theorem t_hasFr (p : Option Addr) (cap : Nat) (xs : List (Int × Int)) (x1 x2 : Int) (w : World) (hx : RdS w p xs) (hl : xs.length ≤ 1000000) :
    Calls Tryz.prog 129 #[.slice p xs.length cap, .agg #[.int .i64 x1, .int .i64 x2]] w fun e w' => e = .returned (.bool (xs.contains (x1, x2))) ∧ Below w.heap.size w w' := by
  obtain ⟨w1, e1, HS1, c0, c1, b1⟩ := box2 w (.int .i64 x1) (.int .i64 x2) 27; have h := t_ixFr p cap xs x1 x2 w1 (hx.below b1) hl; have HB := Lib.hid b1; clear hx b1
  go_enter Tryz.func129, Tryz.ntmps129
  go_wp2_with fail; refine h.mono ?_; clear h; rintro e w2 ⟨⟨r, rfl, ⟨h0, hm⟩ | ⟨rfl, hm⟩⟩, b2⟩
  · have HM := Lib.hid hm
    have hd : decide (r ≥ 0) = true := decide_eq_true h0; have HB2 := Lib.hid (HB.out.trans (b2.mono HB.out.size)); clear hm b2; go_wp2; go_ret; exact ⟨by rw [HM.out]; rfl, HB2.out⟩
  · have HM := Lib.hid hm
    have HB2 := Lib.hid (HB.out.trans (b2.mono HB.out.size)); clear hm b2; go_wp2; go_ret; exact ⟨by rw [HM.out]; rfl, HB2.out⟩
set_option maxHeartbeats 1600000 in
set_option maxRecDepth 100000 in
theorem a_same (p q : Option Addr) (c c' : Nat) (xs : List (Int × Int)) (w : World) (hx : RdS w p xs) (hy : RdS w q xs) (hl : xs.length ≤ 1000000) :
    Calls Tryz.prog 31 #[.slice p xs.length c, .slice q xs.length c'] w fun e w' => e = .returned (.bool true) ∧ Below w.heap.size w w' := by
  have HX := Lib.hid hx; have HY := Lib.hid hy; clear hx hy
  go_enter Tryz.func31, Tryz.ntmps31
  go_wp2
  go_loopw [5] (fun i wr => ∃ k : Nat, k ≤ xs.length ∧ i = .int .i64 k ∧ Hid (Below w.heap.size w wr)) (fun i _ => xs.length - (intOf i).toNat)
  case atStart => exact ⟨0, Nat.zero_le _, rfl, Lib.hid (Below.refl _ _)⟩
  case round =>
    obtain ⟨k, hk, rfl, HBR⟩ := hrel
    by_cases hlt : k < xs.length
    · have hltI : decide ((k : Int) < (xs.length : Int)) = true := by simp; omega
      obtain ⟨b, off, rfl, hc⟩ := (HX.out.below HBR.out).at hlt; obtain ⟨b', off', rfl, hc'⟩ := (HY.out.below HBR.out).at hlt; obtain ⟨d0, d1⟩ := hc k hlt; obtain ⟨c0, c1⟩ := hc' k hlt; obtain ⟨⟨y1, y2⟩, hy⟩ : ∃ y, gm xs k = y := ⟨_, rfl⟩; rw [hy] at d0 d1 c0 c1; simp only at d0 d1 c0 c1; clear hc hc' hy; have HSB := Lib.hid (cl4 c0 c1 d0 d1); have hkI : (k : Int) < (xs.length : Int) := by omega
      go_wp2; refine held4 c0 c1 d0 d1 (fun W0 HB0 => ?_); clear c0 c1 d0 d1; refine tk 0 rfl (by exact HSB.out _ HB0) ?_; (try simp only [Act.put, ptL]); refine tk 1 rfl (by exact HSB.out _ HB0) ?_; (try simp only [Act.put, ptL]); refine tk 2 rfl (by exact HSB.out _ HB0) ?_; (try simp only [Act.put, ptL]); refine tk 3 rfl (by exact HSB.out _ HB0) ?_; (try simp only [Act.put, ptL]); refine tk 4 rfl (by exact HSB.out _ HB0) ?_; (try simp only [Act.put, ptL]); refine tk 5 rfl (by exact HSB.out _ HB0) ?_; (try simp only [Act.put, ptL]); refine tk 6 rfl (by exact HSB.out _ HB0) ?_; (try simp only [Act.put, ptL]); refine tk 7 rfl (by exact HSB.out _ HB0) ?_; (try simp only [Act.put, ptL]); refine tk 8 rfl (by exact HSB.out _ HB0) ?_; (try simp only [Act.put, ptL]); refine wpAnyH_done (by kernel_rfl) ?_ _; have HBF := Lib.hid (HBR.out.trans (HB0.mono HBR.out.size)); clear HSB HB0; go_wp2; go_roundw
      case rel => exact ⟨k + 1, by omega, by go_num, HBF⟩
      case measure => simp [intOf]; omega
    · obtain rfl : k = xs.length := by omega
      have hltI : decide ((xs.length : Int) < (xs.length : Int)) = false := by simp
      go_wp2; go_ret; exact ⟨rfl, HBR.out⟩
def gk (l : List (Int × Int × Int)) (i : Nat) : Int × Int × Int := l.getD i (0, 0, 0)
def RdLk (w : World) (p : Option Addr) (ls : List (Int × Int × Int)) : Prop :=
  ls = [] ∨ ∃ b off, p = some ⟨b, off, none⟩ ∧ ∀ i, i < ls.length → w.cell? ⟨b, off + i * 3, none⟩ = some (.int .i64 (gk ls i).1) ∧ w.cell? ⟨b, off + i * 3 + 1, none⟩ = some (.int .i64 (gk ls i).2.1) ∧ w.cell? ⟨b, off + i * 3 + 2, none⟩ = some (.int .i64 (gk ls i).2.2)
theorem RdLk.at {w : World} {p : Option Addr} {ls : List (Int × Int × Int)} (h : RdLk w p ls) {i : Nat} (hi : i < ls.length) :
    ∃ b off, p = some ⟨b, off, none⟩ ∧ ∀ i, i < ls.length → w.cell? ⟨b, off + i * 3, none⟩ = some (.int .i64 (gk ls i).1) ∧ w.cell? ⟨b, off + i * 3 + 1, none⟩ = some (.int .i64 (gk ls i).2.1) ∧ w.cell? ⟨b, off + i * 3 + 2, none⟩ = some (.int .i64 (gk ls i).2.2) := by
  rcases h with h | h
  · subst h; simp at hi
  · exact h
theorem RdLk.below {w w' : World} {p : Option Addr} {ls : List (Int × Int × Int)} (h : RdLk w p ls) (hb : Below w.heap.size w w') : RdLk w' p ls := by
  rcases h with h | ⟨b, off, rfl, hc⟩
  · exact .inl h
  · refine .inr ⟨b, off, rfl, fun i hi => ?_⟩
    obtain ⟨h1, h2, h3⟩ := hc i hi; exact ⟨(hb.cell (lt_of_cellq h1)).trans h1, (hb.cell (lt_of_cellq h2)).trans h2, (hb.cell (lt_of_cellq h3)).trans h3⟩
theorem e_pair (a b : Int) (w : World) : Calls Tryz.prog 65 #[.int .i64 a, .int .i64 b] w fun e w' => e = .returned (.agg #[.int .i64 a, .int .i64 b]) ∧ Below w.heap.size w w' := by
  obtain ⟨w1, e1, HS1, c0, c1, b1⟩ := box2 w (.int .i64 a) (.int .i64 b) 99
  go_enter Tryz.func65, Tryz.ntmps65
  go_wp2; refine bodyPost_ret (v := .agg #[.int .i64 a, .int .i64 b]) ?_ rfl ⟨rfl, b1⟩; simp [results, Tryz.results65, go_sem, c0, c1]
def shopE : List (Int × Int × Int) := [(0, 10, 20), (1, 12, 18), (1, 15, 10)]
def PPost (w : World) (e : Ending) (w' : World) : Prop := ∃ p c q d, e = .returned (.agg #[.slice p shopE.length c, .slice q [(2 : Int), 3].length d]) ∧ RdLk w' p shopE ∧ RdI w' q [2, 3] ∧ shopE.length ≤ c ∧ Below w.heap.size w w'
set_option maxHeartbeats 1600000 in
set_option maxRecDepth 100000 in
theorem e_P (w : World) : Calls Tryz.prog 28 #[] w (PPost w) := by
  go_enter Tryz.func28, Tryz.ntmps28
  obtain ⟨w1, e1, HS1, x0, x1, b1⟩ := box2 w (.slice none 0 0) (.slice none 0 0) 47; have k1 := alloc_new w (.cells #[.slice none 0 0, .slice none 0 0] 47); rw [e1] at k1; go_wp2_with fail; refine (e_pair _ _ _).mono ?_; rintro e w2 ⟨rfl, b2⟩; have k2 := (b2.block _ (block_lt k1)).trans k1; have B2 := Lib.hid (b1.trans (b2.mono b1.size)); clear b1 b2 e1 x0 x1 k1; go_wp2_with fail; refine (e_pair _ _ _).mono ?_; rintro e w3 ⟨rfl, b3⟩; have k3 := (b3.block _ (block_lt k2)).trans k2; have B3 := Lib.hid (B2.out.trans (b3.mono B2.out.size)); clear b3 k2; go_wp2_with fail; refine (e_pair _ _ _).mono ?_; rintro e w4 ⟨rfl, b4⟩; have k4 := (b4.block _ (block_lt k3)).trans k3; have B4 := Lib.hid (B3.out.trans (b4.mono B3.out.size)); clear b4 k3; obtain ⟨w5, e5⟩ : ∃ w5, w4.alloc (.cells #[.int .i64 0, .int .i64 10, .int .i64 20, .int .i64 1, .int .i64 12, .int .i64 18, .int .i64 1, .int .i64 15, .int .i64 10] 130) = w5 := ⟨_, rfl⟩
  have k5 := alloc_new w4 (.cells #[.int .i64 0, .int .i64 10, .int .i64 20, .int .i64 1, .int .i64 12, .int .i64 18, .int .i64 1, .int .i64 15, .int .i64 10] 130); have b5 : Below w4.heap.size w4 w5 := by rw [← e5]; exact below_alloc1 _ _
  rw [e5] at k5; obtain ⟨w6, e6⟩ : ∃ w6, w5.alloc (.cells #[.int .i64 2, .int .i64 3] 3) = w6 := ⟨_, rfl⟩; have k6 := alloc_new w5 (.cells #[.int .i64 2, .int .i64 3] 3); have b6 : Below w5.heap.size w5 w6 := by rw [← e6]; exact below_alloc1 _ _
  rw [e6] at k6; have q4 := ((b5.trans (b6.mono b5.size)).block _ (block_lt k4)).trans k4; have q5 := (b6.block _ (block_lt k5)).trans k5; have B6 := Lib.hid (B4.out.trans ((b5.trans (b6.mono b5.size)).mono B4.out.size)); obtain ⟨w7, w8, s7, s8, ⟨y0, f0⟩, ⟨y1, f1⟩, h8, hk8, HZ8, hb8⟩ := set2 w6 w.heap.size 47 _ _ (.slice (some ⟨w4.heap.size, 0, none⟩) 3 3) (.slice (some ⟨w5.heap.size, 0, none⟩) 2 2) q4; have hne5 : w4.heap.size ≠ w.heap.size := by have := block_lt k4; omega
  have hne6 : w5.heap.size ≠ w.heap.size := by have := block_lt k4; have := b5.size; omega
  have r5 := (hk8 _ hne5).trans q5; have r6 := (hk8 _ hne6).trans k6; have B8 := Lib.hid (hb8 w w.heap.size (Nat.le_refl _) B6.out); obtain ⟨z0, z1⟩ := cells2 h8; clear b5 b6 k4 k5 k6 q4 q5 hk8 hb8 h8; go_wp2; refine bodyPost_ret (v := .agg #[.slice (some ⟨w4.heap.size, 0, none⟩) 3 3, .slice (some ⟨w5.heap.size, 0, none⟩) 2 2]) ?_ rfl ?_
  · simp [results, Tryz.results28, go_sem, z0, z1]
  · refine ⟨_, _, _, _, rfl, .inr ⟨_, _, rfl, ?_⟩, .inr ⟨_, _, rfl, ?_⟩, Nat.le_refl 3, B8.out⟩
    · intro j hj
      have hj' : j = 0 ∨ j = 1 ∨ j = 2 := by have : shopE.length = 3 := rfl; omega
      rcases hj' with rfl | rfl | rfl <;> exact ⟨by rw [cell_of_row _ _ _ _ _ _ r5]; rfl, by rw [cell_of_row _ _ _ _ _ _ r5]; rfl, by rw [cell_of_row _ _ _ _ _ _ r5]; rfl⟩
    · intro j hj
      have hj' : j = 0 ∨ j = 1 := by simp only [List.length_cons, List.length_nil] at hj; omega
      rcases hj' with rfl | rfl <;> (rw [cell_of_row _ _ _ _ _ _ r6]; rfl)
end Go.Proofs.YtchclaipbahiiaaGreat
end

section
namespace Go.Proofs.YtchclaipbahiiaaGreat
open Go Go.ChangeShapes Go.WideShapes Go.ChangeAt Go.RowKit Go.Proofs
set_option linter.unusedVariables false
theorem ownT : ownKnob Tryz.prog.godebug = none := by kernel_rfl
theorem laidOutT : laidOutB Tryz.prog = true := by kernel_rfl
theorem tc_int : Tryz.prog.cellsOf 3 = 1 := by kernel_rfl
theorem tc_span : Tryz.prog.cellsOf 61 = 2 := by kernel_rfl
theorem tc_link : Tryz.prog.cellsOf 130 = 3 := by kernel_rfl
theorem tc_shop : Tryz.prog.cellsOf 47 = 2 := by kernel_rfl
theorem add_plainT (b off i : Nat) : (⟨b, off, none⟩ : Addr).add i = ⟨b, off + i, none⟩ := by unfold Addr.add; split <;> simp_all
section
variable {H : Type} {enc : TypeId × Value → H} {W : World}
theorem rd_ints {fuel : Nat} {cs : List Value} {x : DataW H × List MemPlace} (h : DataW.trod enc Tryz.prog W 0 (fun _ => true) true fuel 23 cs = some x) :
    ∃ p cap xs, cs = [.slice p (List.length xs) cap] ∧ RdI W p xs ∧ xs.length ≤ maxLen := by
  rcases open_ints Tryz.underlying23 Tryz.underlying3 tc_int h with ⟨hcs, _⟩ | ⟨a, l, c, zs, hcs, _, hl, hm, hz, _, hcell, _⟩
  · exact ⟨none, 0, [], hcs, .inl rfl, by simp⟩
  · have hzl : zs.length = c := by simpa using hz
    have hxl : (zs.take l).length = l := by rw [List.length_take]; omega
    refine ⟨some a, c, zs.take l, by rw [hxl]; exact hcs, ?_, by omega⟩
    rcases Nat.eq_zero_or_pos l with h0 | h0
    · left; rw [h0]; rfl
    · obtain ⟨b, off, spot⟩ := a
      have hc := hcell 0 (by omega); have hspot : spot = none := by simpa [Addr.add] using World.cell?_spot hc
      subst hspot; refine .inr ⟨b, off, rfl, fun i hi => ?_⟩; rw [hxl] at hi; have := hcell i (by omega); rw [add_plainT] at this; rw [this]; unfold gi; rw [List.getD_eq_getElem?_getD, List.getD_eq_getElem?_getD, List.getElem?_take, if_pos hi]
set_option maxRecDepth 100000 in
theorem op_ints {base : Nat} {v : Value} {d : DataW H} {ps : List MemPlace} (hv : Value.okWide Tryz.prog W .any base 23 v) (h : DataW.Trod enc Tryz.prog W 0 (fun _ => true) true 23 v d ps) :
    ∃ p cap xs, v = .slice p (List.length xs) cap ∧ RdI W p xs ∧ xs.length ≤ maxLen := by
  obtain ⟨a0, len, cap, rfl⟩ := okWide_slice Tryz.underlying23 hv; obtain ⟨fuel, hf⟩ := h; obtain ⟨p, c, xs, hcs, hr, hl⟩ := rd_ints hf; simp [Value.cells] at hcs; obtain ⟨rfl, rfl, rfl⟩ := hcs; exact ⟨_, _, xs, rfl, hr, hl⟩
set_option maxRecDepth 100000 in
theorem op_int {base : Nat} {v : Value} {d : DataW H} {ps : List MemPlace} (hv : Value.okWide Tryz.prog W .any base 3 v) (h : DataW.Trod enc Tryz.prog W 0 (fun _ => true) true 3 v d ps) :
    ∃ x : Int, v = .int .i64 x ∧ -9223372036854775808 ≤ x ∧ x ≤ 9223372036854775807 := by
  obtain ⟨x, rfl, rfl, rfl, wx⟩ := open_int Tryz.underlying3 hv h; exact ⟨x, rfl, bounds_i64 wx⟩
theorem int_ofT {fuel : Nat} {v : Value} {x : DataW H × List MemPlace} (h : DataW.trod enc Tryz.prog W 0 (fun _ => true) true fuel 3 [v] = some x) : ∃ n : Int, v = .int .i64 n ∧ -9223372036854775808 ≤ n ∧ n ≤ 9223372036854775807 := by
  obtain ⟨n, hc, _, wn⟩ := DataW.trod_int Tryz.underlying3 h; exact ⟨n, by simpa using hc, bounds_i64 wn⟩
theorem list_of {α : Type} (d : α) (Q : Nat → α → Prop) : ∀ n, (∀ i, i < n → ∃ x, Q i x) → ∃ l : List α, l.length = n ∧ ∀ i, i < n → Q i (l.getD i d) := by
  intro n
  induction n with
  | zero => intro _; exact ⟨[], rfl, fun i hi => by omega⟩
  | succ n ih =>
    intro hq; obtain ⟨l, h1, h2⟩ := ih (fun i hi => hq i (by omega)); obtain ⟨x, hx⟩ := hq n (by omega); refine ⟨l ++ [x], by simp [h1], fun i hi => ?_⟩
    rcases Nat.lt_or_ge i n with h | h
    · have e : (l ++ [x]).getD i d = l.getD i d := by rw [List.getD_eq_getElem?_getD, List.getElem?_append_left (by omega), ← List.getD_eq_getElem?_getD]
      rw [e]; exact h2 i h
    · obtain rfl : i = n := by omega
      have e : (l ++ [x]).getD i d = x := by rw [List.getD_eq_getElem?_getD, List.getElem?_append_right (by omega), h1, Nat.sub_self]; rfl
      rw [e]; exact hx
set_option maxRecDepth 100000 in
theorem rd_spansT {fuel : Nat} {v : Value} {x : DataW H × List MemPlace} (h : DataW.trod enc Tryz.prog W 0 (fun _ => true) true fuel 48 [v] = some x) :
    ∃ p cap, ∃ xs : List (Int × Int), v = .slice p xs.length cap ∧ RdS W p xs ∧ xs.length ≤ maxLen := by
  rcases Deep.open_slice Tryz.underlying48 h with ⟨hcs, _⟩ | ⟨a, l, c, m, n, D, Pl, hcs, _, hl, hm, hmm, _, hx⟩
  · exact ⟨none, 0, [], by simpa using hcs, .inl rfl, by simp⟩
  · obtain rfl : v = .slice (some a) l c := by simpa using hcs
    simp only [if_true] at hmm; subst hmm; rw [tc_span] at hx
    have each : ∀ i, i < l → ∃ g : Int × Int, W.cell? (a.add (i * 2)) = some (.int .i64 g.1) ∧ W.cell? ((a.add (i * 2)).add 1) = some (.int .i64 g.2) := by
      intro i hi; obtain ⟨cs', h1, h2⟩ := hx i (by omega); obtain ⟨_, hlen, hcell⟩ := World.cells?_some h1; obtain ⟨y0, y1, k, _, _, t0, t1⟩ := trod_struct2 Tryz.underlying61 h2
      match cs', hlen with
      | [c0, c1], _ =>
        simp only [tc_int] at t0 t1; obtain ⟨x0, rfl, _⟩ := int_ofT (v := c0) t0; obtain ⟨x1, rfl, _⟩ := int_ofT (v := c1) t1; refine ⟨(x0, x1), ?_, ?_⟩
        · have := hcell 0 (by omega)
          simpa [Addr.add] using this
        · exact hcell 1 (by omega)
    obtain ⟨gs, h1, h2⟩ := list_of (0, 0) (fun i g => W.cell? (a.add (i * 2)) = some (.int .i64 g.1) ∧ W.cell? ((a.add (i * 2)).add 1) = some (.int .i64 g.2)) l each; refine ⟨some a, _, gs, by rw [h1], ?_, by omega⟩
    rcases Nat.eq_zero_or_pos l with h0 | h0
    · left; exact List.length_eq_zero_iff.1 (by omega)
    · obtain ⟨b, off, spot⟩ := a
      have hc := (h2 0 h0).1; have hspot : spot = none := by simpa [Addr.add] using World.cell?_spot hc
      subst hspot; refine .inr ⟨b, off, rfl, fun i hi => ?_⟩; have := h2 i (by omega); rw [add_plainT, add_plainT] at this; exact this
set_option maxRecDepth 100000 in
theorem op_spans {base : Nat} {v : Value} {d : DataW H} {ps : List MemPlace} (hv : Value.okWide Tryz.prog W .any base 48 v) (h : DataW.Trod enc Tryz.prog W 0 (fun _ => true) true 48 v d ps) :
    ∃ p cap, ∃ xs : List (Int × Int), v = .slice p xs.length cap ∧ RdS W p xs := by
  obtain ⟨a0, len, cap, rfl⟩ := okWide_slice Tryz.underlying48 hv; obtain ⟨fuel, hf⟩ := h; simp [Value.cells] at hf; obtain ⟨p, c, xs, hcs, hr, hl⟩ := rd_spansT hf; exact ⟨p, c, xs, hcs, hr⟩
set_option maxRecDepth 100000 in
theorem rd_links {fuel : Nat} {v : Value} {x : DataW H × List MemPlace} (h : DataW.trod enc Tryz.prog W 0 (fun _ => true) true fuel 45 [v] = some x) :
    ∃ p cap, ∃ xs : List (Int × Int × Int), v = .slice p xs.length cap ∧ RdLk W p xs ∧ xs.length ≤ cap := by
  rcases Deep.open_slice Tryz.underlying45 h with ⟨hcs, _⟩ | ⟨a, l, c, m, n, D, Pl, hcs, _, hl, hm, hmm, _, hx⟩
  · exact ⟨none, 0, [], by simpa using hcs, .inl rfl, by simp⟩
  · obtain rfl : v = .slice (some a) l c := by simpa using hcs
    simp only [if_true] at hmm; subst hmm; rw [tc_link] at hx
    have each : ∀ i, i < l → ∃ g : Int × Int × Int, W.cell? (a.add (i * 3)) = some (.int .i64 g.1) ∧ W.cell? ((a.add (i * 3)).add 1) = some (.int .i64 g.2.1) ∧ W.cell? ((a.add (i * 3)).add 2) = some (.int .i64 g.2.2) := by
      intro i hi; obtain ⟨cs', h1, h2⟩ := hx i (by omega); obtain ⟨_, hlen, hcell⟩ := World.cells?_some h1; obtain ⟨y0, y1, k, _, _, t0, t1⟩ := trod_struct2 Tryz.underlying130 h2
      match cs', hlen with
      | [c0, c1, c2], _ =>
        simp only [tc_int, show Tryz.prog.cellsOf 99 = 2 by kernel_rfl] at t0 t1; obtain ⟨x0, rfl, _⟩ := int_ofT (v := c0) t0; obtain ⟨y2, y3, k2, _, _, t2, t3⟩ := trod_struct2 Tryz.underlying99 t1; simp only [tc_int] at t2 t3; obtain ⟨x1, rfl, _⟩ := int_ofT (v := c1) t2; obtain ⟨x2, rfl, _⟩ := int_ofT (v := c2) t3; refine ⟨(x0, x1, x2), ?_, ?_, ?_⟩
        · have := hcell 0 (by omega)
          simpa [Addr.add] using this
        · exact hcell 1 (by omega)
        · exact hcell 2 (by omega)
    obtain ⟨gs, h1, h2⟩ := list_of (0, 0, 0) (fun i g => W.cell? (a.add (i * 3)) = some (.int .i64 g.1) ∧ W.cell? ((a.add (i * 3)).add 1) = some (.int .i64 g.2.1) ∧ W.cell? ((a.add (i * 3)).add 2) = some (.int .i64 g.2.2)) l each; refine ⟨some a, _, gs, by rw [h1], ?_, by omega⟩
    rcases Nat.eq_zero_or_pos l with h0 | h0
    · left; exact List.length_eq_zero_iff.1 (by omega)
    · obtain ⟨b, off, spot⟩ := a
      have hc := (h2 0 h0).1; have hspot : spot = none := by simpa [Addr.add] using World.cell?_spot hc
      subst hspot; refine .inr ⟨b, off, rfl, fun i hi => ?_⟩; have := h2 i (by omega); rw [add_plainT, add_plainT, add_plainT] at this; exact this
set_option maxRecDepth 100000 in
theorem op_shop {base : Nat} {v : Value} {d : DataW H} {ps : List MemPlace} (hv : Value.okWide Tryz.prog W .any base 47 v) (h : DataW.Trod enc Tryz.prog W 0 (fun _ => true) true 47 v d ps) :
    ∃ (p q : Option Addr) (c c' : Nat) (ls : List (Int × Int × Int)) (sp : List Int), v = .agg #[.slice p ls.length c, .slice q sp.length c'] ∧ RdLk W p ls ∧ RdI W q sp ∧ ls.length ≤ c := by
  obtain ⟨v0, v1, y0, y1, n, rfl, _, _, h0, h1⟩ := Joins.open_agg2 Tryz.underlying47 (by kernel_rfl) tc_shop hv h; obtain ⟨p, c, ls, rfl, r0, hc⟩ := rd_links h0; obtain ⟨q, c', sp, e1, r1, _⟩ := rd_ints h1; obtain rfl : v1 = .slice q sp.length c' := by simpa using e1
  exact ⟨p, q, c, c', ls, sp, rfl, r0, r1, hc⟩
theorem trod_lt {t : TypeId} {v : Value} {d : DataW H} {ps : List MemPlace} (h : DataW.Trod enc Tryz.prog W 0 (fun _ => true) true t v d ps) : ∀ x ∈ ps, x.block < W.heap.size := by
  obtain ⟨m, hm⟩ := h; exact DataW.trod_lt m _ _ _ hm
end
end Go.Proofs.YtchclaipbahiiaaGreat
end

section
namespace Go.Proofs.YtchclaipbahiiaaGreat
open Go Go.RowKit Go.Proofs
set_option linter.unusedVariables false
set_option linter.unusedSimpArgs false
attribute [local go_sem] imax2 imin2
theorem h_pair (a b : Int) (w : World) (h1 : 4 ≤ a ∧ a ≤ 60) (h2 : 4 ≤ b ∧ b ≤ 60) : Calls Tryz.prog 95 #[.agg #[.int .i64 a, .int .i64 b]] w fun e w' => e = .returned (.bool true) ∧ Below w.heap.size w w' := by
  obtain ⟨w0, e0, HS0, k0, k1, b0⟩ := box2 w (.int .i64 a) (.int .i64 b) 99; have HB := Lib.hid b0; have g1 : inB a 4 60 = true := inB_iff.2 h1; have g2 : inB b 4 60 = true := inB_iff.2 h2; clear b0 h1 h2
  go_enter Tryz.func95, Tryz.ntmps95
  go_wp2_with fail; refine (h_teeth _ _).mono ?_; rw [g1]; rintro e w' ⟨rfl, rfl⟩; go_wp2_with fail; refine (h_teeth _ _).mono ?_; rw [g2]; rintro e w' ⟨rfl, rfl⟩; go_wp2; go_ret; exact ⟨rfl, HB.out⟩
theorem t_isTrain (p : Option Addr) (c : Nat) (xs : List (Int × Int)) (w : World) (hx : RdS w p xs) (hl : 1 ≤ xs.length ∧ xs.length ≤ 3) (hok : xs.all pairB = true) :
    Calls Tryz.prog 99 #[.slice p xs.length c] w fun e w' => e = .returned (.bool true) ∧ Below w.heap.size w w' := by
  have hcf := cf_pair p c xs w hx (by omega); rw [hok] at hcf; have g1 : inB (xs.length : Int) 1 3 = true := inB_iff.2 ⟨by omega, by omega⟩; clear hx hl
  go_enter Tryz.func99, Tryz.ntmps99
  go_wp2_with fail; refine (t_in _ _ _ _).mono ?_; rw [g1]; rintro e w' ⟨rfl, rfl⟩; go_wp2_with fail; refine hcf.mono ?_; rintro e w1 ⟨rfl, b1⟩; have HB := Lib.hid b1; clear b1 hcf; go_wp2; go_ret; exact ⟨rfl, HB.out⟩
theorem h_spotNot (x : Int) (bP n : Nat) (q : Option Addr) (c : Nat) (w : World) (h : w.cell? ⟨bP, 0, none⟩ = some (.slice q n c)) : Calls Tryz.prog 97 #[.int .i64 x, .pointer (some ⟨bP, 0, none⟩)] w fun e w' => e = .returned (.bool (!inB x 1 n)) ∧ Below w.heap.size w w' := by
  go_enter Tryz.func97, Tryz.ntmps97
  go_wp2_with fail; refine (h_in _ _ _ _).mono ?_; rintro e w' ⟨rfl, rfl⟩; go_wp2; go_ret; exact ⟨rfl, Below.refl _ _⟩
set_option maxHeartbeats 400000 in
set_option maxRecDepth 100000 in
theorem h_ixSpot (p : Option Addr) (cap : Nat) (xs : List Int) (bP n : Nat) (q : Option Addr) (c : Nat) (w : World) (hx : RdI w p xs) (hl : xs.length ≤ 1000000) (kP : w.cell? ⟨bP, 0, none⟩ = some (.slice q n c)) :
    Calls Tryz.prog 89 #[.slice p xs.length cap, .func (.func 97) #[] #[.pointer (some ⟨bP, 0, none⟩)]] w (BadPost xs.length (fun j => (fun x => inB x 1 n) (gi xs j)) w) := by
  have HX := Lib.hid hx; have HKP := Lib.hid kP; clear hx kP
  go_enter Tryz.func89, Tryz.ntmps89
  go_wp2
  go_loopw [8] (fun i wr => ∃ k : Nat, k ≤ xs.length ∧ i = .int .i64 k ∧ Hid (∀ j, j < k → (fun x => inB x 1 n) (gi xs j) = true) ∧ Below w.heap.size w wr) (fun i _ => xs.length - (intOf i).toNat)
  case atStart => exact ⟨0, by omega, rfl, Lib.hid (by intro j hj; omega), Below.refl _ _⟩
  case round =>
    obtain ⟨k, hk, rfl, HH, hnx⟩ := hrel; have HN := Lib.hid hnx
    by_cases hlt : k < xs.length
    · obtain ⟨b, off, rfl, hc⟩ := (HX.out.below hnx).at hlt
      obtain e1 := hc k hlt; have hcl : Calls Tryz.prog 97 #[.int .i64 (gi xs k), .pointer (some ⟨bP, 0, none⟩)] wr fun e w' => e = .returned (.bool (!(fun x => inB x 1 n) (gi xs k))) ∧ Below wr.heap.size wr w' := h_spotNot (gi xs k) bP n q c wr ((hnx.cell (lt_of_cellq HKP.out)).trans HKP.out)
      clear hc hnx
      rcases hb : (fun x => inB x 1 n) (gi xs k) with _ | _
      · have HB := Lib.hid hb
        rw [hb] at hcl; clear hb; go_wp2_with fail; refine hcl.mono ?_; rintro e w4 ⟨rfl, b4⟩; have HN2 := Lib.hid (HN.out.trans (b4.mono HN.out.size)); clear hcl b4; go_wp2; go_ret; exact ⟨k, .inr ⟨by omega, k, hlt, HB.out⟩, rfl, HN2.out⟩
      · have HB := Lib.hid hb
        rw [hb] at hcl; clear hb; go_wp2_with fail; refine hcl.mono ?_; rintro e w4 ⟨rfl, b4⟩; have HN2 := Lib.hid (HN.out.trans (b4.mono HN.out.size)); clear hcl b4; go_wp2; go_roundw
        case rel =>
          refine ⟨k + 1, by omega, by go_num, Lib.hid fun j hj => ?_, HN2.out⟩
          rcases Nat.lt_or_ge j k with h | h
          · exact HH.out j h
          · obtain rfl : j = k := by omega
            exact HB.out
        case measure => simp [intOf]; omega
    · obtain rfl : k = xs.length := by omega
      go_wp2; go_ret; exact ⟨-1, .inl ⟨rfl, HH.out⟩, rfl, HN.out⟩
set_option maxRecDepth 100000 in
theorem h_cfSpot (p : Option Addr) (cap : Nat) (xs : List Int) (bP n : Nat) (q : Option Addr) (c : Nat) (w : World) (hx : RdI w p xs) (hl : xs.length ≤ 1000000) (kP : w.cell? ⟨bP, 0, none⟩ = some (.slice q n c)) :
    Calls Tryz.prog 42 #[.slice p xs.length cap, .func (.func 97) #[] #[.pointer (some ⟨bP, 0, none⟩)]] w fun e w' => e = .returned (.bool (!xs.all (fun x => inB x 1 n))) ∧ Below w.heap.size w w' := by
  have h := h_ixSpot p cap xs bP n q c w hx hl kP; clear hx kP
  go_enter Tryz.func42, Tryz.ntmps42
  go_wp2_with fail; refine h.mono ?_; rintro e w' ⟨r, hr, rfl, hb⟩; have HB := Lib.hid hb; clear h hb
  rcases hr with ⟨rfl, hh⟩ | ⟨h0, j, hj, hb⟩
  · have HG := Lib.hid (all_ok (f := (fun x => inB x 1 n)) (d := 0) (l := xs) hh)
    clear hh; go_wp2; go_ret; exact ⟨by rw [HG.out]; rfl, HB.out⟩
  · have HG := Lib.hid (all_bad (f := (fun x => inB x 1 n)) (d := 0) (l := xs) hj hb)
    clear hb; go_wp2; go_ret; exact ⟨by rw [HG.out]; simp, HB.out⟩
def LkOk (ls : List (Int × Int × Int)) : Prop := ls.length ≤ 5 ∧ ∀ i : Nat, i < ls.length → 0 ≤ (gk ls i).1 ∧ (gk ls i).1 ≤ i
def pathF (ls : List (Int × Int × Int)) : Nat → Nat → List Nat
  | 0, _ => []
  | _, 0 => []
  | d + 1, a + 1 => pathF ls d (gk ls a).1.toNat ++ [a]
theorem pathF_at (ls : List (Int × Int × Int)) (d : Nat) : pathF ls d 0 = [] := by cases d <;> rfl
theorem pathF_succ (ls : List (Int × Int × Int)) (d a : Nat) : pathF ls (d + 1) (a + 1) = pathF ls d (gk ls a).1.toNat ++ [a] := rfl
theorem pathF_in {ls : List (Int × Int × Int)} (h : LkOk ls) : ∀ (d a : Nat), a ≤ ls.length → ∀ x ∈ pathF ls d a, x < ls.length := by
  intro d
  induction d with
  | zero => intro a _ x hx; simp [pathF] at hx
  | succ d ih =>
    intro a ha x hx
    cases a with
    | zero => simp [pathF] at hx
    | succ a =>
      rw [pathF_succ, List.mem_append] at hx
      rcases hx with hx | hx
      · have := h.2 a (by omega)
        exact ih _ (by omega) x hx
      · simp only [List.mem_singleton] at hx; omega
theorem pathF_len {ls : List (Int × Int × Int)} : ∀ (d a : Nat), (pathF ls d a).length ≤ d := by
  intro d
  induction d with
  | zero => intro a; simp [pathF]
  | succ d ih =>
    intro a
    cases a with
    | zero => simp [pathF]
    | succ a => rw [pathF_succ, List.length_append]; have := ih (gk ls a).1.toNat; simp; omega
theorem h_path (p : Option Addr) (n c : Nat) (a : Int) (w : World) :
    Calls Tryz.prog 98 #[.slice p n c, .int .i64 a] w fun e w' => e = .returned (.func (.func 135) #[] #[.pointer (some ⟨w.heap.size, 0, none⟩), .pointer (some ⟨w.heap.size + 1, 0, none⟩)]) ∧
      (w.alloc (.cells #[.slice p n c] 45)).alloc (.cells #[.int .i64 a] 3) = w' := by
  go_enter Tryz.func98, Tryz.ntmps98
  go_wp2; go_ret; exact ⟨rfl, rfl⟩
end Go.Proofs.YtchclaipbahiiaaGreat
end

section
namespace Go.Proofs.YtchclaipbahiiaaGreat
open Go Go.RowKit Go.Proofs
set_option linter.unusedVariables false
theorem bx6 (w : World) (a0 a1 a2 a3 a4 a5 : Value) (t : TypeId) : ∃ w0, w.alloc (.cells #[a0, a1, a2, a3, a4, a5] t) = w0 ∧ Hid (w0.heap.size = w.heap.size + 1) ∧ w0.heap[w.heap.size]? = some (.cells #[a0, a1, a2, a3, a4, a5] t (0, 0)) ∧ Below w.heap.size w w0 :=
  ⟨_, rfl, Lib.hid (by simp), alloc_new _ _, below_alloc1 _ _⟩
theorem cells6 {w : World} {B : Nat} {t : TypeId} {a0 a1 a2 a3 a4 a5 : Value} (h : w.heap[B]? = some (.cells #[a0, a1, a2, a3, a4, a5] t)) : w.cell? ⟨B, 0, none⟩ = some a0 ∧ w.cell? ⟨B, 1, none⟩ = some a1 ∧ w.cell? ⟨B, 2, none⟩ = some a2 ∧ w.cell? ⟨B, 3, none⟩ = some a3 ∧ w.cell? ⟨B, 4, none⟩ = some a4 ∧ w.cell? ⟨B, 5, none⟩ = some a5 := by
  refine ⟨?_, ?_, ?_, ?_, ?_, ?_⟩ <;> (rw [cell_of_row _ _ _ _ _ _ h]; rfl)
theorem put6_0 (w : World) (B : Nat) (t : TypeId) (a0 a1 a2 a3 a4 a5 x : Value) (h : w.heap[B]? = some (.cells #[a0, a1, a2, a3, a4, a5] t)) : ∃ w1, w.setCell ⟨B, 0, none⟩ x = w1 ∧ w.cell? ⟨B, 0, none⟩ = some a0 ∧ w.frozen? ⟨B, 0, none⟩ = false ∧
    w1.heap[B]? = some (.cells #[x, a1, a2, a3, a4, a5] t) ∧ (∀ k, k ≠ B → w1.heap[k]? = w.heap[k]?) ∧ Hid (w1.heap.size = w.heap.size) ∧ ∀ W n0, n0 ≤ B → Below n0 W w → Below n0 W w1 :=
  ⟨_, rfl, by rw [cell_of_row _ _ _ _ _ _ h]; rfl, frozen_of_row _ _ _ _ _ h, by rw [heap_setCell_same w B 0 _ t x h]; rfl, fun k hk => Below.heap_setCell _ _ _ k hk, Lib.hid (by simp), fun W n0 hn hb => hb.setCell hn _⟩
theorem put6_1 (w : World) (B : Nat) (t : TypeId) (a0 a1 a2 a3 a4 a5 x : Value) (h : w.heap[B]? = some (.cells #[a0, a1, a2, a3, a4, a5] t)) : ∃ w1, w.setCell ⟨B, 1, none⟩ x = w1 ∧ w.cell? ⟨B, 1, none⟩ = some a1 ∧ w.frozen? ⟨B, 1, none⟩ = false ∧
    w1.heap[B]? = some (.cells #[a0, x, a2, a3, a4, a5] t) ∧ (∀ k, k ≠ B → w1.heap[k]? = w.heap[k]?) ∧ Hid (w1.heap.size = w.heap.size) ∧ ∀ W n0, n0 ≤ B → Below n0 W w → Below n0 W w1 :=
  ⟨_, rfl, by rw [cell_of_row _ _ _ _ _ _ h]; rfl, frozen_of_row _ _ _ _ _ h, by rw [heap_setCell_same w B 1 _ t x h]; rfl, fun k hk => Below.heap_setCell _ _ _ k hk, Lib.hid (by simp), fun W n0 hn hb => hb.setCell hn _⟩
theorem put6_2 (w : World) (B : Nat) (t : TypeId) (a0 a1 a2 a3 a4 a5 x : Value) (h : w.heap[B]? = some (.cells #[a0, a1, a2, a3, a4, a5] t)) : ∃ w1, w.setCell ⟨B, 2, none⟩ x = w1 ∧ w.cell? ⟨B, 2, none⟩ = some a2 ∧ w.frozen? ⟨B, 2, none⟩ = false ∧
    w1.heap[B]? = some (.cells #[a0, a1, x, a3, a4, a5] t) ∧ (∀ k, k ≠ B → w1.heap[k]? = w.heap[k]?) ∧ Hid (w1.heap.size = w.heap.size) ∧ ∀ W n0, n0 ≤ B → Below n0 W w → Below n0 W w1 :=
  ⟨_, rfl, by rw [cell_of_row _ _ _ _ _ _ h]; rfl, frozen_of_row _ _ _ _ _ h, by rw [heap_setCell_same w B 2 _ t x h]; rfl, fun k hk => Below.heap_setCell _ _ _ k hk, Lib.hid (by simp), fun W n0 hn hb => hb.setCell hn _⟩
theorem put6_3 (w : World) (B : Nat) (t : TypeId) (a0 a1 a2 a3 a4 a5 x : Value) (h : w.heap[B]? = some (.cells #[a0, a1, a2, a3, a4, a5] t)) : ∃ w1, w.setCell ⟨B, 3, none⟩ x = w1 ∧ w.cell? ⟨B, 3, none⟩ = some a3 ∧ w.frozen? ⟨B, 3, none⟩ = false ∧
    w1.heap[B]? = some (.cells #[a0, a1, a2, x, a4, a5] t) ∧ (∀ k, k ≠ B → w1.heap[k]? = w.heap[k]?) ∧ Hid (w1.heap.size = w.heap.size) ∧ ∀ W n0, n0 ≤ B → Below n0 W w → Below n0 W w1 :=
  ⟨_, rfl, by rw [cell_of_row _ _ _ _ _ _ h]; rfl, frozen_of_row _ _ _ _ _ h, by rw [heap_setCell_same w B 3 _ t x h]; rfl, fun k hk => Below.heap_setCell _ _ _ k hk, Lib.hid (by simp), fun W n0 hn hb => hb.setCell hn _⟩
theorem put6_4 (w : World) (B : Nat) (t : TypeId) (a0 a1 a2 a3 a4 a5 x : Value) (h : w.heap[B]? = some (.cells #[a0, a1, a2, a3, a4, a5] t)) : ∃ w1, w.setCell ⟨B, 4, none⟩ x = w1 ∧ w.cell? ⟨B, 4, none⟩ = some a4 ∧ w.frozen? ⟨B, 4, none⟩ = false ∧
    w1.heap[B]? = some (.cells #[a0, a1, a2, a3, x, a5] t) ∧ (∀ k, k ≠ B → w1.heap[k]? = w.heap[k]?) ∧ Hid (w1.heap.size = w.heap.size) ∧ ∀ W n0, n0 ≤ B → Below n0 W w → Below n0 W w1 :=
  ⟨_, rfl, by rw [cell_of_row _ _ _ _ _ _ h]; rfl, frozen_of_row _ _ _ _ _ h, by rw [heap_setCell_same w B 4 _ t x h]; rfl, fun k hk => Below.heap_setCell _ _ _ k hk, Lib.hid (by simp), fun W n0 hn hb => hb.setCell hn _⟩
theorem put6_5 (w : World) (B : Nat) (t : TypeId) (a0 a1 a2 a3 a4 a5 x : Value) (h : w.heap[B]? = some (.cells #[a0, a1, a2, a3, a4, a5] t)) : ∃ w1, w.setCell ⟨B, 5, none⟩ x = w1 ∧ w.cell? ⟨B, 5, none⟩ = some a5 ∧ w.frozen? ⟨B, 5, none⟩ = false ∧
    w1.heap[B]? = some (.cells #[a0, a1, a2, a3, a4, x] t) ∧ (∀ k, k ≠ B → w1.heap[k]? = w.heap[k]?) ∧ Hid (w1.heap.size = w.heap.size) ∧ ∀ W n0, n0 ≤ B → Below n0 W w → Below n0 W w1 :=
  ⟨_, rfl, by rw [cell_of_row _ _ _ _ _ _ h]; rfl, frozen_of_row _ _ _ _ _ h, by rw [heap_setCell_same w B 5 _ t x h]; rfl, fun k hk => Below.heap_setCell _ _ _ k hk, Lib.hid (by simp), fun W n0 hn hb => hb.setCell hn _⟩
theorem set6 (w : World) (B : Nat) (t : TypeId) (a0 a1 a2 a3 a4 a5 x0 x1 x2 x3 x4 x5 : Value) (h : w.heap[B]? = some (.cells #[a0, a1, a2, a3, a4, a5] t)) :
    ∃ w1 w2 w3 w4 w5 w6, w.setCell ⟨B, 0, none⟩ x0 = w1 ∧ w1.setCell ⟨B, 1, none⟩ x1 = w2 ∧ w2.setCell ⟨B, 2, none⟩ x2 = w3 ∧ w3.setCell ⟨B, 3, none⟩ x3 = w4 ∧ w4.setCell ⟨B, 4, none⟩ x4 = w5 ∧ w5.setCell ⟨B, 5, none⟩ x5 = w6 ∧
      (w.cell? ⟨B, 0, none⟩ = some a0 ∧ w.frozen? ⟨B, 0, none⟩ = false) ∧ (w1.cell? ⟨B, 1, none⟩ = some a1 ∧ w1.frozen? ⟨B, 1, none⟩ = false) ∧ (w2.cell? ⟨B, 2, none⟩ = some a2 ∧ w2.frozen? ⟨B, 2, none⟩ = false) ∧ (w3.cell? ⟨B, 3, none⟩ = some a3 ∧ w3.frozen? ⟨B, 3, none⟩ = false) ∧ (w4.cell? ⟨B, 4, none⟩ = some a4 ∧ w4.frozen? ⟨B, 4, none⟩ = false) ∧ (w5.cell? ⟨B, 5, none⟩ = some a5 ∧ w5.frozen? ⟨B, 5, none⟩ = false) ∧
      w6.heap[B]? = some (.cells #[x0, x1, x2, x3, x4, x5] t) ∧ (∀ k, k ≠ B → w6.heap[k]? = w.heap[k]?) ∧ Hid (w6.heap.size = w.heap.size) ∧ ∀ W n0, n0 ≤ B → Below n0 W w → Below n0 W w6 := by
  obtain ⟨w1, s0, c0, f0, h0, k0, z0, b0⟩ := put6_0 w B t a0 a1 a2 a3 a4 a5 x0 h; obtain ⟨w2, s1, c1, f1, h1, k1, z1, b1⟩ := put6_1 w1 B t x0 a1 a2 a3 a4 a5 x1 h0; obtain ⟨w3, s2, c2, f2, h2, k2, z2, b2⟩ := put6_2 w2 B t x0 x1 a2 a3 a4 a5 x2 h1; obtain ⟨w4, s3, c3, f3, h3, k3, z3, b3⟩ := put6_3 w3 B t x0 x1 x2 a3 a4 a5 x3 h2; obtain ⟨w5, s4, c4, f4, h4, k4, z4, b4⟩ := put6_4 w4 B t x0 x1 x2 x3 a4 a5 x4 h3; obtain ⟨w6, s5, c5, f5, h5, k5, z5, b5⟩ := put6_5 w5 B t x0 x1 x2 x3 x4 a5 x5 h4; exact ⟨w1, w2, w3, w4, w5, w6, s0, s1, s2, s3, s4, s5, ⟨c0, f0⟩, ⟨c1, f1⟩, ⟨c2, f2⟩, ⟨c3, f3⟩, ⟨c4, f4⟩, ⟨c5, f5⟩, h5, fun k hk => (k5 k hk) |>.trans (k4 k hk) |>.trans (k3 k hk) |>.trans (k2 k hk) |>.trans (k1 k hk) |>.trans (k0 k hk), Lib.hid (by rw [z5.out, z4.out, z3.out, z2.out, z1.out, z0.out]), fun W n0 hn hb => b5 W n0 hn (b4 W n0 hn (b3 W n0 hn (b2 W n0 hn (b1 W n0 hn (b0 W n0 hn (hb))))))⟩
theorem bx8 (w : World) (a0 a1 a2 a3 a4 a5 a6 a7 : Value) (t : TypeId) : ∃ w0, w.alloc (.cells #[a0, a1, a2, a3, a4, a5, a6, a7] t) = w0 ∧ Hid (w0.heap.size = w.heap.size + 1) ∧ w0.heap[w.heap.size]? = some (.cells #[a0, a1, a2, a3, a4, a5, a6, a7] t (0, 0)) ∧ Below w.heap.size w w0 :=
  ⟨_, rfl, Lib.hid (by simp), alloc_new _ _, below_alloc1 _ _⟩
theorem cells8 {w : World} {B : Nat} {t : TypeId} {a0 a1 a2 a3 a4 a5 a6 a7 : Value} (h : w.heap[B]? = some (.cells #[a0, a1, a2, a3, a4, a5, a6, a7] t)) : w.cell? ⟨B, 0, none⟩ = some a0 ∧ w.cell? ⟨B, 1, none⟩ = some a1 ∧ w.cell? ⟨B, 2, none⟩ = some a2 ∧ w.cell? ⟨B, 3, none⟩ = some a3 ∧ w.cell? ⟨B, 4, none⟩ = some a4 ∧ w.cell? ⟨B, 5, none⟩ = some a5 ∧ w.cell? ⟨B, 6, none⟩ = some a6 ∧ w.cell? ⟨B, 7, none⟩ = some a7 := by
  refine ⟨?_, ?_, ?_, ?_, ?_, ?_, ?_, ?_⟩ <;> (rw [cell_of_row _ _ _ _ _ _ h]; rfl)
theorem put8_0 (w : World) (B : Nat) (t : TypeId) (a0 a1 a2 a3 a4 a5 a6 a7 x : Value) (h : w.heap[B]? = some (.cells #[a0, a1, a2, a3, a4, a5, a6, a7] t)) : ∃ w1, w.setCell ⟨B, 0, none⟩ x = w1 ∧ w.cell? ⟨B, 0, none⟩ = some a0 ∧ w.frozen? ⟨B, 0, none⟩ = false ∧
    w1.heap[B]? = some (.cells #[x, a1, a2, a3, a4, a5, a6, a7] t) ∧ (∀ k, k ≠ B → w1.heap[k]? = w.heap[k]?) ∧ Hid (w1.heap.size = w.heap.size) ∧ ∀ W n0, n0 ≤ B → Below n0 W w → Below n0 W w1 :=
  ⟨_, rfl, by rw [cell_of_row _ _ _ _ _ _ h]; rfl, frozen_of_row _ _ _ _ _ h, by rw [heap_setCell_same w B 0 _ t x h]; rfl, fun k hk => Below.heap_setCell _ _ _ k hk, Lib.hid (by simp), fun W n0 hn hb => hb.setCell hn _⟩
theorem put8_1 (w : World) (B : Nat) (t : TypeId) (a0 a1 a2 a3 a4 a5 a6 a7 x : Value) (h : w.heap[B]? = some (.cells #[a0, a1, a2, a3, a4, a5, a6, a7] t)) : ∃ w1, w.setCell ⟨B, 1, none⟩ x = w1 ∧ w.cell? ⟨B, 1, none⟩ = some a1 ∧ w.frozen? ⟨B, 1, none⟩ = false ∧
    w1.heap[B]? = some (.cells #[a0, x, a2, a3, a4, a5, a6, a7] t) ∧ (∀ k, k ≠ B → w1.heap[k]? = w.heap[k]?) ∧ Hid (w1.heap.size = w.heap.size) ∧ ∀ W n0, n0 ≤ B → Below n0 W w → Below n0 W w1 :=
  ⟨_, rfl, by rw [cell_of_row _ _ _ _ _ _ h]; rfl, frozen_of_row _ _ _ _ _ h, by rw [heap_setCell_same w B 1 _ t x h]; rfl, fun k hk => Below.heap_setCell _ _ _ k hk, Lib.hid (by simp), fun W n0 hn hb => hb.setCell hn _⟩
theorem put8_2 (w : World) (B : Nat) (t : TypeId) (a0 a1 a2 a3 a4 a5 a6 a7 x : Value) (h : w.heap[B]? = some (.cells #[a0, a1, a2, a3, a4, a5, a6, a7] t)) : ∃ w1, w.setCell ⟨B, 2, none⟩ x = w1 ∧ w.cell? ⟨B, 2, none⟩ = some a2 ∧ w.frozen? ⟨B, 2, none⟩ = false ∧
    w1.heap[B]? = some (.cells #[a0, a1, x, a3, a4, a5, a6, a7] t) ∧ (∀ k, k ≠ B → w1.heap[k]? = w.heap[k]?) ∧ Hid (w1.heap.size = w.heap.size) ∧ ∀ W n0, n0 ≤ B → Below n0 W w → Below n0 W w1 :=
  ⟨_, rfl, by rw [cell_of_row _ _ _ _ _ _ h]; rfl, frozen_of_row _ _ _ _ _ h, by rw [heap_setCell_same w B 2 _ t x h]; rfl, fun k hk => Below.heap_setCell _ _ _ k hk, Lib.hid (by simp), fun W n0 hn hb => hb.setCell hn _⟩
theorem put8_3 (w : World) (B : Nat) (t : TypeId) (a0 a1 a2 a3 a4 a5 a6 a7 x : Value) (h : w.heap[B]? = some (.cells #[a0, a1, a2, a3, a4, a5, a6, a7] t)) : ∃ w1, w.setCell ⟨B, 3, none⟩ x = w1 ∧ w.cell? ⟨B, 3, none⟩ = some a3 ∧ w.frozen? ⟨B, 3, none⟩ = false ∧
    w1.heap[B]? = some (.cells #[a0, a1, a2, x, a4, a5, a6, a7] t) ∧ (∀ k, k ≠ B → w1.heap[k]? = w.heap[k]?) ∧ Hid (w1.heap.size = w.heap.size) ∧ ∀ W n0, n0 ≤ B → Below n0 W w → Below n0 W w1 :=
  ⟨_, rfl, by rw [cell_of_row _ _ _ _ _ _ h]; rfl, frozen_of_row _ _ _ _ _ h, by rw [heap_setCell_same w B 3 _ t x h]; rfl, fun k hk => Below.heap_setCell _ _ _ k hk, Lib.hid (by simp), fun W n0 hn hb => hb.setCell hn _⟩
theorem put8_4 (w : World) (B : Nat) (t : TypeId) (a0 a1 a2 a3 a4 a5 a6 a7 x : Value) (h : w.heap[B]? = some (.cells #[a0, a1, a2, a3, a4, a5, a6, a7] t)) : ∃ w1, w.setCell ⟨B, 4, none⟩ x = w1 ∧ w.cell? ⟨B, 4, none⟩ = some a4 ∧ w.frozen? ⟨B, 4, none⟩ = false ∧
    w1.heap[B]? = some (.cells #[a0, a1, a2, a3, x, a5, a6, a7] t) ∧ (∀ k, k ≠ B → w1.heap[k]? = w.heap[k]?) ∧ Hid (w1.heap.size = w.heap.size) ∧ ∀ W n0, n0 ≤ B → Below n0 W w → Below n0 W w1 :=
  ⟨_, rfl, by rw [cell_of_row _ _ _ _ _ _ h]; rfl, frozen_of_row _ _ _ _ _ h, by rw [heap_setCell_same w B 4 _ t x h]; rfl, fun k hk => Below.heap_setCell _ _ _ k hk, Lib.hid (by simp), fun W n0 hn hb => hb.setCell hn _⟩
theorem put8_5 (w : World) (B : Nat) (t : TypeId) (a0 a1 a2 a3 a4 a5 a6 a7 x : Value) (h : w.heap[B]? = some (.cells #[a0, a1, a2, a3, a4, a5, a6, a7] t)) : ∃ w1, w.setCell ⟨B, 5, none⟩ x = w1 ∧ w.cell? ⟨B, 5, none⟩ = some a5 ∧ w.frozen? ⟨B, 5, none⟩ = false ∧
    w1.heap[B]? = some (.cells #[a0, a1, a2, a3, a4, x, a6, a7] t) ∧ (∀ k, k ≠ B → w1.heap[k]? = w.heap[k]?) ∧ Hid (w1.heap.size = w.heap.size) ∧ ∀ W n0, n0 ≤ B → Below n0 W w → Below n0 W w1 :=
  ⟨_, rfl, by rw [cell_of_row _ _ _ _ _ _ h]; rfl, frozen_of_row _ _ _ _ _ h, by rw [heap_setCell_same w B 5 _ t x h]; rfl, fun k hk => Below.heap_setCell _ _ _ k hk, Lib.hid (by simp), fun W n0 hn hb => hb.setCell hn _⟩
theorem put8_6 (w : World) (B : Nat) (t : TypeId) (a0 a1 a2 a3 a4 a5 a6 a7 x : Value) (h : w.heap[B]? = some (.cells #[a0, a1, a2, a3, a4, a5, a6, a7] t)) : ∃ w1, w.setCell ⟨B, 6, none⟩ x = w1 ∧ w.cell? ⟨B, 6, none⟩ = some a6 ∧ w.frozen? ⟨B, 6, none⟩ = false ∧
    w1.heap[B]? = some (.cells #[a0, a1, a2, a3, a4, a5, x, a7] t) ∧ (∀ k, k ≠ B → w1.heap[k]? = w.heap[k]?) ∧ Hid (w1.heap.size = w.heap.size) ∧ ∀ W n0, n0 ≤ B → Below n0 W w → Below n0 W w1 :=
  ⟨_, rfl, by rw [cell_of_row _ _ _ _ _ _ h]; rfl, frozen_of_row _ _ _ _ _ h, by rw [heap_setCell_same w B 6 _ t x h]; rfl, fun k hk => Below.heap_setCell _ _ _ k hk, Lib.hid (by simp), fun W n0 hn hb => hb.setCell hn _⟩
theorem put8_7 (w : World) (B : Nat) (t : TypeId) (a0 a1 a2 a3 a4 a5 a6 a7 x : Value) (h : w.heap[B]? = some (.cells #[a0, a1, a2, a3, a4, a5, a6, a7] t)) : ∃ w1, w.setCell ⟨B, 7, none⟩ x = w1 ∧ w.cell? ⟨B, 7, none⟩ = some a7 ∧ w.frozen? ⟨B, 7, none⟩ = false ∧
    w1.heap[B]? = some (.cells #[a0, a1, a2, a3, a4, a5, a6, x] t) ∧ (∀ k, k ≠ B → w1.heap[k]? = w.heap[k]?) ∧ Hid (w1.heap.size = w.heap.size) ∧ ∀ W n0, n0 ≤ B → Below n0 W w → Below n0 W w1 :=
  ⟨_, rfl, by rw [cell_of_row _ _ _ _ _ _ h]; rfl, frozen_of_row _ _ _ _ _ h, by rw [heap_setCell_same w B 7 _ t x h]; rfl, fun k hk => Below.heap_setCell _ _ _ k hk, Lib.hid (by simp), fun W n0 hn hb => hb.setCell hn _⟩
theorem set8 (w : World) (B : Nat) (t : TypeId) (a0 a1 a2 a3 a4 a5 a6 a7 x0 x1 x2 x3 x4 x5 x6 x7 : Value) (h : w.heap[B]? = some (.cells #[a0, a1, a2, a3, a4, a5, a6, a7] t)) :
    ∃ w1 w2 w3 w4 w5 w6 w7 w8, w.setCell ⟨B, 0, none⟩ x0 = w1 ∧ w1.setCell ⟨B, 1, none⟩ x1 = w2 ∧ w2.setCell ⟨B, 2, none⟩ x2 = w3 ∧ w3.setCell ⟨B, 3, none⟩ x3 = w4 ∧ w4.setCell ⟨B, 4, none⟩ x4 = w5 ∧ w5.setCell ⟨B, 5, none⟩ x5 = w6 ∧ w6.setCell ⟨B, 6, none⟩ x6 = w7 ∧ w7.setCell ⟨B, 7, none⟩ x7 = w8 ∧
      (w.cell? ⟨B, 0, none⟩ = some a0 ∧ w.frozen? ⟨B, 0, none⟩ = false) ∧ (w1.cell? ⟨B, 1, none⟩ = some a1 ∧ w1.frozen? ⟨B, 1, none⟩ = false) ∧ (w2.cell? ⟨B, 2, none⟩ = some a2 ∧ w2.frozen? ⟨B, 2, none⟩ = false) ∧ (w3.cell? ⟨B, 3, none⟩ = some a3 ∧ w3.frozen? ⟨B, 3, none⟩ = false) ∧ (w4.cell? ⟨B, 4, none⟩ = some a4 ∧ w4.frozen? ⟨B, 4, none⟩ = false) ∧ (w5.cell? ⟨B, 5, none⟩ = some a5 ∧ w5.frozen? ⟨B, 5, none⟩ = false) ∧ (w6.cell? ⟨B, 6, none⟩ = some a6 ∧ w6.frozen? ⟨B, 6, none⟩ = false) ∧ (w7.cell? ⟨B, 7, none⟩ = some a7 ∧ w7.frozen? ⟨B, 7, none⟩ = false) ∧
      w8.heap[B]? = some (.cells #[x0, x1, x2, x3, x4, x5, x6, x7] t) ∧ (∀ k, k ≠ B → w8.heap[k]? = w.heap[k]?) ∧ Hid (w8.heap.size = w.heap.size) ∧ ∀ W n0, n0 ≤ B → Below n0 W w → Below n0 W w8 := by
  obtain ⟨w1, s0, c0, f0, h0, k0, z0, b0⟩ := put8_0 w B t a0 a1 a2 a3 a4 a5 a6 a7 x0 h; obtain ⟨w2, s1, c1, f1, h1, k1, z1, b1⟩ := put8_1 w1 B t x0 a1 a2 a3 a4 a5 a6 a7 x1 h0; obtain ⟨w3, s2, c2, f2, h2, k2, z2, b2⟩ := put8_2 w2 B t x0 x1 a2 a3 a4 a5 a6 a7 x2 h1; obtain ⟨w4, s3, c3, f3, h3, k3, z3, b3⟩ := put8_3 w3 B t x0 x1 x2 a3 a4 a5 a6 a7 x3 h2; obtain ⟨w5, s4, c4, f4, h4, k4, z4, b4⟩ := put8_4 w4 B t x0 x1 x2 x3 a4 a5 a6 a7 x4 h3; obtain ⟨w6, s5, c5, f5, h5, k5, z5, b5⟩ := put8_5 w5 B t x0 x1 x2 x3 x4 a5 a6 a7 x5 h4; obtain ⟨w7, s6, c6, f6, h6, k6, z6, b6⟩ := put8_6 w6 B t x0 x1 x2 x3 x4 x5 a6 a7 x6 h5; obtain ⟨w8, s7, c7, f7, h7, k7, z7, b7⟩ := put8_7 w7 B t x0 x1 x2 x3 x4 x5 x6 a7 x7 h6; exact ⟨w1, w2, w3, w4, w5, w6, w7, w8, s0, s1, s2, s3, s4, s5, s6, s7, ⟨c0, f0⟩, ⟨c1, f1⟩, ⟨c2, f2⟩, ⟨c3, f3⟩, ⟨c4, f4⟩, ⟨c5, f5⟩, ⟨c6, f6⟩, ⟨c7, f7⟩, h7, fun k hk => (k7 k hk) |>.trans (k6 k hk) |>.trans (k5 k hk) |>.trans (k4 k hk) |>.trans (k3 k hk) |>.trans (k2 k hk) |>.trans (k1 k hk) |>.trans (k0 k hk), Lib.hid (by rw [z7.out, z6.out, z5.out, z4.out, z3.out, z2.out, z1.out, z0.out]), fun W n0 hn hb => b7 W n0 hn (b6 W n0 hn (b5 W n0 hn (b4 W n0 hn (b3 W n0 hn (b2 W n0 hn (b1 W n0 hn (b0 W n0 hn (hb))))))))⟩
end Go.Proofs.YtchclaipbahiiaaGreat
end

section
namespace Go.Proofs.YtchclaipbahiiaaGreat
open Go Go.RowKit Go.Proofs
set_option linter.unusedVariables false
set_option linter.unusedSimpArgs false
attribute [local go_sem] imax2 imin2
def tthTo (lo : Int) (nv : List Int) (k : Nat) : List Int := ((List.range k).map fun (i : Nat) => lo + (i : Int)).filter fun n => !nv.contains n
theorem tthTo_succ (lo : Int) (nv : List Int) (k : Nat) : tthTo lo nv (k + 1) = if nv.contains (lo + (k : Int)) = true then tthTo lo nv k else tthTo lo nv k ++ [lo + (k : Int)] := by
  unfold tthTo; rw [List.range_succ, List.map_append, List.filter_append]
  by_cases h : nv.contains (lo + (k : Int)) = true
  · rw [if_pos h]; simp at h ⊢; exact h
  · rw [if_neg h]; simp at h ⊢; exact h
theorem tthTo_len (lo : Int) (nv : List Int) (k : Nat) : (tthTo lo nv k).length ≤ k := by
  unfold tthTo; exact Nat.le_trans (List.length_filter_le _ _) (by simp)
theorem tthF_to (lo hi : Int) (nv : List Int) : tthF lo hi nv = tthTo lo nv (hi - lo + 1).toNat := rfl
theorem own_notE2 {w : World} {b : Nat} {cur : Array Value} {ty e : TypeId} {fr : Nat × Nat} {base size n : Nat} {v : Value} {xs : List Value} (hb : w.heap[b]? = some (.cells cur ty fr)) (hlt : b < base) (ho : w.ownsRow base e size v n xs) : some b ≠ v.ownBlock := fun h => by
  have := (ho.lt b h.symm).1; omega
def RuledPost (lo hi pr se : Int) (p : Option Addr) (cap : Nat) (nv : List Int) (w : World) (e : Ending) (w' : World) : Prop :=
  ∃ q c, e = .returned (.agg #[.int .i64 lo, .int .i64 hi, .int .i64 pr, .int .i64 se, .slice p nv.length cap, .slice q (tthF lo hi nv).length c]) ∧ RdI w' q (tthF lo hi nv) ∧ Below w.heap.size w w'
set_option maxRecDepth 100000 in
set_option maxHeartbeats 3200000 in
theorem t_ruled (lo hi pr se : Int) (p : Option Addr) (cap : Nat) (nv : List Int) (w : World) (hx : RdI w p nv) (h : RuleOk lo hi pr se nv) :
    Calls Tryz.prog 36 #[.agg #[.int .i64 lo, .int .i64 hi, .int .i64 pr, .int .i64 se, .slice p nv.length cap]] w (RuledPost lo hi pr se p cap nv w) := by
  obtain ⟨i0, hi0, hy0, hy1, hy2⟩ := info_parts infI; obtain ⟨w0, e0, HS0, k0, k1, k2, k3, k4, b0⟩ := box5 w (.int .i64 lo) (.int .i64 hi) (.int .i64 pr) (.int .i64 se) (.slice p nv.length cap) 25; obtain ⟨w1, e1, HS1, kz, b1⟩ := bx6 w0 (.int .i64 0) (.int .i64 0) (.int .i64 0) (.int .i64 0) (.slice none 0 0) (.slice none 0 0) 89; obtain ⟨w2, e2, HS2, kr, b2⟩ := bx6 w1 (.int .i64 lo) (.int .i64 hi) (.int .i64 pr) (.int .i64 se) (.slice p nv.length cap) (.slice none 0 0) 89; obtain ⟨w3, s5, c5, f5, kr3, hk5, HZ5, hb5⟩ := put6_5 w2 w1.heap.size 89 _ _ _ _ _ _ (.slice none 0 0) kr; have b23 : Below w1.heap.size w1 w3 := hb5 w1 w1.heap.size (Nat.le_refl _) b2; have b13 := b1.trans (b23.mono b1.size); have HRD := Lib.hid (hx.below (b0.trans (b1.mono b0.size))); have HBw := Lib.hid (b0.trans (b1.mono b0.size)); have HB3 := Lib.hid b23; have HKZ := Lib.hid kz; have HKR := Lib.hid kr3; have HK0 := Lib.hid (show w1.cell? ⟨w.heap.size, 0, none⟩ = some (.int .i64 lo) from (b1.cell (lt_of_cellq k0)).trans k0)
  have HK1 := Lib.hid (show w1.cell? ⟨w.heap.size, 1, none⟩ = some (.int .i64 hi) from (b1.cell (lt_of_cellq k1)).trans k1); have HK4 := Lib.hid (show w1.cell? ⟨w.heap.size, 4, none⟩ = some (.slice p nv.length cap) from (b1.cell (lt_of_cellq k4)).trans k4); have k0 := (b1.cell (lt_of_cellq k0)).trans k0; have k1 := (b1.cell (lt_of_cellq k1)).trans k1; have k2 := (b1.cell (lt_of_cellq k2)).trans k2; have k3 := (b1.cell (lt_of_cellq k3)).trans k3; have k4 := (b1.cell (lt_of_cellq k4)).trans k4; have l0 := (b23.cell (lt_of_cellq HK0.out)).trans HK0.out; have HZ := Lib.hid (show w.heap.size < w1.heap.size ∧ w1.heap.size + 1 = w3.heap.size ∧ w0.heap.size < w1.heap.size ∧ w.heap.size ≤ w0.heap.size by have := HS0.out; have := HS1.out; have := HS2.out; have := HZ5.out; omega); obtain ⟨cnt, hcnt⟩ : ∃ cnt : Nat, hi - lo + 1 = cnt := ⟨(hi - lo + 1).toNat, by have := h.fle; omega⟩; have hcn : cnt ≤ 60 := by have := h.flo; have := h.fhi; omega
  have hlo := h.flo; have hnl : nv.length ≤ 6 := h.flen; have HTF := Lib.hid (show tthF lo hi nv = tthTo lo nv cnt by rw [tthF_to, hcnt]; rfl); have HCN := Lib.hid hcnt; clear hcnt h hx b0 b1 b2 b23 b13 kz kr kr3 hk5 hb5
  go_enter Tryz.func36, Tryz.ntmps36
  go_wp2; clear e0 e1 e2 HS0 HS1 HS2 k0 k1 k2 k3 k4 l0 s5 c5 f5
  go_loopw [4] (fun n wr => ∃ (k : Nat) (v : Value), k ≤ cnt ∧ n = .int .i64 (lo + (k : Int)) ∧ Hid (wr.heap[w1.heap.size]? = some (.cells #[.int .i64 lo, .int .i64 hi, .int .i64 pr, .int .i64 se, .slice p nv.length cap, v] 89 (0, 0))) ∧ Hid (wr.ownsRow w3.heap.size 3 1 v (tthTo lo nv k).length (inV (tthTo lo nv k))) ∧ Hid (w3.heap.size ≤ wr.heap.size) ∧ Hid (Below w1.heap.size w1 wr)) (fun n _ => cnt + 1 - (intOf n - lo).toNat)
  case atStart => exact ⟨0, .slice none 0 0, Nat.zero_le _, by simp, HKR, Lib.hid (World.ownsRow_nil _ _ _ _), Lib.hid (Nat.le_refl _), HB3⟩
  case round =>
    obtain ⟨k, v, hk, rfl, HX, HO, HSZ, HB⟩ := hrel; have l1 := (HB.out.cell (lt_of_cellq HK1.out)).trans HK1.out; have l4 := (HB.out.cell (lt_of_cellq HK4.out)).trans HK4.out; have hLk := tthTo_len lo nv k; have hcI := HCN.out
    by_cases hlt : k < cnt
    · have hle : lo + (k : Int) ≤ hi := by omega
      have hleI : decide (lo + (k : Int) ≤ hi) = true := decide_eq_true hle; have hct := t_contains p cap nv (lo + (k : Int)) wr (HRD.out.below HB.out) (by omega); have hwk : IntKind.i64.wrap (lo + (k : Int) + 1) = lo + (k : Int) + 1 := w64 _ (by omega) (by omega); have HSU := Lib.hid (tthTo_succ lo nv k)
      rcases hcb : nv.contains (lo + (k : Int)) with _ | _
      · rw [hcb] at hct HSU
        have HSU2 := Lib.hid (show tthTo lo nv (k + 1) = tthTo lo nv k ++ [lo + (k : Int)] by rw [HSU.out, if_neg (by decide)]); obtain ⟨L, hL⟩ : ∃ L, (tthTo lo nv k).length = L := ⟨_, rfl⟩; rw [hL] at HO hLk; have HL := Lib.hid hL; clear hcb hL HSU hcI; go_wp2_with fail; refine hct.mono ?_; clear hct; rintro e w' ⟨rfl, rfl⟩; obtain ⟨o0, o1, o2, o3, o4, o5⟩ := cells6 HX.out; go_wp2_with (at_builtin; refine wpList_append_own _ rfl _ _ 23 rfl w3.heap.size 3 i0 _ 1 8 Tryz.underlying23 hi0 hy0 hy1 hy2 rfl (by decide) _ _ _ rfl (HO.out.alloc _) ⟨wr.heap.size, 0, none⟩ 1 1 [.int .i64 (lo + (k : Int))] rfl rfl ?c1 ?c2 ?c3 ?c4 ?c5 ?_)
        case c1 => exact news_of _ _ _
        case c2 => intro u hu; simp at hu; subst hu; rfl
        case c3 => unfold maxLen; omega
        case c4 => omega
        case c5 => have := HSZ.out; simp; omega
        intro v' w5 hown' hgrow _; obtain ⟨g', cap', rfl⟩ := own_form hown'; have hx5 := (hgrow.block w1.heap.size (block_lt (alloc_old wr (.cells #[.int .i64 (lo + (k : Int))] 3) HX.out)) (own_notE2 (alloc_old wr (.cells #[.int .i64 (lo + (k : Int))] 3) HX.out) (by have := HZ.out; omega) (HO.out.alloc _))).trans (alloc_old wr (.cells #[.int .i64 (lo + (k : Int))] 3) HX.out); have hb5 := (HB.out.alloc HB.out.size (.cells #[.int .i64 (lo + (k : Int))] 3)).grown hgrow (by have := HB.out.size; simp; omega) (fun j hj => by have := (HO.out.lt j hj).1; have := HZ.out; omega); have hs5 := hgrow.size; obtain ⟨w6, s6, c6, f6, hx6, hxk, HZ6, hxb⟩ := put6_5 w5 w1.heap.size 89 _ _ _ _ _ _ (.slice (some ⟨g', 0, none⟩) (L + 1) cap') hx5; have HX6 := Lib.hid hx6; have HO6 := Lib.hid (own_same hown' (fun g'' hg'' => hxk g'' (by have := (hown'.lt g'' hg'').1; have := HZ.out; omega))); have HB6 := Lib.hid (hxb w1 w1.heap.size (Nat.le_refl _) hb5)
        have HSZ6 := Lib.hid (show w3.heap.size ≤ w6.heap.size by have := HZ6.out; have := HSZ.out; simp at hs5; omega); clear hx5 hb5 hs5 hx6 hxk hxb hown' hgrow o0 o1 o2 o3 o4 o5 l4; go_wp2; go_roundw
        case rel => exact ⟨k + 1, _, by omega, by simp; omega, HX6, Lib.hid (by rw [HSU2.out, List.length_append, HL.out, inV_append]; exact HO6.out), HSZ6, HB6⟩
        case measure => simp [intOf]; omega
      · rw [hcb] at hct HSU
        have HSU2 := Lib.hid (show tthTo lo nv (k + 1) = tthTo lo nv k by rw [HSU.out, if_pos rfl]); clear hcb HSU hcI; go_wp2_with fail; refine hct.mono ?_; clear hct; rintro e w' ⟨rfl, rfl⟩; go_wp2; go_roundw
        case rel => exact ⟨k + 1, v, by omega, by simp; omega, HX, Lib.hid (by rw [HSU2.out]; exact HO.out), HSZ, HB⟩
        case measure => simp [intOf]; omega
    · obtain rfl : k = cnt := by omega
      have hle : ¬ lo + (k : Int) ≤ hi := by omega
      have hleI : decide (lo + (k : Int) ≤ hi) = false := decide_eq_false hle; obtain ⟨q, c, rfl, hrd⟩ := rd_of_own HO.out; obtain ⟨o0, o1, o2, o3, o4, o5⟩ := cells6 HX.out; obtain ⟨y1, y2, y3, y4, y5, y6, s1, s2, s3, s4, s5, s6, ⟨c1, f1⟩, ⟨c2, f2⟩, ⟨c3, f3⟩, ⟨c4, f4⟩, ⟨c5, f5⟩, ⟨c6, f6⟩, hx6, hxk, HZ6, hxb⟩ := set6 wr w0.heap.size 89 _ _ _ _ _ _ (.int .i64 lo) (.int .i64 hi) (.int .i64 pr) (.int .i64 se) (.slice p nv.length cap) (.slice q (tthTo lo nv k).length c) ((HB.out.block _ (by have := HZ.out; omega)).trans HKZ.out); obtain ⟨r0, r1, r2, r3, r4, r5⟩ := cells6 hx6; have hO6 := own_same (w' := y6) HO.out (fun g'' hg'' => hxk g'' (by have := (HO.out.lt g'' hg'').1; have := HZ.out; omega)); obtain ⟨q', c', he, hrd6⟩ := rd_of_own hO6
      injection he with e1 e2 e3
      subst e1; have HRF := Lib.hid hrd6; have HBF := Lib.hid (hxb w w.heap.size (by have := HZ.out; omega) (HBw.out.trans (HB.out.mono (by have := HZ.out; omega)))); have HLN := Lib.hid (show (tthF lo hi nv).length = (tthTo lo nv k).length by rw [HTF.out]); clear hx6 hxk hxb hO6 hrd6 hrd e2 e3 hcI; go_wp2; refine bodyPost_ret (v := .agg #[.int .i64 lo, .int .i64 hi, .int .i64 pr, .int .i64 se, .slice p nv.length cap, .slice q (tthTo lo nv k).length c]) (by simp [results, Tryz.results36, go_sem, r0, r1, r2, r3, r4, r5]) rfl ?_; exact ⟨q, c, by rw [HLN.out], by rw [HTF.out]; exact HRF.out, HBF.out⟩
end Go.Proofs.YtchclaipbahiiaaGreat
end

section
namespace Go.Proofs
open Go.Shelf
def Tryz.lays212_ren : Go.Shelf.Ren := ⟨fun | 212 => 120 | 263 => 153 | 264 => 154 | n => n, fun | 46 => 189 | 51 => 214 | 146 => 215 | 53 => 217 | 148 => 218 | n => n, fun | n => n⟩
theorem Tryz.lays212 : Go.Proofs.Lays.n212 Tryz.prog Tryz.lays212_ren := {
  mixed := by kernel_rfl
  f212 := Tryz.func120.trans (congrArg some (by kernel_rfl))
  f263 := Tryz.func153.trans (congrArg some (by kernel_rfl))
  f264 := Tryz.func154.trans (congrArg some (by kernel_rfl))
  t46 := Tryz.underlying189
  a46 := Tryz.isAgg189
  z46 := Tryz.sizeOf189
  v46 := Tryz.zeroValue189
  t51 := Tryz.underlying214
  a51 := Tryz.isAgg214
  z51 := Tryz.sizeOf214
  v51 := Tryz.zeroValue214
  t53 := Tryz.underlying217
  a53 := Tryz.isAgg217
  z53 := Tryz.sizeOf217
  v53 := Tryz.zeroValue217
  t146 := Tryz.underlying215
  a146 := Tryz.isAgg215
  z146 := Tryz.sizeOf215
  v146 := Tryz.zeroValue215
  t148 := Tryz.underlying218
  a148 := Tryz.isAgg218
  z148 := Tryz.sizeOf218
  v148 := Tryz.zeroValue218 }
open Go.RowKit Go.Lib in
theorem Tryz.bits_Mul (x y : Nat) (hx : x < 18446744073709551616) (hy : y < 18446744073709551616) (w : World) :
    Calls Tryz.prog 120 #[.int .u64 x, .int .u64 y] w fun e w' => e = .returned (.tuple #[.int .u64 ((x * y / 18446744073709551616 : Nat) : Int), .int .u64 ((x * y % 18446744073709551616 : Nat) : Int)]) ∧ w' = w := Any.bits_Mul Tryz.lays212 x y hx hy w
end Go.Proofs
end

section
namespace Go.Proofs.YtchclaipbahiiaaGreat
open Go Go.RowKit Go.Proofs
set_option linter.unusedVariables false
section
variable {P : Program}
theorem run_copy_sz (w : World) (dT sT ty elem : TypeId) (sz g o dLen dCap : Nat) (a : Addr) (sLen sCap : Nat) (cur : Array Value) (t : TypeId) (cs : List Value)
    (hu : P.underlying dT = some (.slice elem)) (hs : (P.info? elem).map (·.size) = some sz)
    (hg : w.heap[g]? = some (.cells cur t (0, 0))) (hn : cs.length = Nat.min sLen dLen * sz)
    (hsrc : ∀ j v, cs[j]? = some v → w.cell? (a.add j) = some v) (hfit : o + cs.length ≤ cur.size) (h1 : ∀ v ∈ cs, v.oneCell' = true) :
    (Builtin.copy_ #[dT, sT] ty #[.slice (some ⟨g, o, none⟩) dLen dCap, .slice (some a) sLen sCap]).run P w =
      .ok (goInt (Nat.min sLen dLen)) (w.setRow g (cur.toList.take o ++ cs ++ cur.toList.drop (o + cs.length)).toArray) := by
  have hl := run_loadCells_list (P := P) w a cs hsrc; have hst := run_storeCells_at P g o t cs 0 cur w hg (by simpa using hfit) h1
  cases hq : P.info? elem with
  | none => simp [hq] at hs
  | some i =>
    have hi : i.size = sz := by simpa [hq] using hs
    simp [Builtin.copy_, run_underlying hu, Builtin.lenOf, Builtin.firstCells, sizeOf, typeInfo, hq, hi, ← hn, hl, hst]
theorem run_copy_ex (w : World) (dT sT ty elem : TypeId) (sz g o dLen dCap : Nat) (a : Addr) (sLen sCap N : Nat) (cur : List Value) (t : TypeId) (cs : List Value)
    (hu : P.underlying dT = some (.slice elem)) (hs : (P.info? elem).map (·.size) = some sz)
    (hg : w.heap[g]? = some (.cells cur.toArray t (0, 0))) (hN : Nat.min sLen dLen = N) (hn : cs.length = N * sz)
    (hsrc : ∀ j v, cs[j]? = some v → w.cell? (a.add j) = some v) (hfit : o + cs.length ≤ cur.length) (h1 : ∀ v ∈ cs, v.oneCell' = true) (B : Nat) (w0 : World) (hb : Below B w0 w) (hBg : B ≤ g) :
    ∃ w', (Builtin.copy_ #[dT, sT] ty #[.slice (some ⟨g, o, none⟩) dLen dCap, .slice (some a) sLen sCap]).run P w = .ok (.int .i64 (N : Int)) w' ∧
      w'.heap[g]? = some (.cells (splice cur o cs).toArray t (0, 0)) ∧ Below B w0 w' := by
  have h := run_copy_sz (P := P) w dT sT ty elem sz g o dLen dCap a sLen sCap cur.toArray t cs hu hs hg (by rw [hN]; exact hn) hsrc (by simpa using hfit) h1; rw [hN] at h; refine ⟨_, h, ?_, below_setRow hb hBg _⟩; rw [setRow_heap w g _ _ t _ hg]; simp [splice]
end
def repC (c : List Value) : Nat → List Value
  | 0 => []
  | k + 1 => c ++ repC c k
theorem repC_length (c : List Value) (k : Nat) : (repC c k).length = k * c.length := by
  induction k with
  | zero => simp [repC]
  | succ k ih => simp only [repC, List.length_append, ih]; rw [Nat.succ_mul]; omega
theorem repC_add (c : List Value) (k l : Nat) : repC c (k + l) = repC c k ++ repC c l := by
  induction k with
  | zero => simp [repC]
  | succ k ih => rw [show k + 1 + l = (k + l) + 1 by omega]; simp only [repC, ih, List.append_assoc]
theorem repC_mem {c : List Value} {k : Nat} {v : Value} (h : v ∈ repC c k) : v ∈ c := by
  induction k with
  | zero => simp [repC] at h
  | succ k ih => simp only [repC, List.mem_append] at h; rcases h with h | h; exact h; exact ih h
def fillC (c z : List Value) (n k : Nat) : List Value := repC c k ++ repC z (n - k)
theorem fillC_length (c z : List Value) (hz : z.length = c.length) (n k : Nat) (hk : k ≤ n) : (fillC c z n k).length = n * c.length := by
  unfold fillC; rw [List.length_append, repC_length, repC_length, hz, ← Nat.add_mul]; congr 1; omega
theorem fillC_splice (c z : List Value) (hz : z.length = c.length) (n k m : Nat) (h : k + m ≤ n) : splice (fillC c z n k) (k * c.length) (repC c m) = fillC c z n (k + m) := by
  unfold splice fillC
  have e1 : (repC c k ++ repC z (n - k)).take (k * c.length) = repC c k := by
    rw [List.take_append_of_le_length (by rw [repC_length]; exact Nat.le_refl _), List.take_of_length_le (by rw [repC_length]; exact Nat.le_refl _)]
  have e2 : (repC c k ++ repC z (n - k)).drop (k * c.length + (repC c m).length) = repC z (n - (k + m)) := by
    rw [repC_length, show n - k = m + (n - (k + m)) by omega, repC_add, ← List.append_assoc]; rw [List.drop_append_of_le_length (by rw [List.length_append, repC_length, repC_length, hz]; exact Nat.le_refl _), List.drop_of_length_le (by rw [List.length_append, repC_length, repC_length, hz]; exact Nat.le_refl _)]
    simp
  rw [e1, e2, repC_add, List.append_assoc]
theorem fillC_get (c z : List Value) (n k : Nat) (hk : k ≤ n) (m : Nat) (hm : m ≤ k) : ∀ (j : Nat) (v : Value), (repC c m)[j]? = some v → (fillC c z n k)[j]? = some v := by
  intro j v h; unfold fillC; rw [show k = m + (k - m) by omega, repC_add, List.append_assoc, List.getElem?_append_left (by rw [List.getElem?_eq_some_iff] at h; exact h.1)]; exact h
theorem fillC_zero (c z : List Value) (n : Nat) : fillC c z n 0 = repC z n := by simp [fillC, repC]
theorem fillC_full (c z : List Value) (n : Nat) : fillC c z n n = repC c n := by simp [fillC, repC]
theorem made_all (z : Array Value) (v : Value) (hz : ∀ j, z[j % z.size]! = v) (n : Nat) : (madeCells z n).toList = List.replicate n v := by
  rw [List.eq_replicate_iff]; refine ⟨by simp [madeCells], fun b hb => ?_⟩; unfold madeCells at hb; simp only [Array.toList_map, List.mem_map] at hb; obtain ⟨j, _, rfl⟩ := hb; exact hz j
theorem repC_rep (v : Value) (m n : Nat) : repC (List.replicate m v) n = List.replicate (n * m) v := by
  induction n with
  | zero => simp [repC]
  | succ n ih => simp only [repC, ih]; rw [List.replicate_append_replicate, Nat.succ_mul]; congr 1; omega
theorem made1 (n : Nat) : (madeCells #[Value.int .i64 0] n).toList = repC [.int .i64 0] n := by
  rw [made_all _ (.int .i64 0) (fun j => by rw [show (#[Value.int .i64 0] : Array Value).size = 1 from rfl, Nat.mod_one]; rfl)]; have := repC_rep (.int .i64 0) 1 n; rw [Nat.mul_one] at this; exact this.symm
theorem mul1 (n : Nat) (hn : n ≤ 1000) (w : World) : Calls Tryz.prog 120 #[.int .u64 1, .int .u64 (n : Int)] w fun e w' => e = .returned (.tuple #[.int .u64 0, .int .u64 (n : Int)]) ∧ w = w' := by
  have h := Tryz.bits_Mul 1 n (by omega) (by omega) w; refine h.mono ?_; rintro e w' ⟨rfl, rfl⟩; refine ⟨?_, rfl⟩; rw [show 1 * n / 18446744073709551616 = 0 by omega, show 1 * n % 18446744073709551616 = n by omega]
  rfl
set_option maxRecDepth 100000 in
theorem makeLI (n : Nat) (hn : n ≤ 1000) (w : World) : (Instr.makeSlice 23 (.int .i64 (n : Int)) (.int .i64 (n : Int))).run Tryz.prog w = .ok (.slice (some ⟨w.heap.size, 0, none⟩) n n) (w.alloc (.cells (repC [.int .i64 0] n).toArray 3)) := by
  obtain ⟨i0, hi0, hz0, hz1, hz2⟩ := info_parts infI; have h := run_make (P := Tryz.prog) w 23 3 i0 _ Tryz.underlying23 hi0 hz0 .i64 .i64 (n : Int) (n : Int) (by omega) (Int.le_refl _) (by rw [hz2]; omega) (by omega); simp only [Int.toNat_natCast, hz1] at h; rw [h]
  congr 3
  rw [← made1 n]
  simp
  rfl
def RepPost (v : Int) (n : Nat) (w : World) (e : Ending) (w' : World) : Prop :=
  ∃ g, e = .returned (.slice (some ⟨g, 0, none⟩) n n) ∧ w.heap.size ≤ g ∧ w'.heap[g]? = some (.cells (repC [.int .i64 v] n).toArray 3 (0, 0)) ∧ Below w.heap.size w w'
set_option maxRecDepth 100000 in
set_option maxHeartbeats 1000000 in
theorem t_repeat (b off cap : Nat) (v : Int) (n : Nat) (h1 : 1 ≤ n) (hn : n ≤ 1000) (w : World) (hsrc : ∀ j u, ([.int .i64 v] : List Value)[j]? = some u → w.cell? ((⟨b, off, none⟩ : Addr).add j) = some u) :
    Calls Tryz.prog 75 #[.slice (some ⟨b, off, none⟩) 1 cap, .int .i64 n] w (RepPost v n w) := by
  have hmul := mul1 n hn; have hmk := makeLI n hn; have hg1 : decide ((n : Int) > 9223372036854775807) = false := by simp; omega
  have hg0 : decide ((n : Int) < 0) = false := by simp
  have hu : IntKind.u64.wrap (n : Int) = (n : Int) := by rw [IntKind.wrap_u64]; omega
  have hu1 : IntKind.u64.wrap 1 = 1 := by rw [IntKind.wrap_u64]; omega
  have HS := Lib.hid hsrc; have HC1 := Lib.hid (show ∀ u ∈ ([.int .i64 v] : List Value), u.oneCell' = true by intro u hu; simp at hu; subst hu; rfl); clear hsrc
  go_enter Tryz.func75, Tryz.ntmps75
  obtain ⟨w1, hcp, hw1, hb1⟩ : ∃ w1, (Builtin.copy_ #[23, 23] 3 #[.slice (some ⟨w.heap.size, 0, none⟩) n n, .slice (some ⟨b, off, none⟩) 1 cap]).run Tryz.prog (w.alloc (.cells (repC [.int .i64 0] n).toArray 3)) = .ok (.int .i64 1) w1 ∧
      w1.heap[w.heap.size]? = some (.cells (fillC [.int .i64 v] [.int .i64 0] n 1).toArray 3 (0, 0)) ∧ Below w.heap.size w w1 := by
    have h := run_copy_ex (P := Tryz.prog) (w.alloc (.cells (repC [.int .i64 0] n).toArray 3)) 23 23 3 3 1 w.heap.size 0 n n ⟨b, off, none⟩ 1 cap 1 (repC [.int .i64 0] n) 3 [.int .i64 v] Tryz.underlying23 szI (alloc_new _ _) (Nat.min_eq_left h1) rfl
      (fun j u hj => ((below_alloc1 w _).cell (lt_of_cellq (HS.out j u hj))).trans (HS.out j u hj)) (by simp [repC_length]; omega) HC1.out w.heap.size w (below_alloc1 _ _) (Nat.le_refl _)
    have e := fillC_splice [.int .i64 v] [.int .i64 0] rfl n 0 1 (by omega); rw [Nat.zero_mul, Nat.zero_add, show repC [.int .i64 v] 1 = [.int .i64 v] from List.append_nil _, fillC_zero] at e; rw [e] at h; exact h
  have HW1 := Lib.hid hw1; have HB1 := Lib.hid hb1; clear hw1 hb1; go_wp2_with fail; refine (hmul _).mono ?_; rintro e w' ⟨rfl, rfl⟩; go_wp2; clear hmul hmk hg1 hg0 hu hu1 hcp
  go_loopw [8] (fun vv wr => ∃ k : Nat, 1 ≤ k ∧ k ≤ n ∧ vv = .int .i64 k ∧ Hid (wr.heap[w.heap.size]? = some (.cells (fillC [.int .i64 v] [.int .i64 0] n k).toArray 3 (0, 0))) ∧ Hid (Below w.heap.size w wr)) (fun v _ => n - (intOf v).toNat)
  case atStart => exact ⟨1, by omega, h1, rfl, HW1, HB1⟩
  case round =>
    obtain ⟨k, hk1, hkn, rfl, HW, HB⟩ := hrel
    by_cases hlt : k < n
    · have hsl : decide ((k : Int) < (n : Int)) = true := by simp; omega
      obtain ⟨m, hm⟩ : ∃ m, Nat.min k (n - k) = m := ⟨_, rfl⟩; have hm1 : 1 ≤ m := by rw [← hm]; exact Nat.le_min.2 ⟨hk1, by omega⟩
      have hmk : m ≤ k := by rw [← hm]; exact Nat.min_le_left _ _
      have hmn : k + m ≤ n := by have : m ≤ n - k := by rw [← hm]; exact Nat.min_le_right _ _
                                 omega
      obtain ⟨w2, hcp, hw2, hb2⟩ : ∃ w2, (Builtin.copy_ #[23, 23] 3 #[.slice (some ⟨w.heap.size, k, none⟩) (n - k) (n - k), .slice (some ⟨w.heap.size, 0, none⟩) k n]).run Tryz.prog wr.drew = .ok (.int .i64 m) w2 ∧
          w2.heap[w.heap.size]? = some (.cells (fillC [.int .i64 v] [.int .i64 0] n (k + m)).toArray 3 (0, 0)) ∧ Below w.heap.size w w2 := by
        have h := run_copy_ex (P := Tryz.prog) wr.drew 23 23 3 3 1 w.heap.size (k * 1) (n - k) (n - k) ⟨w.heap.size, 0, none⟩ k n m (fillC [.int .i64 v] [.int .i64 0] n k) 3 (repC [.int .i64 v] m) Tryz.underlying23 szI HW.out hm (by rw [repC_length]; rfl)
          (fun j u hj => by rw [add_new]; exact cell_of_list (w := wr.drew) HW.out (fillC_get [.int .i64 v] [.int .i64 0] n k hkn m hmk j u hj)) (by rw [fillC_length [.int .i64 v] [.int .i64 0] rfl n k hkn]; simp [repC_length]; omega) (fun u hu => HC1.out u (repC_mem hu)) w.heap.size w HB.out.drew (Nat.le_refl _)
        have e := fillC_splice [.int .i64 v] [.int .i64 0] rfl n k m hmn; simp only [List.length_cons, List.length_nil] at e; rw [e] at h
        simpa using h
      have HW2 := Lib.hid hw2; have HB2 := Lib.hid hb2; clear hw2 hb2 hm; have hwr : IntKind.i64.wrap ((k : Int) + (m : Int)) = (k : Int) + (m : Int) := w64 _ (by omega) (by omega); go_wp2
      go_region_held3 (fun _ => True) (trivial) (fail)
      all_goals
        clear hcp; go_wp2; go_roundw
        case rel => exact ⟨k + m, by omega, by omega, by go_num, HW2, HB2⟩
        case measure => simp [intOf]; omega
    · obtain rfl : k = n := by omega
      have hsl : decide ((k : Int) < (k : Int)) = false := by simp
      go_wp2; go_ret; exact ⟨w.heap.size, rfl, Nat.le_refl _, by have := HW.out; rw [fillC_full] at this; exact this, HB.out⟩
end Go.Proofs.YtchclaipbahiiaaGreat
end

section
namespace Go.Proofs.YtchclaipbahiiaaGreat
open Go Go.RowKit Go.Proofs
set_option linter.unusedVariables false
def SeqMem {α : Type} (F : Fence) (n : Nat) (P : Program) (g : Nat) (lb : Array Value) (encs : α → Array Value) (Kp : World → World → Prop) (Mem : α → World → Prop) (S : List α → Prop) (N : Nat) (w : World) : Prop :=
  ∀ (l : Nat) (J : List α → World → Prop) (W : World), Below w.heap.size w W → AbidesFrom W.heap.size J →
    (∀ pre x W1, J pre W1 → Mem x W1 → pre.length < N → YieldAt F (n - 1) P l (encs x) W1 fun e W' => e = .returned (.bool true) ∧ J (pre ++ [x]) W' ∧ Kp W1 W') →
    J [] W →
    CallsIn F n P g (#[.func (.yield l) #[] #[]] ++ lb) W fun e W' => (∃ v, e = .returned v) ∧ ∃ xs, S xs ∧ J xs W' ∧ ∀ x ∈ xs, Mem x W'
def StayPost (B : Nat) (Kp : World → World → Prop) (K : World → Prop) (W : World) : Exit → Act → World → Prop
  | .normal, _, W' => KeepsFrom B W W' ∧ Kp W W' ∧ K W'
  | _, _, _ => False
theorem wpIn_rangeFunc_mem {F : Fence} {n : Nat} {P : Program} {α : Type} {g : Operand} {ps : Array Tmp} {assign body : Code} {Q : Exit → Act → World → Prop} {a : Act} {w : World}
    (hro : F.round = none) (h1 : 1 ≤ n) {gf : Nat} {lb : Array Value} (hg : a.eval g = .func (.func gf) #[] lb) (hFg : F.fn gf) (eg : ∀ args w, (callFunc gf args).run P w = .ok (.enter gf args) w)
    {encs : α → Array Value} {Kp : World → World → Prop} {Mem : α → World → Prop} {S : List α → Prop} {N : Nat} {w0 : World} (hseq : SeqMem F (n - 1) P gf lb encs Kp Mem S N w0)
    (hKt : ∀ {A B C : World}, Kp A B → Kp B C → Kp A C) (hKb : ∀ (W : World) (l : Nat) (o o' : Obj), w.heap.size ≤ l → W.heap[l]? = some o → o.isCells = false → o.isWalk = false → Kp W (W.putObj l o'))
    (hMb : ∀ (x : α) (W : World) (l : Nat) (o o' : Obj), W.heap[l]? = some o → o.isCells = false → Mem x W → Mem x (W.putObj l o')) (hb0 : Below w0.heap.size w0 w) (hps : ∀ x, (encs x).size = ps.size)
    (I : List α → World → Prop) (hI : OwnFrom w.heap.size I) (h0 : I [] w) (Ax : α → Act → World → Prop) (hAx : ∀ x a', OwnFrom w.heap.size (fun (_ : Unit) W => Ax x a' W))
    (hassign : ∀ (l : Nat) (pre : List α) (x : α) (W : World) (K : Act → World → Prop), I pre W → Mem x W → (∀ a' W', KeepsFrom w.heap.size W W' → Kp W W' → I pre W' → Mem x W' → Ax x a' W' → K a' W') →
      assign.wpIn (F.inRound l) (n - 1 - 1) P (Exit.then K (fun _ _ _ => False)) { tmps := (ps.zip (encs x)).foldl (fun t (p, v) => t.setIfInBounds p v) a.tmps, defers := [] } W)
    (hbody : ∀ (l : Nat) (pre : List α) (x : α) (a' : Act) (W : World), I pre W → Mem x W → Ax x a' W → pre.length < N → body.wpIn (F.inRound l) (n - 1 - 1) P (StayPost w.heap.size Kp (I (pre ++ [x])) W) a' W)
    (hdone : ∀ (D : Nat) (xs : List α) (W : World), w.heap.size ≤ D → S xs → I xs W → (∀ x ∈ xs, Mem x W) → W.heap[D]? = some (.deferred (some [])) → Q .normal { a with defers := { target := .collected D, args := #[] } :: a.defers } W) :
    (Code.rangeFunc g ps assign body).wpIn F n P Q a w := by
  refine wpIn_rangeFunc ?_; intro fn hfn; rw [hro]; obtain ⟨rec, hrec⟩ : ∃ rec : LoopState → Option Code → Loop, rec = fun st pe => { state := st, pending := pe, fn, tmps := a.tmps, params := ps, assign, body, defers := w.heap.size } := ⟨_, rfl⟩
  obtain ⟨W1, hW1⟩ : ∃ W1, (w.alloc (.deferred (some []))).alloc (.loop (rec .ready none)) = W1 := ⟨_, rfl⟩; have hz1 : W1.heap.size = w.heap.size + 2 := by rw [← hW1]; simp
  have hL1 : W1.heap[w.heap.size + 1]? = some (.loop (rec .ready none)) := by
    have := World.alloc_heap_new (w.alloc (.deferred (some []))) (.loop (rec .ready none)); rw [World.size_alloc, hW1] at this; exact this
  have hK1 : W1.heap[w.heap.size]? = some (.deferred (some [])) := by
    rw [← hW1]; exact (Below.heap_alloc _ _ _ (by simp)).trans (World.alloc_heap_new w _)
  have hI1 : I [] W1 := by rw [← hW1]; exact hI.alloc _ (hI.alloc _ h0)
  have hb1 : Below w0.heap.size w0 W1 := by
    rw [← hW1]; exact hb0.trans ((((Below.refl _ w).alloc (Nat.le_refl _) _).alloc (by simp) _).mono hb0.size)
  refine ⟨w.heap.size + 1, [{ target := .collected w.heap.size, args := #[] }], W1, { target := .fn (.func gf) lb, args := #[.func (.yield (w.heap.size + 1)) #[] #[]] }, W1, gf,
    #[.func (.yield (w.heap.size + 1)) #[] #[]] ++ lb, W1, (by rw [← hW1, hrec]; exact run_enterLoop_outer _ _ _ _ _), (by simp only [resolve, hg]; simp [go_sem]), (fun f' hf' => by simp [Target.leads] at hf'; subst hf'; exact hFg), (by simp [invoke, go_sem, eg]), fun _ => h1, ?_⟩
  have far : ∀ {A : World} {row : Option Nat}, (∀ r, row = some r → W1.heap.size ≤ r ∧ ∃ o : Obj, A.heap[r]? = some o ∧ o.isWalk = true) → ∀ r, row = some r → w.heap.size ≤ r ∧ ∃ o : Obj, A.heap[r]? = some o ∧ o.isCells = false :=
    fun hr r e => by obtain ⟨hB, o, ho, hw⟩ := hr r e; exact ⟨by omega, o, ho, Obj.not_cells_of_walk hw⟩
  refine (hseq (w.heap.size + 1) (fun pre W => I pre W ∧ W.heap[w.heap.size + 1]? = some (.loop (rec .ready none)) ∧ W.heap[w.heap.size]? = some (.deferred (some []))) W1 hb1
    (fun s A B row hs hg' hr => ⟨hI s A B row hs.1 hg' (far hr), (grownBy_keeps hg' (fun r e => (hr r e).2) hs.2.1 rfl).trans hs.2.1, (grownBy_keeps hg' (fun r e => (hr r e).2) hs.2.2 rfl).trans hs.2.2⟩)
    ?round ⟨hI1, hL1, hK1⟩).mono ?after
  case round =>
    rintro pre x W ⟨hi, hl, hk⟩ hm hlen; have hy := run_yield (P := P) (args := encs x) hl (by rw [hrec]; exact hps x); rw [hrec] at hy; refine ⟨fn, _, assign, body, hy, roundIn_of_wpIn hfn (hassign _ pre x W _ hi hm ?_)⟩; intro a' Wa hka hkp hia hma hax; have hla := hka.same _ _ (by omega) hl rfl; have hkk := hka.same _ _ (Nat.le_refl _) hk rfl; have hlt : w.heap.size + 1 < Wa.heap.size := (Array.getElem?_eq_some_iff.1 hla).1; refine ⟨_, run_beginRound hla (by rw [hrec]), ?_⟩; obtain ⟨W2, hW2⟩ : ∃ W2, Wa.putObj (w.heap.size + 1) (.loop { rec .ready none with state := .busy }) = W2 := ⟨_, rfl⟩; have hl2 : W2.heap[w.heap.size + 1]? = some (.loop { rec .ready none with state := .busy }) := by rw [← hW2]; exact World.putObj_heap_same hlt
    have hk2 : W2.heap[w.heap.size]? = some (.deferred (some [])) := by rw [← hW2]; exact (World.putObj_heap_other (by omega)).trans hkk
    have hp2 : Kp W W2 := by rw [← hW2]; exact hKt hkp (hKb _ _ _ _ (by omega) hla rfl rfl)
    have hi2 : I pre W2 := by rw [← hW2]; exact hI.putObj _ hia (by omega) hla rfl
    have hm2 : Mem x W2 := by rw [← hW2]; exact hMb _ _ _ _ _ hla rfl hma
    have hx2 : Ax x a' W2 := by rw [← hW2]; exact (hAx x a').putObj (s := ()) _ hax (by omega) hla rfl
    rw [hW2]; refine wpIn_mono (hbody _ pre x a' _ hi2 hm2 hx2 hlen) ?_; rintro e a3 W3 hp
    cases e with
    | normal =>
      obtain ⟨hk3, hp3, hi3⟩ := hp; have hl3 := hk3.same _ _ (by omega) hl2 rfl; have hr := run_endRound (P := P) none hl3; rw [hrec] at hr hl3 ⊢; have hk4 := (World.putObj_heap_other (w := W3) (o := .loop { state := .ready, pending := none, fn, tmps := a.tmps, params := ps, assign, body, defers := w.heap.size }) (show w.heap.size ≠ w.heap.size + 1 by omega)).trans (hk3.same _ _ (Nat.le_refl _) hk2 rfl); exact ⟨_, _, hr, rfl, ⟨hI.putObj _ hi3 (by omega) hl3 rfl, World.putObj_heap_same (Array.getElem?_eq_some_iff.1 hl3).1, hk4⟩, hKt (hKt hp2 hp3) (hKb _ _ _ _ (by omega) hl3 rfl rfl)⟩
    | ret => exact hp.elim
    | exit id => exact hp.elim
    | goto t => exact hp.elim
    | panic ch => exact hp.elim
    | outgrown => exact hp.elim
  case after =>
    rintro e W2 ⟨⟨v, rfl⟩, xs, hS, ⟨hi, hl, hk⟩, hm⟩; have hr := run_endLoop (P := P) hl (by rw [hrec]; simp); rw [hrec] at hr; exact ⟨none, _, hr, hdone _ xs _ (Nat.le_refl _) hS (hI.putObj _ hi (by omega) hl rfl) (fun x hx => hMb _ _ _ _ _ hl rfl (hm x hx)) ((World.putObj_heap_other (by omega)).trans hk)⟩
structure Tv where
  pl : List Int
  q : Option Addr
  cq : Nat
  g : Nat
  cg : Nat
def tvA (x : Tv) : Value := .agg #[.slice x.q x.pl.length x.cq, .slice (some ⟨x.g, 0, none⟩) (x.pl.length + 1) x.cg]
def tvE (x : Tv) : Array Value := #[tvA x]
def tvV : List Tv → List Value
  | [] => []
  | x :: r => .slice x.q x.pl.length x.cq :: .slice (some ⟨x.g, 0, none⟩) (x.pl.length + 1) x.cg :: tvV r
theorem tvV_append (a b : List Tv) : tvV (a ++ b) = tvV a ++ tvV b := by
  induction a with
  | nil => rfl
  | cons x a ih => simp [tvV, ih]
theorem tvV_get : ∀ (xs : List Tv) (i : Nat) (x : Tv), xs[i]? = some x → (tvV xs)[i * 2]? = some (.slice x.q x.pl.length x.cq) ∧ (tvV xs)[i * 2 + 1]? = some (.slice (some ⟨x.g, 0, none⟩) (x.pl.length + 1) x.cg) := by
  intro xs
  induction xs with
  | nil => intro i x h; simp at h
  | cons y xs ih =>
    intro i x h
    cases i with
    | zero => simp at h; subst h; exact ⟨rfl, rfl⟩
    | succ i =>
      simp at h; have := ih i x h; rw [show (i + 1) * 2 = i * 2 + 1 + 1 by omega]; exact this
def MemT (p : Pc) (n0 : Nat) (x : Tv) (w : World) : Prop := x.pl.length = p.ms.length ∧ (endF p x.pl).length = p.ms.length + 1 ∧ w.ownsRow n0 3 1 (.slice x.q x.pl.length x.cq) x.pl.length (inV x.pl) ∧ w.ownsRow n0 3 1 (.slice (some ⟨x.g, 0, none⟩) (x.pl.length + 1) x.cg) (x.pl.length + 1) (inV (endF p x.pl))
def KpT (n0 kx : Nat) (w w' : World) : Prop := BelX (fun x => x = kx) n0 w w' ∧ ∀ (b : Nat) (cur : Array Value) (ty : TypeId) (fr : Nat × Nat), w.heap[b]? = some (.cells cur ty fr) → b ≠ kx → ty ≠ 125 → w'.heap[b]? = w.heap[b]?
theorem KpT.refl (n0 kx : Nat) (w : World) : KpT n0 kx w w := ⟨BelX.refl _ _ _, fun _ _ _ _ _ _ _ => rfl⟩
theorem KpT.trans {n0 kx : Nat} {a b c : World} (h : KpT n0 kx a b) (k : KpT n0 kx b c) : KpT n0 kx a c :=
  ⟨h.1.trans k.1, fun b cur ty fr hb h1 h2 => by
    have e := h.2 b cur ty fr hb h1 h2; exact (k.2 b cur ty fr (e.trans hb) h1 h2).trans e⟩
theorem KpT.of_below {n0 kx : Nat} {w w' : World} (h : Below w.heap.size w w') (hn : n0 ≤ w.heap.size) : KpT n0 kx w w' :=
  ⟨(belX_of h).mono hn, fun b cur ty fr hb _ _ => h.block b (block_lt hb)⟩
theorem KpT.keeps {n0 kx : Nat} {w w' : World} (h : KpT n0 kx w w') {b : Nat} {cur : Array Value} {ty : TypeId} {fr : Nat × Nat} (hb : w.heap[b]? = some (.cells cur ty fr)) (h1 : b ≠ kx) (h2 : ty ≠ 125) : w'.heap[b]? = some (.cells cur ty fr) :=
  (h.2 b cur ty fr hb h1 h2).trans hb
theorem KpT.own {n0 kx B size n : Nat} {ty : TypeId} {v : Value} {xs : List Value} {w w' : World} (h : KpT n0 kx w w') (hk : kx < B) (h2 : ty ≠ 125) (ho : w.ownsRow B ty size v n xs) : w'.ownsRow B ty size v n xs := by
  refine own_same ho fun g hg => ?_
  rcases ho.2 with ⟨rfl, _⟩ | ⟨g', cap, cur, rfl, hb, hh, _⟩
  · simp [Value.ownBlock] at hg
  · simp [Value.ownBlock] at hg
    subst hg; exact h.2 _ _ _ _ hh (by omega) h2
theorem KpT.below {n0 kx B : Nat} {w w' : World} (h : KpT n0 kx w w') (h1 : B ≤ kx) (h2 : B ≤ n0) : Below B w w' := (h.1.mono h2).below (Nat.le_refl _) (fun x hx => by subst hx; exact h1)
theorem KpT.putObj {n0 kx : Nat} {W : World} {l : Nat} {o o' : Obj} (hn : n0 ≤ l) (hl : W.heap[l]? = some o) (ho : o.isCells = false) : KpT n0 kx W (W.putObj l o') := by
  have hg := grownBy_putObj' W l o'; refine ⟨⟨hg.os, hg.tape, hg.output, hg.size, fun k hk _ => World.putObj_heap_other (by omega)⟩, fun b cur ty fr hb _ _ => World.putObj_heap_other ?_⟩; intro e; subst e; rw [hl] at hb
  cases hb
  cases ho
theorem KpT.setCell {n0 kx : Nat} {a w : World} (h : KpT n0 kx a w) (j : Nat) (v : Value) : KpT n0 kx a (w.setCell ⟨kx, j, none⟩ v) :=
  h.trans ⟨BelX.setCell (X := fun x => x = kx) (BelX.refl _ _ _) (p := ⟨kx, j, none⟩) (.inl rfl) v, fun b cur ty fr hb h1 _ => Below.heap_setCell _ _ _ _ h1⟩
theorem KpT.alloc {n0 kx : Nat} {a w : World} (h : KpT n0 kx a w) (hn : n0 ≤ w.heap.size) (o : Obj) : KpT n0 kx a (w.alloc o) := h.trans (KpT.of_below (below_alloc1 w o) hn)
theorem MemT.kept {p : Pc} {n0 kx : Nat} {x : Tv} {w w' : World} (h : MemT p n0 x w) (hk : KpT n0 kx w w') (hx : kx < n0) : MemT p n0 x w' :=
  ⟨h.1, h.2.1, hk.own hx (by decide) h.2.2.1, hk.own hx (by decide) h.2.2.2⟩
theorem MemT.putObj {p : Pc} {n0 : Nat} {x : Tv} {W : World} {l : Nat} {o o' : Obj} (hl : W.heap[l]? = some o) (ho : o.isCells = false) (h : MemT p n0 x W) : MemT p n0 x (W.putObj l o') := by
  have key : ∀ (v : Value) (n : Nat) (xs : List Value), W.ownsRow n0 3 1 v n xs → (W.putObj l o').ownsRow n0 3 1 v n xs := by
    intro v n xs hr; refine own_same hr fun g hg => ?_
    rcases hr.2 with ⟨rfl, _⟩ | ⟨g', cap, cur, rfl, hb, hh, _⟩
    · simp [Value.ownBlock] at hg
    · simp [Value.ownBlock] at hg
      subst hg; refine World.putObj_heap_other ?_; intro e; subst e; rw [hl] at hh
      cases hh
      cases ho
  exact ⟨h.1, h.2.1, key _ _ _ h.2.2.1, key _ _ _ h.2.2.2⟩
theorem set4K {G : Prop} (w : World) (B : Nat) (t : TypeId) (v0 v1 v2 v3 a b c d : Value) (h : w.heap[B]? = some (.cells #[v0, v1, v2, v3] t))
    (k : ∀ w1 w2 w3 w4, w.setCell ⟨B, 0, none⟩ a = w1 → w1.setCell ⟨B, 1, none⟩ b = w2 → w2.setCell ⟨B, 2, none⟩ c = w3 → w3.setCell ⟨B, 3, none⟩ d = w4 →
      w.cell? ⟨B, 0, none⟩ = some v0 → w.frozen? ⟨B, 0, none⟩ = false → w1.cell? ⟨B, 1, none⟩ = some v1 → w1.frozen? ⟨B, 1, none⟩ = false → w2.cell? ⟨B, 2, none⟩ = some v2 → w2.frozen? ⟨B, 2, none⟩ = false → w3.cell? ⟨B, 3, none⟩ = some v3 → w3.frozen? ⟨B, 3, none⟩ = false →
      w4.heap[B]? = some (.cells #[a, b, c, d] t) → (∀ k, k ≠ B → w4.heap[k]? = w.heap[k]?) → Hid (w4.heap.size = w.heap.size) → (∀ W n0, n0 ≤ B → Below n0 W w → Below n0 W w4) → G) : G := by
  obtain ⟨w1, w2, w3, w4, s1, s2, s3, s4, ⟨c0, f0⟩, ⟨c1, f1⟩, ⟨c2, f2⟩, ⟨c3, f3⟩, h1, h2, h3, h4⟩ := set4 w B t v0 v1 v2 v3 a b c d h; exact k w1 w2 w3 w4 s1 s2 s3 s4 c0 f0 c1 f1 c2 f2 c3 f3 h1 h2 (Lib.hid h3) h4
end Go.Proofs.YtchclaipbahiiaaGreat
end
