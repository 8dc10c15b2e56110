/-
  Motions: the place and the speed at a time; signs; sums.
  Motions as defined; the place that is returned.
  Sums; the best of some shifted ones.
  How two cams are turned against each other.
  By how many steps one cam is another one, turned.
  The references' comparisons of cams and of spans.
  When a motion passes a place.
-/
import Derived.Test.YtncfgkhbenmpoaaGreatDoorGb
import Derived.Deep.RegionHeld3
import Derived.StillTailTactics
import Derived.Deep.Cut
import Derived.WalkMore
section
namespace Go.Proofs.YtncfgkhbenmpoaaGreatDoor
open Go Go.RowKit Go.Proofs
set_option linter.unusedVariables false
attribute [local go_sem] imax2 imin2

/-! ### regions that draw, whose calls leave all old blocks as they were -/
theorem below_drewN {B : Nat} {a w : World} (h : Below B a w) (n : Nat) : Below B a (w.drewN n) := ⟨h.os, h.tape, h.output, h.size, h.block⟩
theorem wp_region_quiet_below {P : Program} {id : Nat} {Q : Exit → Act → World → Prop} {a : Act} {w : World} {l : List Oper} (hm : P.follows .mixedOrders = true) (hB : Region.lexB .any l.toArray = true)
    (h : wpQuiet P l.toArray (fun w' => Below w.heap.size w w') (fun a' => ∀ w', Below w.heap.size w w' → Q .normal a' w') l a) : (Code.region id l.toArray true).wp P Q a w :=
  wp_region_quiet (C := fun w' => Below w.heap.size w w') hm hB ⟨rfl, rfl, rfl, Nat.le_refl _, fun _ _ => rfl⟩ (by simpa using h)
theorem calls_below {P : Program} {f : FuncId} {args : Array Value} {w w' : World} {v : Value} (hb : Below w.heap.size w w')
    (h : Calls P f args w' fun e w'' => e = .returned v ∧ Below w'.heap.size w' w'') : Calls P f args w' fun e w'' => e = .returned v ∧ Below w.heap.size w w'' :=
  h.mono fun e w'' hh => ⟨hh.1, hb.trans (hh.2.mono hb.size)⟩
theorem bcells2 {w w' : World} {b : Nat} {v0 v1 : Value} (h0 : w.cell? ⟨b, 0, none⟩ = some v0) (h1 : w.cell? ⟨b, 1, none⟩ = some v1) (hb : Below w.heap.size w w') :
    ∀ j v, [v0, v1][j]? = some v → w'.cell? ((⟨b, 0, none⟩ : Addr).add j) = some v := by
  intro j v hj
  rw [add_new]
  match j, hj with
  | 0, hj => simp at hj; subst hj; exact (hb.cell (lt_of_cellq h0)).trans h0
  | 1, hj => simp at hj; subst hj; exact (hb.cell (lt_of_cellq h1)).trans h1

/-- a struct of two cells that is boxed -/
theorem box2 (w : World) (a b : Value) (t : TypeId) : ∃ w0, w.alloc (.cells #[a, b] t) = w0 ∧ Hid (w0.heap.size = w.heap.size + 1) ∧
    w0.cell? ⟨w.heap.size, 0, none⟩ = some a ∧ w0.cell? ⟨w.heap.size, 1, none⟩ = some b ∧ Below w.heap.size w w0 :=
  ⟨_, rfl, Lib.hid (by simp), by rw [at_new]; rfl, by rw [at_new]; rfl, below_alloc1 _ _⟩

theorem nat_emod0 (k n : Nat) : (k : Int) % (n : Int) = ((k % n : Nat) : Int) := by rw [Int.natCast_emod]

theorem cg_natmod (o : List Int) (k : Nat) : cg o (k : Int) = gi o (k % o.length) := by
  show gi o ((k : Int) % (o.length : Int)).toNat = _
  rw [nat_emod0]; rfl

theorem sgn_mm (n : Int) : sgn n = max (-1) (min 1 n) := by unfold sgn; split <;> (try split) <;> omega
theorem c155 (n : Int) (w : World) : Calls Tryz.prog 155 #[.int .i64 n] w fun e w' => e = .returned (.int .i64 (sgn n)) ∧ w = w' := by
  go_enter Tryz.func155, Tryz.ntmps155
  go_wp2
  go_ret
  exact ⟨by rw [sgn_mm]; rfl, rfl⟩
theorem c104 (n : Int) (w : World) : Calls Tryz.prog 104 #[.int .i64 n] w fun e w' => e = .returned (.bool (inB n 0 2000)) ∧ w = w' := by
  go_enter Tryz.func104, Tryz.ntmps104
  go_wp2_with (go_at_call 90; refine (c90 _ _ _ _).mono ?_; rintro e w' ⟨rfl, rfl⟩)
  go_ret
  exact ⟨rfl, rfl⟩
theorem c141 (n : Int) (w : World) : Calls Tryz.prog 141 #[.int .i64 n] w fun e w' => e = .returned (.bool (!inB n (-200) 200)) ∧ w = w' := by
  go_enter Tryz.func141, Tryz.ntmps141
  go_wp2_with (go_at_call 90; refine (c90 _ _ _ _).mono ?_; rintro e w' ⟨rfl, rfl⟩)
  go_ret
  exact ⟨rfl, rfl⟩

/-- what a motion's numbers keep to -/
structure Mot (u : Int) (o : List Int) : Prop where
  u0 : 1 ≤ u
  u1 : u ≤ 50
  l0 : 3 ≤ o.length
  l1 : o.length ≤ 24
  os : ∀ i, i < o.length → -200 ≤ gi o i ∧ gi o i ≤ 200

set_option maxHeartbeats 400000 in
set_option maxRecDepth 100000 in
theorem c108 (u : Int) (q : Option Addr) (cap : Nat) (o : List Int) (k : Nat) (w : World) (hx : RdI w q o) (hm : Mot u o) (hk : k ≤ 100000) :
    Calls Tryz.prog 108 #[.agg #[.int .i64 u, .slice q o.length cap], .int .i64 k] w fun e w' => e = .returned (.int .i64 (plc u o k)) ∧ Below w.heap.size w w' := by
  obtain ⟨hu0, hu1, hl0, hl1, hos⟩ := hm
  have hmd := Nat.mod_lt k (show 0 < o.length by omega)
  have hrg := hos _ hmd
  obtain ⟨w0, e0, HS, k0, k1, b0⟩ := box2 w (.int .i64 u) (.slice q o.length cap) 61
  obtain ⟨b, off, rfl, hc⟩ := (hx.below b0).at hmd
  have e1 := hc _ hmd
  have HM := nat_emod0 k o.length
  have HC := Lib.hid (show plc u o k = (k : Int) * u + gi o (k % o.length) by unfold plc; rw [cg_natmod])
  have hp1 : 0 ≤ (k : Int) * u := Int.mul_nonneg (by omega) (by omega)
  have hp2 : (k : Int) * u ≤ 100000 * 50 := Int.mul_le_mul (by omega) hu1 (by omega) (by omega)
  clear hc hx hos
  go_enter Tryz.func108, Tryz.ntmps108
  go_wp2
  clear e0
  refine wp_region_quiet_lit (by kernel_rfl) (by kernel_rfl) ?_; (repeat (first | (rw [HM]) | ((with_reducible apply wq_ix Tryz.underlying24 sz3); (focus rfl); (focus rfl); (focus rfl); (focus omega); (try simp only [Nat.mul_one]); go_frame) | ((with_reducible apply wq_ix Tryz.underlying37 sz50); (focus rfl); (focus rfl); (focus rfl); (focus omega); (try simp only [Nat.mul_one]); go_frame) | ((with_reducible apply wq_ix Tryz.underlying35 sz47); (focus rfl); (focus rfl); (focus rfl); (focus omega); (try simp only [Nat.mul_one]); go_frame) | ((with_reducible apply wq_ix Tryz.underlying90 sz24); (focus rfl); (focus rfl); (focus rfl); (focus omega); (try simp only [Nat.mul_one]); go_frame) | ((with_reducible apply wq_ld ag3); (focus rfl); (focus rfl); (focus (rintro _ ⟨_, rfl⟩; first | exact k0 | exact k1 | exact e1)); go_frame) | ((with_reducible apply wq_ld ag24); (focus rfl); (focus rfl); (focus (rintro _ ⟨_, rfl⟩; first | exact k0 | exact k1 | exact e1)); go_frame) | ((with_reducible apply wq_ld ag37); (focus rfl); (focus rfl); (focus (rintro _ ⟨_, rfl⟩; first | exact k0 | exact k1 | exact e1)); go_frame) | ((with_reducible apply wq_ld ag90); (focus rfl); (focus rfl); (focus (rintro _ ⟨_, rfl⟩; first | exact k0 | exact k1 | exact e1)); go_frame) | ((with_reducible apply wq_ld ag35); (focus rfl); (focus rfl); (focus (rintro _ ⟨_, rfl⟩; first | exact k0 | exact k1 | exact e1)); go_frame) | ((with_reducible apply wq_add); (focus rfl); (focus rfl); (focus rfl); (focus omega); (focus omega); go_frame) | ((with_reducible apply wq_sub); (focus rfl); (focus rfl); (focus rfl); (focus omega); (focus omega); go_frame) | ((with_reducible apply wq_mul); (focus rfl); (focus rfl); (focus rfl); (focus omega); (focus omega); go_frame) | ((with_reducible apply wq_rem); (focus rfl); (focus rfl); (focus rfl); (focus omega); (focus omega); go_frame) | ((with_reducible apply wq_eql); (focus rfl); (focus rfl); (focus rfl); go_frame) | ((with_reducible apply wq_neq); (focus rfl); (focus rfl); (focus rfl); go_frame) | ((with_reducible apply wq_lss); (focus rfl); (focus rfl); (focus rfl); go_frame) | ((with_reducible apply wq_leq); (focus rfl); (focus rfl); (focus rfl); go_frame) | ((with_reducible apply wq_gtr); (focus rfl); (focus rfl); (focus rfl); go_frame) | ((with_reducible apply wq_geq); (focus rfl); (focus rfl); (focus rfl); go_frame) | ((with_reducible apply wq_max2); (focus rfl); (focus rfl); (focus rfl); go_frame) | ((with_reducible apply wq_min2); (focus rfl); (focus rfl); (focus rfl); go_frame) | ((with_reducible apply wq_max3); (focus rfl); (focus rfl); (focus rfl); (focus rfl); go_frame) | ((with_reducible apply wq_min3); (focus rfl); (focus rfl); (focus rfl); (focus rfl); go_frame) | go_big_quiet_step (fail))); refine wpQuiet_nil ?_; rintro _ ⟨nq, rfl⟩
  go_wp2
  go_ret
  exact ⟨by rw [HC.out]; rfl, below_drewN b0 _⟩

theorem c108i (u : Int) (q : Option Addr) (cap : Nat) (o : List Int) (t : Int) (w : World) (hx : RdI w q o) (hm : Mot u o) (hk : 0 ≤ t ∧ t ≤ 100000) :
    Calls Tryz.prog 108 #[.agg #[.int .i64 u, .slice q o.length cap], .int .i64 t] w fun e w' => e = .returned (.int .i64 (plc u o t)) ∧ Below w.heap.size w w' := by
  obtain ⟨k, rfl⟩ : ∃ k : Nat, t = k := ⟨t.toNat, by omega⟩
  exact c108 u q cap o k w hx hm (by omega)
theorem plc_range (u : Int) (o : List Int) (t : Int) (hm : Mot u o) (hk : 0 ≤ t ∧ t ≤ 100000) : -200 ≤ plc u o t ∧ plc u o t ≤ 5000200 := by
  obtain ⟨hu0, hu1, hl0, hl1, hos⟩ := hm
  have h1 := hos _ (cg_lt o (by omega) t)
  have hp1 : 0 ≤ t * u := Int.mul_nonneg (by omega) (by omega)
  have hp2 : t * u ≤ 100000 * 50 := Int.mul_le_mul (by omega) hu1 (by omega) (by omega)
  have e : cg o t = gi o (t % (o.length : Int)).toNat := rfl
  unfold plc
  omega
theorem cg_neg (o : List Int) (h : 0 < o.length) : cg o (-1) = cg o ((o.length - 1 : Nat) : Int) := by
  have := cg_add o (-1) 1
  simp only [Int.one_mul] at this
  rw [← this]; congr 1; omega

set_option maxHeartbeats 400000 in
set_option maxRecDepth 100000 in
theorem c107 (u : Int) (q : Option Addr) (cap : Nat) (o : List Int) (t : Int) (w : World) (hx : RdI w q o) (hm : Mot u o) (hk : -1 ≤ t ∧ t ≤ 10000) :
    Calls Tryz.prog 107 #[.agg #[.int .i64 u, .slice q o.length cap], .int .i64 t] w fun e w' => e = .returned (.int .i64 (spd u o t)) ∧ Below w.heap.size w w' := by
  have hm' := hm
  obtain ⟨hu0, hu1, hl0, hl1, hos⟩ := hm
  obtain ⟨w0, e0, HS, k0, k1, b0⟩ := box2 w (.int .i64 u) (.slice q o.length cap) 61
  have HX := Lib.hid (hx.below b0)
  have HM := Lib.hid hm'
  clear hx hm' hos
  rcases Int.lt_or_le t 0 with h | h
  · obtain rfl : t = -1 := by omega
    have HP := Lib.hid (show spd u o (-1) = plc u o (((o.length - 1 : Nat) : Int) + 1) - plc u o ((o.length - 1 : Nat) : Int) by
      have e := plc_succ u o ((o.length - 1 : Nat) : Int)
      have e2 := spd_turn u o (-1)
      rw [show (-1 + (o.length : Int)) = ((o.length - 1 : Nat) : Int) by omega] at e2
      omega)
    have en : -1 + (o.length : Int) = ((o.length - 1 : Nat) : Int) := by omega
    go_enter Tryz.func107, Tryz.ntmps107
    go_wp2
    clear e0
    have r1 := plc_range u o (((o.length - 1 : Nat) : Int) + 1) HM.out (by omega)
    have r2 := plc_range u o ((o.length - 1 : Nat) : Int) HM.out (by omega)
    refine wp_region_quiet_below (by kernel_rfl) (by kernel_rfl) ?_; (repeat (first | ((with_reducible refine wq_lda ag61 sz61 ?_ ?_ ?_ (fun _ hbq => bcells2 k0 k1 hbq) ?_); (focus rfl); (focus rfl); (focus rfl); go_frame) | (rw [en]) | ((with_reducible apply wq_ix Tryz.underlying24 sz3); (focus rfl); (focus rfl); (focus rfl); (focus omega); (try simp only [Nat.mul_one]); go_frame) | ((with_reducible apply wq_ix Tryz.underlying37 sz50); (focus rfl); (focus rfl); (focus rfl); (focus omega); (try simp only [Nat.mul_one]); go_frame) | ((with_reducible apply wq_ix Tryz.underlying35 sz47); (focus rfl); (focus rfl); (focus rfl); (focus omega); (try simp only [Nat.mul_one]); go_frame) | ((with_reducible apply wq_ix Tryz.underlying90 sz24); (focus rfl); (focus rfl); (focus rfl); (focus omega); (try simp only [Nat.mul_one]); go_frame) | ((with_reducible apply wq_ld ag3); (focus rfl); (focus rfl); (focus (intro _ hbq; first | fail)); go_frame) | ((with_reducible apply wq_ld ag24); (focus rfl); (focus rfl); (focus (intro _ hbq; first | fail)); go_frame) | ((with_reducible apply wq_ld ag37); (focus rfl); (focus rfl); (focus (intro _ hbq; first | fail)); go_frame) | ((with_reducible apply wq_ld ag90); (focus rfl); (focus rfl); (focus (intro _ hbq; first | fail)); go_frame) | ((with_reducible apply wq_ld ag35); (focus rfl); (focus rfl); (focus (intro _ hbq; first | fail)); go_frame) | ((with_reducible apply wq_add); (focus rfl); (focus rfl); (focus rfl); (focus omega); (focus omega); go_frame) | ((with_reducible apply wq_sub); (focus rfl); (focus rfl); (focus rfl); (focus omega); (focus omega); go_frame) | ((with_reducible apply wq_mul); (focus rfl); (focus rfl); (focus rfl); (focus omega); (focus omega); go_frame) | ((with_reducible apply wq_rem); (focus rfl); (focus rfl); (focus rfl); (focus omega); (focus omega); go_frame) | ((with_reducible apply wq_eql); (focus rfl); (focus rfl); (focus rfl); go_frame) | ((with_reducible apply wq_neq); (focus rfl); (focus rfl); (focus rfl); go_frame) | ((with_reducible apply wq_lss); (focus rfl); (focus rfl); (focus rfl); go_frame) | ((with_reducible apply wq_leq); (focus rfl); (focus rfl); (focus rfl); go_frame) | ((with_reducible apply wq_gtr); (focus rfl); (focus rfl); (focus rfl); go_frame) | ((with_reducible apply wq_geq); (focus rfl); (focus rfl); (focus rfl); go_frame) | ((with_reducible apply wq_max2); (focus rfl); (focus rfl); (focus rfl); go_frame) | ((with_reducible apply wq_min2); (focus rfl); (focus rfl); (focus rfl); go_frame) | ((with_reducible apply wq_max3); (focus rfl); (focus rfl); (focus rfl); (focus rfl); go_frame) | ((with_reducible apply wq_min3); (focus rfl); (focus rfl); (focus rfl); (focus rfl); go_frame) | ((with_reducible apply wq_neq50); (focus rfl); (focus rfl); (focus rfl); go_frame) | go_big_quiet_step ((intro hbq; exact calls_below hbq (c108i u q cap o _ _ (HX.out.below hbq) HM.out (by omega)))))); refine wpQuiet_nil ?_; intro wq hbq
    go_wp2
    go_ret
    exact ⟨by rw [HP.out]; rfl, b0.trans (hbq.mono b0.size)⟩
  · have HP := Lib.hid (show spd u o t = plc u o (t + 1) - plc u o t by have e := plc_succ u o t; omega)
    have r1 := plc_range u o (t + 1) HM.out (by omega)
    have r2 := plc_range u o t HM.out (by omega)
    go_enter Tryz.func107, Tryz.ntmps107
    go_wp2
    clear e0
    refine wp_region_quiet_below (by kernel_rfl) (by kernel_rfl) ?_; (repeat (first | ((with_reducible refine wq_lda ag61 sz61 ?_ ?_ ?_ (fun _ hbq => bcells2 k0 k1 hbq) ?_); (focus rfl); (focus rfl); (focus rfl); go_frame) | ((with_reducible apply wq_ix Tryz.underlying24 sz3); (focus rfl); (focus rfl); (focus rfl); (focus omega); (try simp only [Nat.mul_one]); go_frame) | ((with_reducible apply wq_ix Tryz.underlying37 sz50); (focus rfl); (focus rfl); (focus rfl); (focus omega); (try simp only [Nat.mul_one]); go_frame) | ((with_reducible apply wq_ix Tryz.underlying35 sz47); (focus rfl); (focus rfl); (focus rfl); (focus omega); (try simp only [Nat.mul_one]); go_frame) | ((with_reducible apply wq_ix Tryz.underlying90 sz24); (focus rfl); (focus rfl); (focus rfl); (focus omega); (try simp only [Nat.mul_one]); go_frame) | ((with_reducible apply wq_ld ag3); (focus rfl); (focus rfl); (focus (intro _ hbq; first | fail)); go_frame) | ((with_reducible apply wq_ld ag24); (focus rfl); (focus rfl); (focus (intro _ hbq; first | fail)); go_frame) | ((with_reducible apply wq_ld ag37); (focus rfl); (focus rfl); (focus (intro _ hbq; first | fail)); go_frame) | ((with_reducible apply wq_ld ag90); (focus rfl); (focus rfl); (focus (intro _ hbq; first | fail)); go_frame) | ((with_reducible apply wq_ld ag35); (focus rfl); (focus rfl); (focus (intro _ hbq; first | fail)); go_frame) | ((with_reducible apply wq_add); (focus rfl); (focus rfl); (focus rfl); (focus omega); (focus omega); go_frame) | ((with_reducible apply wq_sub); (focus rfl); (focus rfl); (focus rfl); (focus omega); (focus omega); go_frame) | ((with_reducible apply wq_mul); (focus rfl); (focus rfl); (focus rfl); (focus omega); (focus omega); go_frame) | ((with_reducible apply wq_rem); (focus rfl); (focus rfl); (focus rfl); (focus omega); (focus omega); go_frame) | ((with_reducible apply wq_eql); (focus rfl); (focus rfl); (focus rfl); go_frame) | ((with_reducible apply wq_neq); (focus rfl); (focus rfl); (focus rfl); go_frame) | ((with_reducible apply wq_lss); (focus rfl); (focus rfl); (focus rfl); go_frame) | ((with_reducible apply wq_leq); (focus rfl); (focus rfl); (focus rfl); go_frame) | ((with_reducible apply wq_gtr); (focus rfl); (focus rfl); (focus rfl); go_frame) | ((with_reducible apply wq_geq); (focus rfl); (focus rfl); (focus rfl); go_frame) | ((with_reducible apply wq_max2); (focus rfl); (focus rfl); (focus rfl); go_frame) | ((with_reducible apply wq_min2); (focus rfl); (focus rfl); (focus rfl); go_frame) | ((with_reducible apply wq_max3); (focus rfl); (focus rfl); (focus rfl); (focus rfl); go_frame) | ((with_reducible apply wq_min3); (focus rfl); (focus rfl); (focus rfl); (focus rfl); go_frame) | ((with_reducible apply wq_neq50); (focus rfl); (focus rfl); (focus rfl); go_frame) | go_big_quiet_step ((intro hbq; exact calls_below hbq (c108i u q cap o _ _ (HX.out.below hbq) HM.out (by omega)))))); refine wpQuiet_nil ?_; intro wq hbq
    go_wp2
    go_ret
    exact ⟨by rw [HP.out]; rfl, b0.trans (hbq.mono b0.size)⟩
end Go.Proofs.YtncfgkhbenmpoaaGreatDoor
end

section
namespace Go.Proofs.YtncfgkhbenmpoaaGreatDoor
open Go Go.RowKit Go.Proofs
set_option linter.unusedVariables false
attribute [local go_sem] imax2 imin2

def ofs (xs : List Int) : Bool := xs.all fun x => inB x (-200) 200
def motB (u : Int) (o : List Int) : Bool := inB u 1 50 && inB o.length 3 24 && ofs o

def OfsTo (xs : List Int) (k : Nat) : Prop := ∀ j, j < k → inB (gi xs j) (-200) 200 = true
theorem OfsTo.succ {xs : List Int} {k : Nat} (h : OfsTo xs k) (hb : inB (gi xs k) (-200) 200 = true) : OfsTo xs (k + 1) := by
  intro j hj
  by_cases hk : j < k
  · exact h j hk
  · obtain rfl : j = k := by omega
    exact hb
theorem ofs_iff (xs : List Int) : OfsTo xs xs.length ↔ ofs xs = true := by
  unfold ofs OfsTo
  rw [List.all_eq_true]
  constructor
  · intro h x hx
    obtain ⟨j, hj, rfl⟩ := List.mem_iff_getElem.1 hx
    have := h j hj
    unfold gi at this
    simpa [hj] using this
  · intro h j hj
    exact h _ (gi_mem xs j hj)
theorem ofs_false {xs : List Int} {j : Nat} (hj : j < xs.length) (h : inB (gi xs j) (-200) 200 = false) : ofs xs = false := by
  cases hh : ofs xs with
  | false => rfl
  | true => rw [(ofs_iff xs).2 hh j hj] at h; cases h
theorem motB_mot {u : Int} {o : List Int} (h : motB u o = true) : Mot u o := by
  unfold motB at h
  simp only [Bool.and_eq_true] at h
  obtain ⟨⟨h1, h2⟩, h3⟩ := h
  unfold inB at h1 h2
  simp only [Bool.and_eq_true, decide_eq_true_eq] at h1 h2
  refine ⟨h1.1, h1.2, by omega, by omega, fun i hi => ?_⟩
  have := (ofs_iff o).2 h3 i hi
  unfold inB at this
  simpa using this

def BadO (xs : List Int) (r : Int) : Prop := (r = -1 ∧ OfsTo xs xs.length) ∨ (0 ≤ r ∧ ∃ j, j < xs.length ∧ inB (gi xs j) (-200) 200 = false)
def BadOPost (xs : List Int) (w : World) (e : Ending) (w' : World) : Prop := ∃ r : Int, BadO xs r ∧ e = .returned (.int .i64 r) ∧ w = w'

set_option maxRecDepth 100000 in
theorem c150o (p : Option Addr) (cap : Nat) (xs : List Int) (w : World) (hx : RdI w p xs) (hl : xs.length ≤ 17592186044416) :
    Calls Tryz.prog 150 #[.slice p xs.length cap, .func (.func 141) #[] #[]] w (BadOPost xs w) := by
  go_enter Tryz.func150, Tryz.ntmps150
  go_wp2
  go_loop [8] (fun i => ∃ k : Nat, k ≤ xs.length ∧ i = .int .i64 k ∧ OfsTo xs k) (fun i => xs.length - (intOf i).toNat)
  case atStart => exact ⟨0, by omega, rfl, fun j hj => by omega⟩
  case round =>
    obtain ⟨k, hk, rfl, hh⟩ := hrel
    have HH := Lib.hid hh
    clear hh
    by_cases hlt : k < xs.length
    · obtain ⟨b, off, rfl, hc⟩ := hx.at hlt
      have h1 := hc k hlt
      clear hc hx
      cases hb : inB (gi xs k) (-200) 200 with
      | true =>
        have HB := Lib.hid hb
        have hnb : (!inB (gi xs k) (-200) 200) = false := by simp [hb]
        clear hb
        go_wp2_with (go_at_call 141; refine (c141 _ _).mono ?_; rintro e w' ⟨rfl, rfl⟩)
        go_round
        case rel => exact ⟨k + 1, by omega, by go_num, HH.out.succ HB.out⟩
        case measure => simp [intOf]; omega
      | false =>
        have HB := Lib.hid hb
        have hnb : (!inB (gi xs k) (-200) 200) = true := by simp [hb]
        clear hb
        go_wp2_with (go_at_call 141; refine (c141 _ _).mono ?_; rintro e w' ⟨rfl, rfl⟩)
        go_ret
        exact ⟨k, .inr ⟨by omega, k, hlt, HB.out⟩, rfl, rfl⟩
    · obtain rfl : k = xs.length := by omega
      go_wp2
      go_ret
      exact ⟨-1, .inl ⟨rfl, HH.out⟩, rfl, rfl⟩
theorem c126o (p : Option Addr) (cap : Nat) (xs : List Int) (w : World) (hx : RdI w p xs) (hl : xs.length ≤ 17592186044416) :
    Calls Tryz.prog 126 #[.slice p xs.length cap, .func (.func 141) #[] #[]] w fun e w' => e = .returned (.bool (!ofs xs)) ∧ w = w' := by
  go_enter Tryz.func126, Tryz.ntmps126
  go_wp2_with fail
  refine (c150o p cap xs w hx hl).mono ?_
  rintro e w' ⟨r, hr, rfl, rfl⟩
  rcases hr with ⟨rfl, hh⟩ | ⟨h0, j, hj, hb⟩
  · have HB := Lib.hid ((ofs_iff xs).1 hh)
    clear hh hx
    go_wp2
    go_ret
    exact ⟨by rw [HB.out]; rfl, rfl⟩
  · have HB := Lib.hid (ofs_false hj hb)
    clear hb hx
    go_wp2
    go_ret
    exact ⟨by rw [HB.out]; simp, rfl⟩

theorem c103 (u : Int) (q : Option Addr) (cap : Nat) (o : List Int) (w : World) (hx : RdI w q o) (hl : o.length ≤ 17592186044416) :
    Calls Tryz.prog 103 #[.agg #[.int .i64 u, .slice q o.length cap]] w fun e w' => e = .returned (.bool (motB u o)) ∧ Below w.heap.size w w' := by
  obtain ⟨w0, e0, HS, k0, k1, b0⟩ := box2 w (.int .i64 u) (.slice q o.length cap) 61
  have HX := Lib.hid (hx.below b0)
  have h90 := c90 u 1 50 w0
  have h90' := c90 o.length 3 24 w0
  have h126 := c126o q cap o w0 HX.out hl
  clear hx
  rcases h1 : inB u 1 50 with _ | _
  · rw [h1] at h90
    have H1 := Lib.hid h1
    clear h1
    go_enter Tryz.func103, Tryz.ntmps103
    go_wp2_with fail
    refine h90.mono ?_
    rintro e w' ⟨rfl, rfl⟩
    clear e0
    go_wp2
    go_ret
    exact ⟨by unfold motB; rw [H1.out]; rfl, b0⟩
  rw [h1] at h90
  have H1 := Lib.hid h1
  clear h1
  rcases h2 : inB o.length 3 24 with _ | _
  · rw [h2] at h90'
    have H2 := Lib.hid h2
    clear h2
    go_enter Tryz.func103, Tryz.ntmps103
    go_wp2_with fail
    refine h90.mono ?_
    rintro e w' ⟨rfl, rfl⟩
    clear e0
    go_wp2_with fail
    refine h90'.mono ?_
    rintro e w' ⟨rfl, rfl⟩
    go_wp2
    go_ret
    exact ⟨by unfold motB; rw [H1.out, H2.out]; rfl, b0⟩
  rw [h2] at h90'
  have H2 := Lib.hid h2
  clear h2
  go_enter Tryz.func103, Tryz.ntmps103
  go_wp2_with fail
  refine h90.mono ?_
  rintro e w' ⟨rfl, rfl⟩
  clear e0
  go_wp2_with fail
  refine h90'.mono ?_
  rintro e w' ⟨rfl, rfl⟩
  go_wp2_with fail
  refine h126.mono ?_
  rintro e w' ⟨rfl, rfl⟩
  go_wp2
  go_ret
  exact ⟨by unfold motB; rw [H1.out, H2.out]; simp, b0⟩

def PlacePost (u : Int) (o : List Int) (t : Int) (w : World) (e : Ending) (w' : World) : Prop :=
  Below w.heap.size w w' ∧ e = .returned (if (motB u o && inB t 0 2000) = true then .tuple #[.int .i64 (plc u o t), .int .i64 0] else .tuple #[.int .i64 0, .int .i64 2])

theorem c53 (u : Int) (q : Option Addr) (cap : Nat) (o : List Int) (t : Int) (w : World) (hx : RdI w q o) (hl : o.length ≤ 17592186044416) :
    Calls Tryz.prog 53 #[.agg #[.int .i64 u, .slice q o.length cap], .int .i64 t] w (PlacePost u o t w) := by
  obtain ⟨w0, e0, HS, k0, k1, b0⟩ := box2 w (.int .i64 u) (.slice q o.length cap) 61
  have HX := Lib.hid (hx.below b0)
  have h103 := c103 u q cap o w0 HX.out hl
  clear hx
  rcases h1 : motB u o with _ | _
  · rw [h1] at h103
    have H1 := Lib.hid h1
    clear h1
    go_enter Tryz.func53, Tryz.ntmps53
    go_wp2_with fail
    refine h103.mono ?_
    rintro e w' ⟨rfl, b1⟩
    have B1 := Lib.hid (b0.trans (b1.mono b0.size))
    clear e0 b0 b1
    go_wp2
    go_ret2
    exact ⟨B1.out, by rw [H1.out]; rfl⟩
  rw [h1] at h103
  have H1 := Lib.hid h1
  clear h1
  rcases h2 : inB t 0 2000 with _ | _
  · have H2 := Lib.hid h2
    clear h2
    go_enter Tryz.func53, Tryz.ntmps53
    go_wp2_with fail
    refine h103.mono ?_
    rintro e w' ⟨rfl, b1⟩
    have B1 := Lib.hid (b0.trans (b1.mono b0.size))
    clear e0 b0 b1
    go_wp2_with fail
    refine (c104 t w').mono ?_
    rw [H2.out]
    rintro e w' ⟨rfl, rfl⟩
    go_wp2
    go_ret2
    exact ⟨B1.out, by rw [H1.out, H2.out]; rfl⟩
  have H2 := Lib.hid h2
  have hr : 0 ≤ t ∧ t ≤ 2000 := by unfold inB at h2; simpa using h2
  clear h2
  go_enter Tryz.func53, Tryz.ntmps53
  go_wp2_with fail
  refine h103.mono ?_
  rintro e w' ⟨rfl, b1⟩
  have B1 := Lib.hid (b0.trans (b1.mono b0.size))
  have j0 := (b1.cell (lt_of_cellq k0)).trans k0
  have j1 := (b1.cell (lt_of_cellq k1)).trans k1
  have HX1 := Lib.hid (HX.out.below b1)
  clear e0 k0 k1 b1
  go_wp2_with fail
  refine (c104 t w').mono ?_
  rw [H2.out]
  rintro e w' ⟨rfl, rfl⟩
  go_wp2_with fail
  refine (c108i u q cap o t w' HX1.out (motB_mot H1.out) (by omega)).mono ?_
  rintro e w2 ⟨rfl, b2⟩
  go_wp2
  go_ret2
  exact ⟨B1.out.trans (b2.mono B1.out.size), by rw [H1.out, H2.out]; rfl⟩
end Go.Proofs.YtncfgkhbenmpoaaGreatDoor
end

section
namespace Go.Proofs.YtncfgkhbenmpoaaGreatDoor
open Go Go.RowKit Go.Proofs
set_option linter.unusedVariables false
attribute [local go_sem] imax2 imin2

def sumTo (xs : List Int) : Nat → Int
  | 0 => 0
  | k + 1 => sumTo xs k + gi xs k
theorem sumTo_range (xs : List Int) (B : Int) (hB : 0 ≤ B) : ∀ k : Nat, (∀ j, j < k → -B ≤ gi xs j ∧ gi xs j ≤ B) → -(k * B) ≤ sumTo xs k ∧ sumTo xs k ≤ k * B := by
  intro k
  induction k with
  | zero => intro _; simp [sumTo]
  | succ k ih =>
    intro h
    have h1 := ih fun j hj => h j (by omega)
    have h2 := h k (by omega)
    simp only [sumTo]
    have e : ((k + 1 : Nat) : Int) * B = k * B + B := by rw [Int.natCast_add, Int.add_mul]; simp
    omega

theorem c114 (p : Option Addr) (cap : Nat) (xs : List Int) (w : World) (hx : RdI w p xs) (hl : xs.length ≤ 1000) (hb : ∀ j, j < xs.length → -1000000 ≤ gi xs j ∧ gi xs j ≤ 1000000) :
    Calls Tryz.prog 114 #[.slice p xs.length cap] w fun e w' => e = .returned (.int .i64 (sumTo xs xs.length)) ∧ w = w' := by
  go_enter Tryz.func114, Tryz.ntmps114
  go_wp2
  go_loop [3, 8] (fun n i => ∃ k : Nat, k ≤ xs.length ∧ i = .int .i64 k ∧ n = .int .i64 (sumTo xs k)) (fun _ i => xs.length - (intOf i).toNat)
  case atStart => exact ⟨0, by omega, rfl, rfl⟩
  case round =>
    obtain ⟨k, hk, rfl, rfl⟩ := hrel
    by_cases hlt : k < xs.length
    · obtain ⟨b, off, rfl, hc⟩ := hx.at hlt
      have e1 := hc k hlt
      have h1 := sumTo_range xs 1000000 (by omega) k fun j hj => hb j (by omega)
      have h2 := hb k hlt
      have h3 : (k : Int) * 1000000 ≤ 1000 * 1000000 := Int.mul_le_mul_of_nonneg_right (by omega) (by omega)
      have HS := Lib.hid (show sumTo xs (k + 1) = sumTo xs k + gi xs k from rfl)
      clear hc
      go_wp2
      go_round
      case rel => exact ⟨k + 1, by omega, by go_num, by rw [HS.out]⟩
      case measure => simp [intOf]; omega
    · obtain rfl : k = xs.length := by omega
      go_wp2
      go_ret
      exact ⟨rfl, rfl⟩

theorem c116 (a b c d : Int) (w : World) :
    Calls Tryz.prog 116 #[.agg #[.int .i64 a, .int .i64 b], .agg #[.int .i64 c, .int .i64 d]] w fun e w' => e = .returned (.bool (decide (b < d))) ∧ Below w.heap.size w w' := by
  go_enter Tryz.func116, Tryz.ntmps116
  go_wp2
  go_ret
  exact ⟨rfl, ((Below.refl _ _).alloc (Nat.le_refl _) _).alloc (by simp) _⟩

def bestTo (ss : List (Int × Int)) : Nat → Int × Int
  | 0 => gs ss 0
  | k + 1 => if (gs ss k).2 < (bestTo ss k).2 then gs ss k else bestTo ss k

/-- what lies there while the best is sought -/
def BI (ss : List (Int × Int)) (w wr : World) (k : Nat) : Prop :=
  wr.heap[w.heap.size]? = some (.cells #[.int .i64 0, .int .i64 0] 131 (0, 0)) ∧ wr.heap[w.heap.size + 1]? = some (.cells #[.int .i64 (bestTo ss k).1, .int .i64 (bestTo ss k).2] 131 (0, 0)) ∧ Below w.heap.size w wr
theorem BI_start (ss : List (Int × Int)) (w : World) : BI ss w ((w.alloc (.cells #[.int .i64 0, .int .i64 0] 131)).alloc (.cells #[.int .i64 (gs ss 0).1, .int .i64 (gs ss 0).2] 131)) 0 := by
  refine ⟨alloc_old _ _ (alloc_new _ _), ?_, (below_alloc1 _ _).alloc (by simp) _⟩
  have := alloc_new (w.alloc (.cells #[.int .i64 0, .int .i64 0] 131)) (.cells #[.int .i64 (gs ss 0).1, .int .i64 (gs ss 0).2] 131)
  simpa [bestTo] using this
theorem BI.on {ss : List (Int × Int)} {w wr w2 : World} {k : Nat} (h : BI ss w wr k) (o : Obj) (hb : Below (wr.alloc o).heap.size (wr.alloc o) w2) :
    w2.heap[w.heap.size]? = some (.cells #[.int .i64 0, .int .i64 0] 131 (0, 0)) ∧ w2.heap[w.heap.size + 1]? = some (.cells #[.int .i64 (bestTo ss k).1, .int .i64 (bestTo ss k).2] 131 (0, 0)) ∧ Below w.heap.size w w2 := by
  obtain ⟨g1, g2, g3⟩ := h
  have s2 := block_lt g2
  exact ⟨(hb.block _ (by simp; omega)).trans (alloc_old _ _ g1), (hb.block _ (by simp; omega)).trans (alloc_old _ _ g2), (g3.alloc g3.size _).trans (hb.mono (by simp; omega))⟩
theorem BI.set {ss : List (Int × Int)} {w w2 : World} {k : Nat} (g1 : w2.heap[w.heap.size]? = some (.cells #[.int .i64 0, .int .i64 0] 131 (0, 0))) (g2 : w2.heap[w.heap.size + 1]? = some (.cells #[.int .i64 (bestTo ss k).1, .int .i64 (bestTo ss k).2] 131 (0, 0)))
    (g3 : Below w.heap.size w w2) (hl : (gs ss k).2 < (bestTo ss k).2) :
    BI ss w ((w2.setCell ⟨w.heap.size + 1, 0, none⟩ (.int .i64 (gs ss k).1)).setCell ⟨w.heap.size + 1, 1, none⟩ (.int .i64 (gs ss k).2)) (k + 1) := by
  have k1 := heap_setCell_same w2 (w.heap.size + 1) 0 _ _ (.int .i64 (gs ss k).1) g2
  have k2 := heap_setCell_same _ (w.heap.size + 1) 1 _ _ (.int .i64 (gs ss k).2) k1
  refine ⟨?_, ?_, (g3.setCell (by show _ ≤ _ + 1; omega) _).setCell (by show _ ≤ _ + 1; omega) _⟩
  · rw [heap_setCell_other _ _ _ _ (by show w.heap.size ≠ _ + 1; omega), heap_setCell_other _ _ _ _ (by show w.heap.size ≠ _ + 1; omega)]; exact g1
  · rw [k2]; simp only [bestTo, if_pos hl]; rfl
def BestPost (ss : List (Int × Int)) (w : World) (e : Ending) (w' : World) : Prop :=
  e = .returned (.agg #[.int .i64 (bestTo ss ss.length).1, .int .i64 (bestTo ss ss.length).2]) ∧ Below w.heap.size w w'

set_option maxHeartbeats 400000 in
set_option maxRecDepth 100000 in
theorem c115 (p : Option Addr) (cap : Nat) (ss : List (Int × Int)) (w : World) (hx : RdS w p ss) (h1 : 1 ≤ ss.length) (hl : ss.length ≤ 1000) :
    Calls Tryz.prog 115 #[.slice p ss.length cap, .func (.func 116) #[] #[]] w (BestPost ss w) := by
  obtain ⟨b, off, rfl, hc⟩ := hx.at (i := 0) (by omega)
  obtain ⟨e1, e2⟩ := hc 0 (by omega)
  rw [Nat.zero_mul, Nat.add_zero] at e1 e2
  have HC := Lib.hid hc
  have hlt : b < w.heap.size := lt_of_cellq e1
  have hlen : (0 : Int) < ss.length := by omega
  clear hc hx
  go_enter Tryz.func115, Tryz.ntmps115
  go_wp2
  have HE := Lib.hid (BI_start ss w)
  generalize (w.alloc (.cells #[.int .i64 0, .int .i64 0] 131)).alloc (.cells #[.int .i64 (gs ss 0).1, .int .i64 (gs ss 0).2] 131) = w0 at *
  clear e1 e2
  go_loopw [13] (fun i wr => ∃ k : Nat, k ≤ ss.length ∧ i = .int .i64 k ∧ BI ss w wr k) (fun i _ => ss.length - (intOf i).toNat)
  case atStart => exact ⟨0, by omega, rfl, HE.out⟩
  case round =>
    obtain ⟨k, hk, rfl, hei⟩ := hrel
    have HI := Lib.hid hei
    obtain ⟨g1, g2, g3⟩ := hei
    have sz := block_lt g2
    have a0 : wr.cell? ⟨w.heap.size + 1, 0, none⟩ = some (.int .i64 (bestTo ss k).1) := (cell_of_row _ _ 0 _ _ _ g2).trans rfl
    have a1 : wr.cell? ⟨w.heap.size + 1, 1, none⟩ = some (.int .i64 (bestTo ss k).2) := (cell_of_row _ _ 1 _ _ _ g2).trans rfl
    clear HE
    by_cases hk2 : k < ss.length
    · obtain ⟨e1, e2⟩ := HC.out k hk2
      have e1 := (g3.cell hlt).trans e1
      have e2 := (g3.cell hlt).trans e2
      clear g1 g2 g3
      by_cases hless : (gs ss k).2 < (bestTo ss k).2
      · have hd := decide_eq_true hless
        go_wp2_with fail
        refine (c116 _ _ _ _ _).mono ?_
        rw [hd]
        rintro e w2 ⟨rfl, b2⟩
        obtain ⟨q1, q2, q3⟩ := HI.out.on _ b2
        have HS := Lib.hid (BI.set q1 q2 q3 hless)
        have f0 := frozen_of_row _ _ 0 _ _ q2
        have f1 := frozen_of_row _ _ 1 _ _ q2
        have c0 : w2.cell? ⟨w.heap.size + 1, 0, none⟩ = some (.int .i64 (bestTo ss k).1) := (cell_of_row _ _ 0 _ _ _ q2).trans rfl
        have c1 : w2.cell? ⟨w.heap.size + 1, 1, none⟩ = some (.int .i64 (bestTo ss k).2) := (cell_of_row _ _ 1 _ _ _ q2).trans rfl
        have x0 : w2.cell? ⟨wr.heap.size, 0, none⟩ = some (.int .i64 (gs ss k).1) := (b2.cell (by simp)).trans (at_new _ _ _ _)
        have x1 : w2.cell? ⟨wr.heap.size, 1, none⟩ = some (.int .i64 (gs ss k).2) := (b2.cell (by simp)).trans (at_new _ _ _ _)
        clear q1 q2 q3 b2 hd
        go_wp2
        go_roundw
        case rel => exact ⟨k + 1, by omega, by go_num, HS.out⟩
        case measure => simp [intOf]; omega
      · have hd := decide_eq_false hless
        go_wp2_with fail
        refine (c116 _ _ _ _ _).mono ?_
        rw [hd]
        rintro e w2 ⟨rfl, b2⟩
        obtain ⟨q1, q2, q3⟩ := HI.out.on _ b2
        have HS := Lib.hid (show BI ss w w2 (k + 1) from ⟨q1, by simp only [bestTo, if_neg (Int.not_lt.2 hless)]; exact q2, q3⟩)
        clear q1 q2 q3 b2 hd
        go_wp2
        go_roundw
        case rel => exact ⟨k + 1, by omega, by go_num, HS.out⟩
        case measure => simp [intOf]; omega
    · obtain rfl : k = ss.length := by omega
      have k1 := heap_setCell_same wr w.heap.size 0 _ _ (.int .i64 (bestTo ss ss.length).1) g1
      have k2 := heap_setCell_same _ w.heap.size 1 _ _ (.int .i64 (bestTo ss ss.length).2) k1
      have r0 : _ = some (Value.int .i64 (bestTo ss ss.length).1) := (cell_of_row _ _ 0 _ _ _ k1).trans rfl
      have r1 : _ = some (Value.int .i64 (bestTo ss ss.length).2) := (cell_of_row _ _ 1 _ _ _ k2).trans rfl
      have f0 := frozen_of_row _ _ 0 _ _ g1
      have f1 := frozen_of_row _ _ 1 _ _ g1
      have c0 : wr.cell? ⟨w.heap.size, 0, none⟩ = some (.int .i64 0) := (cell_of_row _ _ 0 _ _ _ g1).trans rfl
      have c1 : wr.cell? ⟨w.heap.size, 1, none⟩ = some (.int .i64 0) := (cell_of_row _ _ 1 _ _ _ g1).trans rfl
      have HB := Lib.hid g3
      clear g1 g2 g3 k1 k2
      go_wp2
      (try simp only [Exit.inBlock, Exit.then])
      refine bodyPost_ret (v := .agg #[.int .i64 (bestTo ss ss.length).1, .int .i64 (bestTo ss ss.length).2]) ?_ rfl ⟨rfl, ?_⟩
      · simp [results, Tryz.results115, go_sem, r0, r1]
      · exact (HB.out.setCell (Nat.le_refl _) _).setCell (Nat.le_refl _) _
end Go.Proofs.YtncfgkhbenmpoaaGreatDoor
end

section
namespace Go.Proofs.YtncfgkhbenmpoaaGreatDoor
open Go Go.RowKit Go.Proofs
set_option linter.unusedVariables false
attribute [local go_sem] imax2 imin2

/-- the greatest sum of so many steps, one cam turned -/
def shTo (xs ys : List Int) (k : Nat) : Nat → Int
  | 0 => 0
  | i + 1 => max (shTo xs ys k i) (gi xs i + gi ys ((i + k) % ys.length))
def shiftF (xs ys : List Int) : List (Int × Int) := (List.range xs.length).map fun (k : Nat) => ((k : Int), shTo xs ys k xs.length)
@[simp] theorem shiftF_length (xs ys : List Int) : (shiftF xs ys).length = xs.length := by simp [shiftF]
theorem shTo_range (xs ys : List Int) (k : Nat) (h1 : camB xs = true) (h2 : camB ys = true) : ∀ i, i ≤ xs.length → 0 ≤ shTo xs ys k i ∧ shTo xs ys k i ≤ 60 := by
  intro i
  induction i with
  | zero => intro _; simp [shTo]
  | succ i ih =>
    intro h
    have a := ih (by omega)
    have b := camB_at h1 (j := i) (by omega)
    have c := camB_at h2 (j := (i + k) % ys.length) (Nat.mod_lt _ (by have := (camB_parts h2).1; omega))
    simp only [shTo]
    omega

/-- what lies there while the sums of one turn are looked through -/
structure SI (wo wr : World) (k n : Int) : Prop where
  at1 : wr.heap[wo.heap.size]? = some (.cells #[.int .i64 k, .int .i64 n] 131 (0, 0))
  bl : Below wo.heap.size wo wr
theorem SI_start (wo : World) (k : Int) : SI wo (wo.alloc (.cells #[.int .i64 k, .int .i64 0] 131)) k 0 := ⟨alloc_new _ _, below_alloc1 _ _⟩
theorem SI.drew {wo wr : World} {k n : Int} (h : SI wo wr k n) : SI wo wr.drew k n := ⟨h.at1, h.bl.drew⟩
theorem SI.alloc {wo wr : World} {k n : Int} (h : SI wo wr k n) (o : Obj) : SI wo (wr.alloc o) k n := ⟨alloc_old _ _ h.at1, h.bl.alloc (by have := block_lt h.at1; omega) _⟩
theorem SI.set {wo wr : World} {k n : Int} (h : SI wo wr k n) (m : Int) : SI wo (wr.setCell ⟨wo.heap.size, 1, none⟩ (.int .i64 m)) k m :=
  ⟨heap_setCell_same wr wo.heap.size 1 _ _ (.int .i64 m) h.at1, h.bl.setCell (Nat.le_refl _) _⟩
theorem SI.fz {wo wr : World} {k n : Int} (h : SI wo wr k n) : wr.frozen? ⟨wo.heap.size, 1, none⟩ = false := frozen_of_row _ _ 1 _ _ h.at1
theorem rd2 (w : World) (x y : Int) (t : TypeId) : RdI (w.alloc (.cells #[.int .i64 x, .int .i64 y] t)) (some ⟨w.heap.size, 0, none⟩) [x, y] := by
  refine .inr ⟨w.heap.size, 0, rfl, fun i hi => ?_⟩
  rw [Nat.zero_add, at_new]
  match i, hi with
  | 0, _ => rfl
  | 1, _ => rfl
theorem own_kept {w w' : World} {B e size n : Nat} {v : Value} {xs : List Value} (h : w.ownsRow B e size v n xs) (hb : Below w.heap.size w w') : w'.ownsRow B e size v n xs :=
  h.kept (row := none) ⟨hb.os, hb.tape, hb.output, hb.size, fun k hk _ => hb.block k hk⟩ (by cases v.ownBlock <;> simp)
theorem shiftF_take (xs ys : List Int) (k : Nat) (h : k < xs.length) : spV ((shiftF xs ys).take (k + 1)) = spV ((shiftF xs ys).take k) ++ [.int .i64 k, .int .i64 (shTo xs ys k xs.length)] := by
  rw [List.take_succ_eq_append_getElem (by simpa using h), spV_append]
  congr 1
  unfold shiftF; simp; rfl
theorem rds_of_ownE {w : World} {base E : Nat} {v : Value} {ss : List (Int × Int)} (h : w.ownsRow base E 2 v ss.length (spV ss)) :
    ∃ p cap, v = .slice p ss.length cap ∧ RdS w p ss := by
  rcases h.2 with ⟨rfl, h0⟩ | ⟨g, cap, cur, rfl, hb, hg, hnc, hcm, hsz, htk⟩
  · have : ss = [] := List.length_eq_zero_iff.1 h0
    subst this
    exact ⟨none, 0, rfl, .inl rfl⟩
  · refine ⟨some ⟨g, 0, none⟩, cap, rfl, .inr ⟨g, 0, rfl, fun i hi => ?_⟩⟩
    obtain ⟨e1, e2⟩ := spV_get ss i hi
    have h1 := h.cells (g := g) rfl _ _ e1
    have h2 := h.cells (g := g) rfl _ _ e2
    have hadd : ∀ j, (⟨g, 0, none⟩ : Addr).add j = ⟨g, 0 + j, none⟩ := fun j => by unfold Addr.add; split <;> simp_all
    rw [hadd] at h1 h2
    exact ⟨h1, by rw [show 0 + i * 2 + 1 = 0 + (i * 2 + 1) by omega]; exact h2⟩
theorem sum2 (x y : Int) : sumTo [x, y] 2 = x + y := by simp [sumTo, gi]

theorem info131 : (Tryz.prog.info? 131).map (fun i => (i.zero, i.size, i.bytes)) = some (some (.agg #[.int .i64 0, .int .i64 0]), 2, 16) := by kernel_rfl

set_option maxHeartbeats 1000000 in
set_option maxRecDepth 100000 in
theorem c59_ok (p : Option Addr) (cap : Nat) (xs : List Int) (q : Option Addr) (cap' : Nat) (ys : List Int) (w : World) (hx : RdI w p xs) (hy : RdI w q ys) (h1 : camB xs = true) (h2 : camB ys = true) (h3 : xs.length = ys.length) :
    Calls Tryz.prog 59 #[.slice p xs.length cap, .slice q ys.length cap'] w fun e w' => e = .returned (.tuple #[.int .i64 (bestTo (shiftF xs ys) xs.length).1, .int .i64 (bestTo (shiftF xs ys) xs.length).2, .int .i64 0]) ∧ Below w.heap.size w w' := by
  have h113 := c113 p cap xs q cap' ys w hx (by have := (camB_parts h1).2.1; omega) hy (by have := (camB_parts h2).2.1; omega)
  rw [h1, h2, decide_eq_true h3] at h113
  have HX := Lib.hid hx
  have HY := Lib.hid hy
  have H1 := Lib.hid h1
  have H2 := Lib.hid h2
  have hl3 := (camB_parts h1).1
  have hl24 := (camB_parts h1).2.1
  obtain ⟨i0, hi0, hz0, hz1, hz2⟩ := info_parts info131
  have H3 := Lib.hid h3
  have hyl3 := (camB_parts H2.out).1
  clear hx hy h1 h2 h3
  go_enter Tryz.func59, Tryz.ntmps59
  go_wp2_with fail
  refine h113.mono ?_
  rintro e w' ⟨rfl, rfl⟩
  simp only [Bool.and_self]
  go_wp2
  go_loopw [7, 19] (fun v i wr => ∃ k : Nat, k ≤ xs.length ∧ i = .int .i64 k ∧ wr.ownsRow w.heap.size 131 2 v k (spV ((shiftF xs ys).take k)) ∧ Below w.heap.size w wr) (fun _ i _ => xs.length - (intOf i).toNat)
  case atStart => exact ⟨0, by omega, rfl, World.ownsRow_nil _ _ _ _, Below.refl _ _⟩
  case round =>
    obtain ⟨k, hk, rfl, hown, hnx⟩ := hrel
    have HO := Lib.hid hown
    have HN := Lib.hid hnx
    clear hown hnx
    by_cases hlt : k < xs.length
    · go_wp2
      obtain ⟨wo, rfl⟩ : ∃ wo : World, wo = wr := ⟨_, rfl⟩
      have HS := Lib.hid (SI_start wo k)
      generalize wo.alloc (.cells #[.int .i64 k, .int .i64 0] 131) = w0 at *
      go_loopw [26] (fun z w2 => ∃ i : Nat, i ≤ xs.length ∧ z = .int .i64 i ∧ SI wo w2 k (shTo xs ys k i)) (fun z _ => xs.length - (intOf z).toNat)
      case atStart => exact ⟨0, by omega, rfl, HS.out⟩
      case round =>
        obtain ⟨i, hi, rfl, hsi⟩ := hrel
        obtain ⟨s1, s2⟩ := hsi
        have s2 : Below wo.heap.size wo wr := s2
        have hrg := shTo_range xs ys k H1.out H2.out i hi
        have B0 : wr.cell? ⟨wo.heap.size, 0, none⟩ = some (.int .i64 k) := (cell_of_row _ _ 0 _ _ _ s1).trans rfl
        have B1 : wr.cell? ⟨wo.heap.size, 1, none⟩ = some (.int .i64 (shTo xs ys k i)) := (cell_of_row _ _ 1 _ _ _ s1).trans rfl
        by_cases hi2 : i < xs.length
        · obtain ⟨b, off, rfl, hc⟩ := HX.out.at hi2
          have hmd := Nat.mod_lt (i + k) (show 0 < ys.length by omega)
          obtain ⟨b', off', rfl, hc'⟩ := HY.out.at hmd
          have e1 := hc i hi2
          have e2 := hc' _ hmd
          have bb := lt_of_cellq e1
          have bb' := lt_of_cellq e2
          simp only at bb bb'
          have hsz := HN.out.size
          have e1 := (s2.cell (p := ⟨b, off + i, none⟩) (by show b < _; omega)).trans ((HN.out.cell (p := ⟨b, off + i, none⟩) (by show b < _; omega)).trans e1)
          have e2 := (s2.cell (p := ⟨b', off' + (i + k) % ys.length, none⟩) (by show b' < _; omega)).trans ((HN.out.cell (p := ⟨b', off' + (i + k) % ys.length, none⟩) (by show b' < _; omega)).trans e2)
          have r1 := camB_at H1.out hi2
          have r2 := camB_at H2.out hmd
          have HM : ((i : Int) + (k : Int)) % (ys.length : Int) = (((i + k) % ys.length : Nat) : Int) := by rw [Int.natCast_emod]; rfl
          have HSTEP := Lib.hid (show shTo xs ys k (i + 1) = max (shTo xs ys k i) (gi xs i + gi ys ((i + k) % ys.length)) from rfl)
          clear hc hc'
          generalize (i + k) % ys.length = m at *
          have hsum : ∀ W : World, W.cell? ⟨wr.heap.size, 0, none⟩ = some (.int .i64 (gi xs i)) → W.cell? ⟨wr.heap.size, 1, none⟩ = some (.int .i64 (gi ys m)) →
              Calls Tryz.prog 114 #[.slice (some ⟨wr.heap.size, 0, none⟩) 2 2] W fun e w' => e = .returned (.int .i64 (gi xs i + gi ys m)) ∧ W = w' := by
            intro W h0 h1
            have := c114 (some ⟨wr.heap.size, 0, none⟩) 2 [gi xs i, gi ys m] W (.inr ⟨wr.heap.size, 0, rfl, fun j hj => by match j, hj with | 0, _ => exact h0 | 1, _ => exact h1⟩) (by simp)
              (by intro j hj; match j, hj with | 0, _ => exact ⟨by show _ ≤ gi xs i; omega, by show gi xs i ≤ _; omega⟩ | 1, _ => exact ⟨by show _ ≤ gi ys m; omega, by show gi ys m ≤ _; omega⟩)
            rw [show [gi xs i, gi ys m].length = 2 from rfl, sum2] at this
            exact this
          have HSUM := Lib.hid hsum
          have HSI := Lib.hid (show SI wo wr k (shTo xs ys k i) from ⟨s1, s2⟩)
          have FZ := HSI.out.fz
          have hwlt := block_lt s1
          clear hsum s1 s2
          go_upto_region 11 with (fail)
          have hw1 : IntKind.i64.wrap ((i : Int) + (k : Int)) = (i : Int) + (k : Int) := w64 _ (by omega) (by omega)
          have hw2 : ((i : Int) + (k : Int)).tmod (ys.length : Int) = (m : Int) := by rw [Int.tmod_eq_emod_of_nonneg (by omega)]; exact HM
          have hw3 : (m : Int) < (ys.length : Int) := by omega
          have hw4 : (0 : Int) ≤ (m : Int) := by omega
          have hyn : ys ≠ [] := by intro h; rw [h] at hyl3; simp at hyl3
          have hyn2 : ¬ ((ys.length : Int) = 0) := by omega
          have hyn3 : ¬ (ys.length = 0) := by omega
          clear HM
          go_region_with (first | (go_at_call 114; refine (HSUM.out _ (by simp) (by simp)).mono ?_; rintro e w' ⟨rfl, rfl⟩))
          all_goals
            clear HSUM
            go_wp2
            go_roundw
            case rel =>
              refine ⟨i + 1, by omega, by go_num, ?_⟩
              rw [HSTEP.out]
              repeat (first | exact (HSI.out.set _) | refine SI.drew ?_ | refine SI.alloc ?_ _)
            case measure => simp [intOf]; omega
        · obtain rfl : i = xs.length := by omega
          have hHO := HO.out
          have HO2 := Lib.hid (own_kept HO.out s2)
          have HN2 := Lib.hid (HN.out.trans (s2.mono HN.out.size))
          have hsz := HN2.out.size
          clear hHO HO HN s1
          go_wp2_with (at_builtin; refine wpList_append_own _ rfl _ _ 129 rfl w.heap.size 131 i0 _ 2 16 Tryz.underlying129 hi0 hz0 hz1 hz2 rfl (by decide) _ _ _ rfl (HO2.out.alloc _) ⟨wr.heap.size, 0, none⟩ 1 1 [.int .i64 k, .int .i64 (shTo xs ys k xs.length)] rfl rfl ?c1 ?c2 ?c3 ?c4 ?c5 ?_)
          case c1 => exact news_of _ _ _
          case c2 => intro u hu; simp at hu; rcases hu with rfl | rfl <;> rfl
          case c3 => unfold maxLen; omega
          case c4 => omega
          case c5 => simp; omega
          intro v' w1 hown' hgrow _
          have hlt' := HO2.out.lt
          have HN' := Lib.hid (HN2.out.trans (((Below.refl w.heap.size wr).alloc HN2.out.size _).grown hgrow (by simp; omega) (fun j hj => (hlt' j hj).1)))
          have HO' := Lib.hid hown'
          clear hown' hgrow hlt'
          go_wp2
          go_roundw
          case rel =>
            refine ⟨k + 1, by omega, by go_num, ?_, HN'.out⟩
            have := HO'.out
            rw [shiftF_take xs ys k hlt]
            exact this
          case measure => simp [intOf]; omega
    · obtain rfl : k = xs.length := by omega
      have hown := HO.out
      rw [List.take_of_length_le (by simp)] at hown
      have hown : wr.ownsRow w.heap.size 131 2 u7 (shiftF xs ys).length (spV (shiftF xs ys)) := by rw [shiftF_length]; exact hown
      obtain ⟨pp, cc, rfl, hrd⟩ := rds_of_ownE hown
      have h115 := c115 pp cc (shiftF xs ys) wr hrd (by simp; omega) (by simp; omega)
      simp only [shiftF_length] at h115
      have HB := Lib.hid HN.out
      clear hown hrd HO HN h113
      simp only [shiftF_length]
      go_wp2_with fail
      refine h115.mono ?_
      rintro e w2 ⟨rfl, b2⟩
      have HB2 := Lib.hid (HB.out.trans (b2.mono HB.out.size))
      clear h115 b2 HB
      have j0 : (w2.alloc (.cells #[.int .i64 (bestTo (shiftF xs ys) xs.length).1, .int .i64 (bestTo (shiftF xs ys) xs.length).2] 131)).cell? ⟨w2.heap.size, 0, none⟩ = some (.int .i64 (bestTo (shiftF xs ys) xs.length).1) := at_new _ _ _ _
      have j1 : (w2.alloc (.cells #[.int .i64 (bestTo (shiftF xs ys) xs.length).1, .int .i64 (bestTo (shiftF xs ys) xs.length).2] 131)).cell? ⟨w2.heap.size, 1, none⟩ = some (.int .i64 (bestTo (shiftF xs ys) xs.length).2) := at_new _ _ _ _
      have HB3 := Lib.hid (HB2.out.alloc HB2.out.size (.cells #[.int .i64 (bestTo (shiftF xs ys) xs.length).1, .int .i64 (bestTo (shiftF xs ys) xs.length).2] 131))
      go_upto_region 16 with (fail)
      generalize w2.alloc (.cells #[.int .i64 (bestTo (shiftF xs ys) xs.length).1, .int .i64 (bestTo (shiftF xs ys) xs.length).2] 131) = w3 at *
      refine wp_region_quiet_lit (by kernel_rfl) (by kernel_rfl) ?_; (repeat (first | ((with_reducible apply wq_ix Tryz.underlying24 sz3); (focus rfl); (focus rfl); (focus rfl); (focus omega); (try simp only [Nat.mul_one]); go_frame) | ((with_reducible apply wq_ix Tryz.underlying37 sz50); (focus rfl); (focus rfl); (focus rfl); (focus omega); (try simp only [Nat.mul_one]); go_frame) | ((with_reducible apply wq_ix Tryz.underlying35 sz47); (focus rfl); (focus rfl); (focus rfl); (focus omega); (try simp only [Nat.mul_one]); go_frame) | ((with_reducible apply wq_ix Tryz.underlying90 sz24); (focus rfl); (focus rfl); (focus rfl); (focus omega); (try simp only [Nat.mul_one]); go_frame) | ((with_reducible apply wq_ld ag3); (focus rfl); (focus rfl); (focus (rintro _ ⟨_, rfl⟩; first | exact j0 | exact j1)); go_frame) | ((with_reducible apply wq_ld ag24); (focus rfl); (focus rfl); (focus (rintro _ ⟨_, rfl⟩; first | exact j0 | exact j1)); go_frame) | ((with_reducible apply wq_ld ag37); (focus rfl); (focus rfl); (focus (rintro _ ⟨_, rfl⟩; first | exact j0 | exact j1)); go_frame) | ((with_reducible apply wq_ld ag90); (focus rfl); (focus rfl); (focus (rintro _ ⟨_, rfl⟩; first | exact j0 | exact j1)); go_frame) | ((with_reducible apply wq_ld ag35); (focus rfl); (focus rfl); (focus (rintro _ ⟨_, rfl⟩; first | exact j0 | exact j1)); go_frame) | ((with_reducible apply wq_add); (focus rfl); (focus rfl); (focus rfl); (focus omega); (focus omega); go_frame) | ((with_reducible apply wq_sub); (focus rfl); (focus rfl); (focus rfl); (focus omega); (focus omega); go_frame) | ((with_reducible apply wq_mul); (focus rfl); (focus rfl); (focus rfl); (focus omega); (focus omega); go_frame) | ((with_reducible apply wq_rem); (focus rfl); (focus rfl); (focus rfl); (focus omega); (focus omega); go_frame) | ((with_reducible apply wq_eql); (focus rfl); (focus rfl); (focus rfl); go_frame) | ((with_reducible apply wq_neq); (focus rfl); (focus rfl); (focus rfl); go_frame) | ((with_reducible apply wq_lss); (focus rfl); (focus rfl); (focus rfl); go_frame) | ((with_reducible apply wq_leq); (focus rfl); (focus rfl); (focus rfl); go_frame) | ((with_reducible apply wq_gtr); (focus rfl); (focus rfl); (focus rfl); go_frame) | ((with_reducible apply wq_geq); (focus rfl); (focus rfl); (focus rfl); go_frame) | ((with_reducible apply wq_max2); (focus rfl); (focus rfl); (focus rfl); go_frame) | ((with_reducible apply wq_min2); (focus rfl); (focus rfl); (focus rfl); go_frame) | ((with_reducible apply wq_max3); (focus rfl); (focus rfl); (focus rfl); (focus rfl); go_frame) | ((with_reducible apply wq_min3); (focus rfl); (focus rfl); (focus rfl); (focus rfl); go_frame) | go_big_quiet_step (fail))); refine wpQuiet_nil ?_; rintro _ ⟨nq, rfl⟩
      go_wp2
      go_ret3
      exact ⟨rfl, below_drewN HB3.out _⟩
end Go.Proofs.YtncfgkhbenmpoaaGreatDoor
end

section
namespace Go.Proofs.YtncfgkhbenmpoaaGreatDoor
open Go Go.RowKit Go.Proofs
set_option linter.unusedVariables false
attribute [local go_sem] imax2 imin2

theorem c59_no (p : Option Addr) (cap : Nat) (xs : List Int) (q : Option Addr) (cap' : Nat) (ys : List Int) (w : World) (hx : RdI w p xs) (hl : xs.length ≤ 17592186044416) (hy : RdI w q ys) (hl' : ys.length ≤ 17592186044416)
    (h : (camB xs && camB ys && decide (xs.length = ys.length)) = false) :
    Calls Tryz.prog 59 #[.slice p xs.length cap, .slice q ys.length cap'] w fun e w' => e = .returned (.tuple #[.int .i64 0, .int .i64 0, .int .i64 2]) ∧ w = w' := by
  have h113 := c113 p cap xs q cap' ys w hx hl hy hl'
  rw [h] at h113
  clear h
  go_enter Tryz.func59, Tryz.ntmps59
  go_wp2_with fail
  refine h113.mono ?_
  rintro e w' ⟨rfl, rfl⟩
  go_wp2
  go_ret3
  exact ⟨rfl, rfl⟩

def turnTo (xs ys : List Int) (k n : Nat) : Prop := ∀ i, i < n → gi xs i = gi ys ((i + k) % ys.length)
def TurnedPost (xs ys : List Int) (w : World) (e : Ending) (w' : World) : Prop :=
  w = w' ∧ ((∃ k : Nat, k < xs.length ∧ turnTo xs ys k xs.length ∧ (∀ j, j < k → ¬ turnTo xs ys j xs.length) ∧ e = .returned (.tuple #[.int .i64 k, .int .i64 0])) ∨
    ((∀ j, j < xs.length → ¬ turnTo xs ys j xs.length) ∧ e = .returned (.tuple #[.int .i64 0, .int .i64 5])))

set_option maxHeartbeats 400000 in
set_option maxRecDepth 100000 in
theorem c60_ok (p : Option Addr) (cap : Nat) (xs : List Int) (q : Option Addr) (cap' : Nat) (ys : List Int) (w : World) (hx : RdI w p xs) (hy : RdI w q ys) (h1 : camB xs = true) (h2 : camB ys = true) (h3 : xs.length = ys.length) :
    Calls Tryz.prog 60 #[.slice p xs.length cap, .slice q ys.length cap'] w (TurnedPost xs ys w) := by
  have h113 := c113 p cap xs q cap' ys w hx (by have := (camB_parts h1).2.1; omega) hy (by have := (camB_parts h2).2.1; omega)
  rw [h1, h2, decide_eq_true h3] at h113
  have HX := Lib.hid hx
  have HY := Lib.hid hy
  have H3 := Lib.hid h3
  have hl24 := (camB_parts h1).2.1
  have hl3 := (camB_parts h1).1
  have hyl3 := (camB_parts h2).1
  clear hx hy h1 h2 h3
  go_enter Tryz.func60, Tryz.ntmps60
  go_wp2_with fail
  go_step3
  go_wp2_with fail
  refine h113.mono ?_
  rintro e w' ⟨rfl, rfl⟩
  simp only [Bool.and_self]
  clear h113
  go_wp2
  go_step3
  go_wp2
  go_loop [15] (fun i => ∃ k : Nat, k ≤ xs.length ∧ i = .int .i64 k ∧ Hid (∀ j, j < k → ¬ turnTo xs ys j xs.length)) (fun i => xs.length - (intOf i).toNat)
  case atStart => exact ⟨0, by omega, rfl, Lib.hid (by intro j hj; omega)⟩
  case round =>
    obtain ⟨k, hk, rfl, HN⟩ := hrel
    by_cases hlt : k < xs.length
    · go_wp2
      go_loop [20] (fun z => ∃ i : Nat, i ≤ xs.length ∧ z = .int .i64 i ∧ Hid (turnTo xs ys k i)) (fun z => xs.length - (intOf z).toNat)
      case atStart => exact ⟨0, by omega, rfl, Lib.hid (by intro j hj; omega)⟩
      case round =>
        obtain ⟨i, hi, rfl, HT⟩ := hrel
        by_cases hi2 : i < xs.length
        · obtain ⟨b, off, rfl, hc⟩ := HX.out.at hi2
          have hmd := Nat.mod_lt (i + k) (show 0 < ys.length by omega)
          obtain ⟨b', off', rfl, hc'⟩ := HY.out.at hmd
          have e1 := hc i hi2
          have e2 := hc' _ hmd
          have HM : ((i : Int) + (k : Int)) % (ys.length : Int) = (((i + k) % ys.length : Nat) : Int) := by rw [Int.natCast_emod]; rfl
          have hw2 : ((i : Int) + (k : Int)).tmod (ys.length : Int) = (((i + k) % ys.length : Nat) : Int) := by rw [Int.tmod_eq_emod_of_nonneg (by omega)]; exact HM
          clear hc hc' HM
          by_cases he : gi xs i = gi ys ((i + k) % ys.length)
          · have HE := Lib.hid he
            generalize hmm : (i + k) % ys.length = m at *
            have HMM := Lib.hid hmm
            have hne : (gi xs i != gi ys m) = false := by simp [he]
            clear hmm he
            go_wp2
            go_round
            case rel =>
              refine ⟨i + 1, by omega, by go_num, Lib.hid fun j hj => ?_⟩
              rcases Nat.lt_or_ge j i with h | h
              · exact HT.out j h
              · obtain rfl : j = i := by omega
                rw [HMM.out]; exact HE.out
            case measure => simp [intOf]; omega
          · have HE := Lib.hid he
            generalize hmm : (i + k) % ys.length = m at *
            have HMM := Lib.hid hmm
            have hne : (gi xs i != gi ys m) = true := by simp [he]
            clear hmm he
            go_wp2
            go_round
            case rel =>
              refine ⟨k + 1, by omega, by go_num, Lib.hid fun j hj => ?_⟩
              rcases Nat.lt_or_ge j k with h | h
              · exact HN.out j h
              · obtain rfl : j = k := by omega
                intro ht
                have := ht i hi2
                rw [HMM.out] at this
                exact HE.out this
            case measure => simp [intOf]; omega
        · obtain rfl : i = xs.length := by omega
          go_wp2
          go_ret2
          exact ⟨rfl, .inl ⟨k, hlt, HT.out, HN.out, rfl⟩⟩
    · obtain rfl : k = xs.length := by omega
      go_wp2
      go_ret2
      exact ⟨rfl, .inr ⟨HN.out, rfl⟩⟩
end Go.Proofs.YtncfgkhbenmpoaaGreatDoor
end

section
namespace Go.Proofs.YtncfgkhbenmpoaaGreatDoor
open Go Go.RowKit Go.Proofs
set_option linter.unusedVariables false
attribute [local go_sem] imax2 imin2

theorem drew_add (w : World) (m n : Nat) : (w.drewN m).drewN n = w.drewN (m + n) := by simp [World.drewN, Nat.add_assoc]
theorem gi_ext {xs ys : List Int} (hl : xs.length = ys.length) (h : ∀ j, j < xs.length → gi xs j = gi ys j) : xs = ys := by
  apply List.ext_getElem hl
  intro i h1 h2
  have := h i h1
  unfold gi at this
  simpa [h1, h2] using this

set_option maxHeartbeats 400000 in
set_option maxRecDepth 100000 in
theorem c30 (p : Option Addr) (cap : Nat) (xs : List Int) (q : Option Addr) (cap' : Nat) (ys : List Int) (w : World) (hx : RdI w p xs) (hy : RdI w q ys) (hl : xs.length ≤ 1000000) :
    Calls Tryz.prog 30 #[.slice p xs.length cap, .slice q ys.length cap'] w fun e w' => e = .returned (.bool (decide (xs = ys))) ∧ ∃ n, w' = w.drewN n := by
  by_cases h3 : xs.length = ys.length
  · have HL := Lib.hid h3
    have h3' : ((xs.length : Int) != (ys.length : Int)) = false := by simp [h3]
    clear h3
    go_enter Tryz.func30, Tryz.ntmps30
    go_wp2
    go_loopw [5] (fun i wr => ∃ k : Nat, k ≤ xs.length ∧ i = .int .i64 k ∧ Hid (∀ j, j < k → gi xs j = gi ys j) ∧ ∃ m, wr = w.drewN m) (fun i _ => xs.length - (intOf i).toNat)
    case atStart => exact ⟨0, by omega, rfl, Lib.hid (by intro j hj; omega), 0, by rfl⟩
    case round =>
      obtain ⟨k, hk, rfl, HK, m, rfl⟩ := hrel
      by_cases hlt : k < xs.length
      · obtain ⟨b, off, rfl, hc⟩ := hx.at hlt
        have hlt2 : k < ys.length := by have := HL.out; omega
        obtain ⟨b', off', rfl, hc'⟩ := hy.at hlt2
        have h1 := hc k hlt
        have h2 := hc' k hlt2
        clear hc hx hc' hy
        by_cases he : gi xs k = gi ys k
        · have HE := Lib.hid he
          have he' : (gi xs k != gi ys k) = false := by simp [he]
          clear he
          go_wp2
          refine wp_region_quiet_lit (by kernel_rfl) (by kernel_rfl) ?_; (repeat (first | ((with_reducible apply wq_ix Tryz.underlying24 sz3); (focus rfl); (focus rfl); (focus rfl); (focus omega); (try simp only [Nat.mul_one]); go_frame) | ((with_reducible apply wq_ix Tryz.underlying37 sz50); (focus rfl); (focus rfl); (focus rfl); (focus omega); (try simp only [Nat.mul_one]); go_frame) | ((with_reducible apply wq_ix Tryz.underlying35 sz47); (focus rfl); (focus rfl); (focus rfl); (focus omega); (try simp only [Nat.mul_one]); go_frame) | ((with_reducible apply wq_ix Tryz.underlying90 sz24); (focus rfl); (focus rfl); (focus rfl); (focus omega); (try simp only [Nat.mul_one]); go_frame) | ((with_reducible apply wq_ld ag3); (focus rfl); (focus rfl); (focus (rintro _ ⟨_, rfl⟩; first | exact h1 | exact h2)); go_frame) | ((with_reducible apply wq_ld ag24); (focus rfl); (focus rfl); (focus (rintro _ ⟨_, rfl⟩; first | exact h1 | exact h2)); go_frame) | ((with_reducible apply wq_ld ag37); (focus rfl); (focus rfl); (focus (rintro _ ⟨_, rfl⟩; first | exact h1 | exact h2)); go_frame) | ((with_reducible apply wq_ld ag90); (focus rfl); (focus rfl); (focus (rintro _ ⟨_, rfl⟩; first | exact h1 | exact h2)); go_frame) | ((with_reducible apply wq_ld ag35); (focus rfl); (focus rfl); (focus (rintro _ ⟨_, rfl⟩; first | exact h1 | exact h2)); go_frame) | ((with_reducible apply wq_add); (focus rfl); (focus rfl); (focus rfl); (focus omega); (focus omega); go_frame) | ((with_reducible apply wq_sub); (focus rfl); (focus rfl); (focus rfl); (focus omega); (focus omega); go_frame) | ((with_reducible apply wq_mul); (focus rfl); (focus rfl); (focus rfl); (focus omega); (focus omega); go_frame) | ((with_reducible apply wq_rem); (focus rfl); (focus rfl); (focus rfl); (focus omega); (focus omega); go_frame) | ((with_reducible apply wq_eql); (focus rfl); (focus rfl); (focus rfl); go_frame) | ((with_reducible apply wq_neq); (focus rfl); (focus rfl); (focus rfl); go_frame) | ((with_reducible apply wq_lss); (focus rfl); (focus rfl); (focus rfl); go_frame) | ((with_reducible apply wq_leq); (focus rfl); (focus rfl); (focus rfl); go_frame) | ((with_reducible apply wq_gtr); (focus rfl); (focus rfl); (focus rfl); go_frame) | ((with_reducible apply wq_geq); (focus rfl); (focus rfl); (focus rfl); go_frame) | ((with_reducible apply wq_max2); (focus rfl); (focus rfl); (focus rfl); go_frame) | ((with_reducible apply wq_min2); (focus rfl); (focus rfl); (focus rfl); go_frame) | ((with_reducible apply wq_max3); (focus rfl); (focus rfl); (focus rfl); (focus rfl); go_frame) | ((with_reducible apply wq_min3); (focus rfl); (focus rfl); (focus rfl); (focus rfl); go_frame) | go_big_quiet_step (fail))); refine wpQuiet_nil ?_; rintro _ ⟨nq, rfl⟩
          go_wp2
          go_roundw
          case rel =>
            refine ⟨k + 1, by omega, by go_num, Lib.hid fun j hj => ?_, _, rfl⟩
            rcases Nat.lt_or_ge j k with h | h
            · exact HK.out j h
            · obtain rfl : j = k := by omega
              exact HE.out
          case measure => simp [intOf]; omega
        · have HE := Lib.hid he
          have he' : (gi xs k != gi ys k) = true := by simp [he]
          clear he
          go_wp2
          refine wp_region_quiet_lit (by kernel_rfl) (by kernel_rfl) ?_; (repeat (first | ((with_reducible apply wq_ix Tryz.underlying24 sz3); (focus rfl); (focus rfl); (focus rfl); (focus omega); (try simp only [Nat.mul_one]); go_frame) | ((with_reducible apply wq_ix Tryz.underlying37 sz50); (focus rfl); (focus rfl); (focus rfl); (focus omega); (try simp only [Nat.mul_one]); go_frame) | ((with_reducible apply wq_ix Tryz.underlying35 sz47); (focus rfl); (focus rfl); (focus rfl); (focus omega); (try simp only [Nat.mul_one]); go_frame) | ((with_reducible apply wq_ix Tryz.underlying90 sz24); (focus rfl); (focus rfl); (focus rfl); (focus omega); (try simp only [Nat.mul_one]); go_frame) | ((with_reducible apply wq_ld ag3); (focus rfl); (focus rfl); (focus (rintro _ ⟨_, rfl⟩; first | exact h1 | exact h2)); go_frame) | ((with_reducible apply wq_ld ag24); (focus rfl); (focus rfl); (focus (rintro _ ⟨_, rfl⟩; first | exact h1 | exact h2)); go_frame) | ((with_reducible apply wq_ld ag37); (focus rfl); (focus rfl); (focus (rintro _ ⟨_, rfl⟩; first | exact h1 | exact h2)); go_frame) | ((with_reducible apply wq_ld ag90); (focus rfl); (focus rfl); (focus (rintro _ ⟨_, rfl⟩; first | exact h1 | exact h2)); go_frame) | ((with_reducible apply wq_ld ag35); (focus rfl); (focus rfl); (focus (rintro _ ⟨_, rfl⟩; first | exact h1 | exact h2)); go_frame) | ((with_reducible apply wq_add); (focus rfl); (focus rfl); (focus rfl); (focus omega); (focus omega); go_frame) | ((with_reducible apply wq_sub); (focus rfl); (focus rfl); (focus rfl); (focus omega); (focus omega); go_frame) | ((with_reducible apply wq_mul); (focus rfl); (focus rfl); (focus rfl); (focus omega); (focus omega); go_frame) | ((with_reducible apply wq_rem); (focus rfl); (focus rfl); (focus rfl); (focus omega); (focus omega); go_frame) | ((with_reducible apply wq_eql); (focus rfl); (focus rfl); (focus rfl); go_frame) | ((with_reducible apply wq_neq); (focus rfl); (focus rfl); (focus rfl); go_frame) | ((with_reducible apply wq_lss); (focus rfl); (focus rfl); (focus rfl); go_frame) | ((with_reducible apply wq_leq); (focus rfl); (focus rfl); (focus rfl); go_frame) | ((with_reducible apply wq_gtr); (focus rfl); (focus rfl); (focus rfl); go_frame) | ((with_reducible apply wq_geq); (focus rfl); (focus rfl); (focus rfl); go_frame) | ((with_reducible apply wq_max2); (focus rfl); (focus rfl); (focus rfl); go_frame) | ((with_reducible apply wq_min2); (focus rfl); (focus rfl); (focus rfl); go_frame) | ((with_reducible apply wq_max3); (focus rfl); (focus rfl); (focus rfl); (focus rfl); go_frame) | ((with_reducible apply wq_min3); (focus rfl); (focus rfl); (focus rfl); (focus rfl); go_frame) | go_big_quiet_step (fail))); refine wpQuiet_nil ?_; rintro _ ⟨nq, rfl⟩
          go_wp2
          go_ret
          refine ⟨?_, m + nq, drew_add _ _ _⟩
          rw [decide_eq_false (fun e => HE.out (by rw [e]))]; rfl
      · obtain rfl : k = xs.length := by omega
        go_wp2
        go_ret
        refine ⟨?_, m, rfl⟩
        rw [decide_eq_true (gi_ext HL.out HK.out)]; rfl
  · have h3' : ((xs.length : Int) != (ys.length : Int)) = true := by simp; omega
    have HL := Lib.hid h3
    clear h3
    go_enter Tryz.func30, Tryz.ntmps30
    go_wp2
    go_ret
    refine ⟨?_, 0, rfl⟩
    rw [decide_eq_false (fun e => HL.out (by rw [e]))]; rfl

theorem gs_ext {xs ys : List (Int × Int)} (hl : xs.length = ys.length) (h : ∀ j, j < xs.length → gs xs j = gs ys j) : xs = ys := by
  apply List.ext_getElem hl
  intro i h1 h2
  have := h i h1
  unfold gs at this
  simpa [h1, h2] using this

theorem wq_neq50 {C : World → Prop} {ops : Array Oper} {Q : Act → Prop} {rest : List Oper} {a : Act} {d : Nat} {x y : Operand} {ty : TypeId} {pos : String} {af : Array Edge} {g : Option (Nat × Bool)} {a1 a2 b1 b2 : Int}
    (hw : Region.wanted ⟨some d, .binOp .neq 50 x y 50, ty, pos, af, g⟩ (yielded ops a.tmps) = true) (hx : a.eval x = .agg #[.int .i64 a1, .int .i64 a2]) (hy : a.eval y = .agg #[.int .i64 b1, .int .i64 b2])
    (hk : wpQuiet Tryz.prog ops C Q rest (a.put (some d) (.bool (!(a1 == b1 && a2 == b2))))) : wpQuiet Tryz.prog ops C Q (⟨some d, .binOp .neq 50 x y 50, ty, pos, af, g⟩ :: rest) a :=
  wq hw (q_val (o := ⟨some d, .binOp .neq 50 x y 50, ty, pos, af, g⟩) (.bool (!(a1 == b1 && a2 == b2))) (fun w _ => by
    unfold execOp; dsimp only; rw [hx, hy]; by_cases h1 : a1 = b1 <;> by_cases h2 : a2 = b2 <;> simp [go_sem, h1, h2]) hk)

theorem scells {w : World} {b o : Nat} {v0 v1 : Value} (h0 : w.cell? ⟨b, o, none⟩ = some v0) (h1 : w.cell? ⟨b, o + 1, none⟩ = some v1) :
    ∀ j v, [v0, v1][j]? = some v → w.cell? ((⟨b, o, none⟩ : Addr).add j) = some v := by
  intro j v hj
  have e : (⟨b, o, none⟩ : Addr).add j = ⟨b, o + j, none⟩ := by unfold Addr.add; split <;> simp_all
  rw [e]
  match j, hj with
  | 0, hj => simp at hj; subst hj; exact h0
  | 1, hj => simp at hj; subst hj; exact h1

theorem qcells {w : World} {cs : List Value} {ad : Addr} (h : ∀ j v, cs[j]? = some v → w.cell? (ad.add j) = some v) : ∀ w', (∃ n, w' = w.drewN n) → ∀ j v, cs[j]? = some v → w'.cell? (ad.add j) = some v := by
  rintro _ ⟨n, rfl⟩; exact h

set_option maxHeartbeats 400000 in
set_option maxRecDepth 100000 in
theorem c36 (p : Option Addr) (cap : Nat) (xs : List (Int × Int)) (q : Option Addr) (cap' : Nat) (ys : List (Int × Int)) (w : World) (hx : RdS w p xs) (hy : RdS w q ys) (hl : xs.length ≤ 1000000) :
    Calls Tryz.prog 36 #[.slice p xs.length cap, .slice q ys.length cap'] w fun e w' => e = .returned (.bool (decide (xs = ys))) ∧ ∃ n, w' = w.drewN n := by
  by_cases h3 : xs.length = ys.length
  · have HL := Lib.hid h3
    have h3' : ((xs.length : Int) != (ys.length : Int)) = false := by simp [h3]
    clear h3
    go_enter Tryz.func36, Tryz.ntmps36
    go_wp2
    go_loopw [5] (fun i wr => ∃ k : Nat, k ≤ xs.length ∧ i = .int .i64 k ∧ Hid (∀ j, j < k → gs xs j = gs ys j) ∧ ∃ m, wr = w.drewN m) (fun i _ => xs.length - (intOf i).toNat)
    case atStart => exact ⟨0, by omega, rfl, Lib.hid (by intro j hj; omega), 0, by rfl⟩
    case round =>
      obtain ⟨k, hk, rfl, HK, m, rfl⟩ := hrel
      by_cases hlt : k < xs.length
      · obtain ⟨b, off, rfl, hc⟩ := hx.at hlt
        have hlt2 : k < ys.length := by have := HL.out; omega
        obtain ⟨b', off', rfl, hc'⟩ := hy.at hlt2
        have h1 := qcells (w := w.drewN m) (scells (w := w.drewN m) (hc k hlt).1 (hc k hlt).2)
        have h2 := qcells (w := w.drewN m) (scells (w := w.drewN m) (hc' k hlt2).1 (hc' k hlt2).2)
        have H1 := Lib.hid h1
        have H2 := Lib.hid h2
        clear hc hx hc' hy h1 h2
        by_cases he : gs xs k = gs ys k
        · have HE := Lib.hid he
          have he' : (!((gs xs k).1 == (gs ys k).1 && (gs xs k).2 == (gs ys k).2)) = false := by simp [he]
          clear he
          go_wp2
          refine wp_region_quiet_lit (by kernel_rfl) (by kernel_rfl) ?_; (repeat (first | ((with_reducible refine wq_lda ag50 sz50 ?_ ?_ ?_ H1.out ?_); (focus rfl); (focus rfl); (focus rfl); go_frame) | ((with_reducible refine wq_lda ag50 sz50 ?_ ?_ ?_ H2.out ?_); (focus rfl); (focus rfl); (focus rfl); go_frame) | (rw [he']) | ((with_reducible apply wq_ix Tryz.underlying24 sz3); (focus rfl); (focus rfl); (focus rfl); (focus omega); (try simp only [Nat.mul_one]); go_frame) | ((with_reducible apply wq_ix Tryz.underlying37 sz50); (focus rfl); (focus rfl); (focus rfl); (focus omega); (try simp only [Nat.mul_one]); go_frame) | ((with_reducible apply wq_ix Tryz.underlying35 sz47); (focus rfl); (focus rfl); (focus rfl); (focus omega); (try simp only [Nat.mul_one]); go_frame) | ((with_reducible apply wq_ix Tryz.underlying90 sz24); (focus rfl); (focus rfl); (focus rfl); (focus omega); (try simp only [Nat.mul_one]); go_frame) | ((with_reducible apply wq_ld ag3); (focus rfl); (focus rfl); (focus (rintro _ ⟨_, rfl⟩; first | fail)); go_frame) | ((with_reducible apply wq_ld ag24); (focus rfl); (focus rfl); (focus (rintro _ ⟨_, rfl⟩; first | fail)); go_frame) | ((with_reducible apply wq_ld ag37); (focus rfl); (focus rfl); (focus (rintro _ ⟨_, rfl⟩; first | fail)); go_frame) | ((with_reducible apply wq_ld ag90); (focus rfl); (focus rfl); (focus (rintro _ ⟨_, rfl⟩; first | fail)); go_frame) | ((with_reducible apply wq_ld ag35); (focus rfl); (focus rfl); (focus (rintro _ ⟨_, rfl⟩; first | fail)); go_frame) | ((with_reducible apply wq_add); (focus rfl); (focus rfl); (focus rfl); (focus omega); (focus omega); go_frame) | ((with_reducible apply wq_sub); (focus rfl); (focus rfl); (focus rfl); (focus omega); (focus omega); go_frame) | ((with_reducible apply wq_mul); (focus rfl); (focus rfl); (focus rfl); (focus omega); (focus omega); go_frame) | ((with_reducible apply wq_rem); (focus rfl); (focus rfl); (focus rfl); (focus omega); (focus omega); go_frame) | ((with_reducible apply wq_eql); (focus rfl); (focus rfl); (focus rfl); go_frame) | ((with_reducible apply wq_neq); (focus rfl); (focus rfl); (focus rfl); go_frame) | ((with_reducible apply wq_lss); (focus rfl); (focus rfl); (focus rfl); go_frame) | ((with_reducible apply wq_leq); (focus rfl); (focus rfl); (focus rfl); go_frame) | ((with_reducible apply wq_gtr); (focus rfl); (focus rfl); (focus rfl); go_frame) | ((with_reducible apply wq_geq); (focus rfl); (focus rfl); (focus rfl); go_frame) | ((with_reducible apply wq_max2); (focus rfl); (focus rfl); (focus rfl); go_frame) | ((with_reducible apply wq_min2); (focus rfl); (focus rfl); (focus rfl); go_frame) | ((with_reducible apply wq_max3); (focus rfl); (focus rfl); (focus rfl); (focus rfl); go_frame) | ((with_reducible apply wq_min3); (focus rfl); (focus rfl); (focus rfl); (focus rfl); go_frame) | ((with_reducible apply wq_neq50); (focus rfl); (focus rfl); (focus rfl); go_frame) | go_big_quiet_step (fail))); refine wpQuiet_nil ?_; rintro _ ⟨nq, rfl⟩
          go_wp2
          go_roundw
          case rel =>
            refine ⟨k + 1, by omega, by go_num, Lib.hid fun j hj => ?_, _, rfl⟩
            rcases Nat.lt_or_ge j k with h | h
            · exact HK.out j h
            · obtain rfl : j = k := by omega
              exact HE.out
          case measure => simp [intOf]; omega
        · have HE := Lib.hid he
          have he' : (!((gs xs k).1 == (gs ys k).1 && (gs xs k).2 == (gs ys k).2)) = true := by
            rw [Bool.not_eq_true', Bool.and_eq_false_iff]
            by_cases h : (gs xs k).1 = (gs ys k).1
            · right; simp; intro h2; exact he (Prod.ext h h2)
            · left; simp [h]
          clear he
          go_wp2
          refine wp_region_quiet_lit (by kernel_rfl) (by kernel_rfl) ?_; (repeat (first | ((with_reducible refine wq_lda ag50 sz50 ?_ ?_ ?_ H1.out ?_); (focus rfl); (focus rfl); (focus rfl); go_frame) | ((with_reducible refine wq_lda ag50 sz50 ?_ ?_ ?_ H2.out ?_); (focus rfl); (focus rfl); (focus rfl); go_frame) | (rw [he']) | ((with_reducible apply wq_ix Tryz.underlying24 sz3); (focus rfl); (focus rfl); (focus rfl); (focus omega); (try simp only [Nat.mul_one]); go_frame) | ((with_reducible apply wq_ix Tryz.underlying37 sz50); (focus rfl); (focus rfl); (focus rfl); (focus omega); (try simp only [Nat.mul_one]); go_frame) | ((with_reducible apply wq_ix Tryz.underlying35 sz47); (focus rfl); (focus rfl); (focus rfl); (focus omega); (try simp only [Nat.mul_one]); go_frame) | ((with_reducible apply wq_ix Tryz.underlying90 sz24); (focus rfl); (focus rfl); (focus rfl); (focus omega); (try simp only [Nat.mul_one]); go_frame) | ((with_reducible apply wq_ld ag3); (focus rfl); (focus rfl); (focus (rintro _ ⟨_, rfl⟩; first | fail)); go_frame) | ((with_reducible apply wq_ld ag24); (focus rfl); (focus rfl); (focus (rintro _ ⟨_, rfl⟩; first | fail)); go_frame) | ((with_reducible apply wq_ld ag37); (focus rfl); (focus rfl); (focus (rintro _ ⟨_, rfl⟩; first | fail)); go_frame) | ((with_reducible apply wq_ld ag90); (focus rfl); (focus rfl); (focus (rintro _ ⟨_, rfl⟩; first | fail)); go_frame) | ((with_reducible apply wq_ld ag35); (focus rfl); (focus rfl); (focus (rintro _ ⟨_, rfl⟩; first | fail)); go_frame) | ((with_reducible apply wq_add); (focus rfl); (focus rfl); (focus rfl); (focus omega); (focus omega); go_frame) | ((with_reducible apply wq_sub); (focus rfl); (focus rfl); (focus rfl); (focus omega); (focus omega); go_frame) | ((with_reducible apply wq_mul); (focus rfl); (focus rfl); (focus rfl); (focus omega); (focus omega); go_frame) | ((with_reducible apply wq_rem); (focus rfl); (focus rfl); (focus rfl); (focus omega); (focus omega); go_frame) | ((with_reducible apply wq_eql); (focus rfl); (focus rfl); (focus rfl); go_frame) | ((with_reducible apply wq_neq); (focus rfl); (focus rfl); (focus rfl); go_frame) | ((with_reducible apply wq_lss); (focus rfl); (focus rfl); (focus rfl); go_frame) | ((with_reducible apply wq_leq); (focus rfl); (focus rfl); (focus rfl); go_frame) | ((with_reducible apply wq_gtr); (focus rfl); (focus rfl); (focus rfl); go_frame) | ((with_reducible apply wq_geq); (focus rfl); (focus rfl); (focus rfl); go_frame) | ((with_reducible apply wq_max2); (focus rfl); (focus rfl); (focus rfl); go_frame) | ((with_reducible apply wq_min2); (focus rfl); (focus rfl); (focus rfl); go_frame) | ((with_reducible apply wq_max3); (focus rfl); (focus rfl); (focus rfl); (focus rfl); go_frame) | ((with_reducible apply wq_min3); (focus rfl); (focus rfl); (focus rfl); (focus rfl); go_frame) | ((with_reducible apply wq_neq50); (focus rfl); (focus rfl); (focus rfl); go_frame) | go_big_quiet_step (fail))); refine wpQuiet_nil ?_; rintro _ ⟨nq, rfl⟩
          go_wp2
          go_ret
          refine ⟨?_, m + nq, drew_add _ _ _⟩
          rw [decide_eq_false (fun e => HE.out (by rw [e]))]; rfl
      · obtain rfl : k = xs.length := by omega
        go_wp2
        go_ret
        refine ⟨?_, m, rfl⟩
        rw [decide_eq_true (gs_ext HL.out HK.out)]; rfl
  · have h3' : ((xs.length : Int) != (ys.length : Int)) = true := by simp; omega
    have HL := Lib.hid h3
    clear h3
    go_enter Tryz.func36, Tryz.ntmps36
    go_wp2
    go_ret
    refine ⟨?_, 0, rfl⟩
    rw [decide_eq_false (fun e => HL.out (by rw [e]))]; rfl
end Go.Proofs.YtncfgkhbenmpoaaGreatDoor
end

section
namespace Go.Proofs.YtncfgkhbenmpoaaGreatDoor
open Go Go.RowKit Go.Proofs
set_option linter.unusedVariables false
attribute [local go_sem] imax2 imin2

theorem c110 (n a b : Int) (w : World) :
    Calls Tryz.prog 110 #[.int .i64 n, .agg #[.int .i64 a, .int .i64 b]] w fun e w' => e = .returned (.bool (inB n a b)) ∧ Below w.heap.size w w' := by
  go_enter Tryz.func110, Tryz.ntmps110
  go_wp2_with (go_at_call 90; refine (c90 _ _ _ _).mono ?_; rintro e w' ⟨rfl, rfl⟩)
  go_ret
  exact ⟨rfl, below_alloc1 _ _⟩

def passB (u : Int) (o : List Int) (z : Int) (t : Nat) : Bool := (plc u o t == z) || inB z (min (plc u o t) (plc u o (t + 1)) + 1) (max (plc u o t) (plc u o (t + 1)) - 1)
def passF (u : Int) (o : List Int) (z : Int) (k : Nat) : List Int := ((List.range k).filter (passB u o z)).map fun (t : Nat) => (t : Int)
theorem passF_succ (u : Int) (o : List Int) (z : Int) (k : Nat) : passF u o z (k + 1) = if passB u o z k = true then passF u o z k ++ [(k : Int)] else passF u o z k := by
  unfold passF
  rw [List.range_succ, List.filter_append, List.map_append]
  split <;> simp_all
theorem passF_le (u : Int) (o : List Int) (z : Int) (k : Nat) : (passF u o z k).length ≤ k := by
  unfold passF; rw [List.length_map]; exact Nat.le_trans (List.length_filter_le _ _) (by simp)

def PassesPost (u : Int) (o : List Int) (z until_ : Int) (w : World) (e : Ending) (w' : World) : Prop :=
  Below w.heap.size w w' ∧
  if (motB u o && inB z (-200000) 200000 && inB until_ 0 2000) = true then
    ∃ p c, e = .returned (.tuple #[.slice p (passF u o z (until_ + 1).toNat).length c, .int .i64 0]) ∧ RdI w' p (passF u o z (until_ + 1).toNat)
  else e = .returned (.tuple #[.slice none 0 0, .int .i64 2])

set_option maxHeartbeats 1000000 in
set_option maxRecDepth 100000 in
theorem c54_ok (u : Int) (q : Option Addr) (cap : Nat) (o : List Int) (z : Int) (n : Nat) (w : World) (hx : RdI w q o) (hm : motB u o = true) (hz : inB z (-200000) 200000 = true) (hn : n ≤ 2000) :
    Calls Tryz.prog 54 #[.agg #[.int .i64 u, .slice q o.length cap], .int .i64 z, .int .i64 n] w fun e w' => (∃ p c, e = .returned (.tuple #[.slice p (passF u o z (n + 1)).length c, .int .i64 0]) ∧ RdI w' p (passF u o z (n + 1))) ∧ Below w.heap.size w w' := by
  have hmot := Lib.hid (motB_mot hm)
  obtain ⟨w0, e0, HS, k0, k1, b0⟩ := box2 w (.int .i64 u) (.slice q o.length cap) 61
  have HX := Lib.hid (hx.below b0)
  have HB0 := Lib.hid b0
  have h103 := c103 u q cap o w0 HX.out (by have := (motB_mot hm).l1; omega)
  rw [hm] at h103
  have h104 := inB_true (x := (n : Int)) (lo := 0) (hi := 2000) (by omega) (by omega)
  have HZ := Lib.hid hz
  have H104 := Lib.hid h104
  obtain ⟨hz1, hz2⟩ : -200000 ≤ z ∧ z ≤ 200000 := by unfold inB at hz; simpa using hz
  obtain ⟨i0, hi0, hy0, hy1, hy2⟩ := info_parts info3
  clear hx hm hz h104 b0
  go_enter Tryz.func54, Tryz.ntmps54
  go_wp2_with fail
  refine h103.mono ?_
  rintro e w1 ⟨rfl, b1⟩
  clear e0 h103
  have HB1 := Lib.hid b1
  go_wp2_with fail
  refine (c90 _ _ _ _).mono ?_
  rw [HZ.out]
  rintro e w' ⟨rfl, rfl⟩
  go_wp2_with fail
  refine (c104 _ _).mono ?_
  rw [H104.out]
  rintro e w' ⟨rfl, rfl⟩
  have j0 := (b1.cell (lt_of_cellq k0)).trans k0
  have j1 := (b1.cell (lt_of_cellq k1)).trans k1
  have HX1 := Lib.hid (HX.out.below b1)
  clear k0 k1 b1
  go_wp2
  go_loopw [8, 27] (fun v i wr => ∃ k : Nat, k ≤ n + 1 ∧ i = .int .i64 k ∧ wr.ownsRow w1.heap.size 3 1 v (passF u o z k).length (inV (passF u o z k)) ∧ Below w1.heap.size w1 wr) (fun _ i _ => n + 1 - (intOf i).toNat)
  case atStart => exact ⟨0, by omega, rfl, World.ownsRow_nil _ _ _ _, Below.refl _ _⟩
  case round =>
    obtain ⟨k, hk, rfl, hown, hnx⟩ := hrel
    have HO := Lib.hid hown
    have HN := Lib.hid hnx
    by_cases hlt : k < n + 1
    · have r0 := (hnx.cell (lt_of_cellq j0)).trans j0
      have r1 := (hnx.cell (lt_of_cellq j1)).trans j1
      have g1 := plc_range u o k hmot.out (by omega)
      have g2 := plc_range u o ((k : Int) + 1) hmot.out (by omega)
      have HXr := Lib.hid (HX1.out.below hnx)
      have hle := passF_le u o z k
      clear hown hnx
      go_upto_region 7 with (fail)
      refine wp_region_quiet_below (by kernel_rfl) (by kernel_rfl) ?_; (repeat (first | ((with_reducible refine wq_lda ag61 sz61 ?_ ?_ ?_ (fun _ hbq => bcells2 r0 r1 hbq) ?_); (focus rfl); (focus rfl); (focus rfl); go_frame) | ((with_reducible apply wq_ix Tryz.underlying24 sz3); (focus rfl); (focus rfl); (focus rfl); (focus omega); (try simp only [Nat.mul_one]); go_frame) | ((with_reducible apply wq_ix Tryz.underlying37 sz50); (focus rfl); (focus rfl); (focus rfl); (focus omega); (try simp only [Nat.mul_one]); go_frame) | ((with_reducible apply wq_ix Tryz.underlying35 sz47); (focus rfl); (focus rfl); (focus rfl); (focus omega); (try simp only [Nat.mul_one]); go_frame) | ((with_reducible apply wq_ix Tryz.underlying90 sz24); (focus rfl); (focus rfl); (focus rfl); (focus omega); (try simp only [Nat.mul_one]); go_frame) | ((with_reducible apply wq_ld ag3); (focus rfl); (focus rfl); (focus (intro _ hbq; first | fail)); go_frame) | ((with_reducible apply wq_ld ag24); (focus rfl); (focus rfl); (focus (intro _ hbq; first | fail)); go_frame) | ((with_reducible apply wq_ld ag37); (focus rfl); (focus rfl); (focus (intro _ hbq; first | fail)); go_frame) | ((with_reducible apply wq_ld ag90); (focus rfl); (focus rfl); (focus (intro _ hbq; first | fail)); go_frame) | ((with_reducible apply wq_ld ag35); (focus rfl); (focus rfl); (focus (intro _ hbq; first | fail)); go_frame) | ((with_reducible apply wq_add); (focus rfl); (focus rfl); (focus rfl); (focus omega); (focus omega); go_frame) | ((with_reducible apply wq_sub); (focus rfl); (focus rfl); (focus rfl); (focus omega); (focus omega); go_frame) | ((with_reducible apply wq_mul); (focus rfl); (focus rfl); (focus rfl); (focus omega); (focus omega); go_frame) | ((with_reducible apply wq_rem); (focus rfl); (focus rfl); (focus rfl); (focus omega); (focus omega); go_frame) | ((with_reducible apply wq_eql); (focus rfl); (focus rfl); (focus rfl); go_frame) | ((with_reducible apply wq_neq); (focus rfl); (focus rfl); (focus rfl); go_frame) | ((with_reducible apply wq_lss); (focus rfl); (focus rfl); (focus rfl); go_frame) | ((with_reducible apply wq_leq); (focus rfl); (focus rfl); (focus rfl); go_frame) | ((with_reducible apply wq_gtr); (focus rfl); (focus rfl); (focus rfl); go_frame) | ((with_reducible apply wq_geq); (focus rfl); (focus rfl); (focus rfl); go_frame) | ((with_reducible apply wq_max2); (focus rfl); (focus rfl); (focus rfl); go_frame) | ((with_reducible apply wq_min2); (focus rfl); (focus rfl); (focus rfl); go_frame) | ((with_reducible apply wq_max3); (focus rfl); (focus rfl); (focus rfl); (focus rfl); go_frame) | ((with_reducible apply wq_min3); (focus rfl); (focus rfl); (focus rfl); (focus rfl); go_frame) | ((with_reducible apply wq_neq50); (focus rfl); (focus rfl); (focus rfl); go_frame) | go_big_quiet_step ((intro hbq; exact calls_below hbq (c108i u q cap o _ _ (HXr.out.below hbq) hmot.out (by omega)))))); refine wpQuiet_nil ?_; intro wq hbq
      have HOq := Lib.hid (own_kept HO.out hbq)
      have HNq := Lib.hid (HN.out.trans (hbq.mono HN.out.size))
      have HPD := Lib.hid (show passB u o z k = ((plc u o k == z) || inB z (min (plc u o k) (plc u o (k + 1)) + 1) (max (plc u o k) (plc u o (k + 1)) - 1)) from rfl)
      clear hbq HN HO
      generalize plc u o (k : Int) = pa at *
      generalize plc u o ((k : Int) + 1) = pb at *
      by_cases hpa : pa = z
      · have HPB := Lib.hid (show passB u o z k = true by rw [HPD.out]; simp [hpa])
        have heq : (pa == z) = true := by simp [hpa]
        have HO2 := HOq
        have HN2 := HNq
        clear hpa
        go_wp2_with (at_builtin; refine wpList_append_own _ rfl _ _ 24 rfl w1.heap.size 3 i0 _ 1 8 Tryz.underlying24 hi0 hy0 hy1 hy2 rfl (by decide) _ _ _ rfl (HO2.out.alloc _) ⟨wq.heap.size, 0, none⟩ 1 1 [.int .i64 (k : Int)] rfl rfl ?c1 ?c2 ?c3 ?c4 ?c5 ?_)
        case c1 => exact news_of _ _ _
        case c2 => intro x hx; simp at hx; subst hx; rfl
        case c3 => unfold maxLen; omega
        case c4 => omega
        case c5 => have := HN2.out.size; simp; omega
        intro v' w5 hown' hgrow _
        have hlt' := HO2.out.lt
        have HN' := Lib.hid (HN2.out.trans (((Below.refl w1.heap.size wq).alloc HN2.out.size _).grown hgrow (by have := HN2.out.size; simp; omega) (fun j hj => (hlt' j hj).1)))
        have HO' := Lib.hid hown'
        clear hown' hgrow hlt'
        go_wp2
        go_roundw
        case rel =>
          refine ⟨k + 1, by omega, by go_num, ?_, HN'.out⟩
          have := HO'.out
          rw [passF_succ, if_pos HPB.out, inV_append, List.length_append]
          exact this
        case measure => simp [intOf]; omega
      · have heq : (pa == z) = false := by simp [hpa]
        have h110 := c110 z (min pa pb + 1) (max pa pb - 1) wq
        have HPA := Lib.hid hpa
        clear hpa
        rcases hin : inB z (min pa pb + 1) (max pa pb - 1) with _ | _
        · have HPB := Lib.hid (show passB u o z k = false by rw [HPD.out, hin, heq]; rfl)
          rw [hin] at h110
          clear hin
          go_wp2_with fail
          refine h110.mono ?_
          rintro e w4 ⟨rfl, b4⟩
          have HO2 := Lib.hid (own_kept HOq.out b4)
          have HN2 := Lib.hid (HNq.out.trans (b4.mono HNq.out.size))
          clear h110 b4
          go_wp2
          go_roundw
          case rel =>
            refine ⟨k + 1, by omega, by go_num, ?_, HN2.out⟩
            rw [passF_succ, if_neg (by rw [HPB.out]; simp)]
            exact HO2.out
          case measure => simp [intOf]; omega
        · have HPB := Lib.hid (show passB u o z k = true by rw [HPD.out, hin, heq]; rfl)
          rw [hin] at h110
          clear hin
          go_wp2_with fail
          refine h110.mono ?_
          rintro e w4 ⟨rfl, b4⟩
          have HO2 := Lib.hid (own_kept HOq.out b4)
          have HN2 := Lib.hid (HNq.out.trans (b4.mono HNq.out.size))
          clear h110 b4
          go_wp2_with (at_builtin; refine wpList_append_own _ rfl _ _ 24 rfl w1.heap.size 3 i0 _ 1 8 Tryz.underlying24 hi0 hy0 hy1 hy2 rfl (by decide) _ _ _ rfl (HO2.out.alloc _) ⟨w4.heap.size, 0, none⟩ 1 1 [.int .i64 (k : Int)] rfl rfl ?c1 ?c2 ?c3 ?c4 ?c5 ?_)
          case c1 => exact news_of _ _ _
          case c2 => intro x hx; simp at hx; subst hx; rfl
          case c3 => unfold maxLen; omega
          case c4 => omega
          case c5 => have := HN2.out.size; simp; omega
          intro v' w5 hown' hgrow _
          have hlt' := HO2.out.lt
          have HN' := Lib.hid (HN2.out.trans (((Below.refl w1.heap.size w4).alloc HN2.out.size _).grown hgrow (by have := HN2.out.size; simp; omega) (fun j hj => (hlt' j hj).1)))
          have HO' := Lib.hid hown'
          clear hown' hgrow hlt'
          go_wp2
          go_roundw
          case rel =>
            refine ⟨k + 1, by omega, by go_num, ?_, HN'.out⟩
            have := HO'.out
            rw [passF_succ, if_pos HPB.out, inV_append, List.length_append]
            exact this
          case measure => simp [intOf]; omega
    · obtain rfl : k = n + 1 := by omega
      go_wp2
      obtain ⟨pp, cc, rfl, hrd⟩ := rd_of_own hown
      go_ret2
      exact ⟨⟨pp, cc, rfl, hrd⟩, HB0.out.trans ((HB1.out.trans (hnx.mono HB1.out.size)).mono HB0.out.size)⟩
end Go.Proofs.YtncfgkhbenmpoaaGreatDoor
end
