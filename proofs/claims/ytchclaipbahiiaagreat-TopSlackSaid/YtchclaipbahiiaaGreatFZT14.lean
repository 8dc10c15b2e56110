/-
  The search for truths: where all plays are told: contract.
  All products of some wheels: the search, the iterator: contracts.
  The search for truths: where plays are still to be tried: contract.
  The search for truths, whole; the iterator over all truths of a piece: contracts.
  The iterator over all products: contract.
  What a loop over a path keeps: all but its own box, and rows of pairs.
  The path from the motor to an arbor: the walk.
  The path from the motor to an arbor, as a sequence: contract.
  How far an arbor is from the motor: contract.
  A shop's piece that is as defined: contract.
  Truths, all arguments: contract.
  asked: a piece with its truths, or the error: contract, all arguments.
  Regions within a round of a loop over a function: what holds of a plain walk of such a region (no defer statement in it) holds there.
-/
import Derived.RangeFuncNested
import Derived.RangeFuncBound
import Derived.RangeFuncCalls
import Derived.RangeFuncLeaves
import Derived.Shelf.Abstract
import Derived.Shelf.RegionOpen
import Derived.OwnWalkIn
import Derived.TacticsInMore
import Derived.LoopNIn
import Derived.LoopIn
import Derived.Deep.AppendLies
import Derived.Maps.AppendAt
import Derived.Test.YtchclaipbahiiaaGreatFZT11
import Derived.Test.YtchclaipbahiiaaGreatFZT13
section
namespace Go.Proofs.YtchclaipbahiiaaGreat
open Go Go.RowKit Go.Proofs Go.Shelf
set_option linter.unusedVariables false
attribute [local go_sem] Oper.semAt_some imax2 imin2
theorem RoundIn.anyDepth {F : Fence} (hd : F.depth = none) {m m' : Nat} {P : Program} {l : Nat} {f : FuncId} {tmps : Array Value} {assign body : Code} {w : World} {R : Ending → World → Prop}
    (h : RoundIn F m P l f tmps assign body w R) : RoundIn F m' P l f tmps assign body w R := ⟨h.1, fun c cs _ => h.2 c cs (fun d e => by rw [hd] at e; cases e)⟩
theorem YieldAt.anyDepth {F : Fence} (hd : F.depth = none) {m : Nat} (m' : Nat) {P : Program} {l : Nat} {args : Array Value} {W : World} {R : Ending → World → Prop} (h : YieldAt F m P l args W R) : YieldAt F m' P l args W R := by
  obtain ⟨fn, tmps, assign, body, hy, hR⟩ := h; exact ⟨fn, tmps, assign, body, hy, RoundIn.anyDepth hd hR⟩
structure Sx (p : Pc) (pm pv pr : Option Addr) (cm cv cr bp bY bs l : Nat) (we W : World) : Prop where
  kp : W.heap[bp]? = some (.cells #[.slice pm p.ms.length cm, .slice pv p.mv.length cv, .slice pr p.rs.length cr] 59 (0, 0))
  ky : W.heap[bY]? = some (.cells #[.func (.yield l) #[] #[]] 207 (0, 0))
  ks : W.heap[bs]? = some (.cells #[.func (.func 145) #[] #[.pointer (some ⟨bp, 0, none⟩), .pointer (some ⟨bY, 0, none⟩), .pointer (some ⟨bs, 0, none⟩)]] 110 (0, 0))
  below : Below we.heap.size we W
structure Sk (n0 kx bp bY bs : Nat) (we : World) : Prop where
  p : bp ≠ kx
  y : bY ≠ kx
  s : bs ≠ kx
  k : kx < n0
  e : we.heap.size ≤ kx
theorem Sx.kept {p : Pc} {pm pv pr : Option Addr} {cm cv cr bp bY bs l n0 kx : Nat} {we W W' : World} (h : Sx p pm pv pr cm cv cr bp bY bs l we W) (hs : Sk n0 kx bp bY bs we) (hk : KpT n0 kx W W') : Sx p pm pv pr cm cv cr bp bY bs l we W' :=
  ⟨hk.keeps h.kp hs.p (by decide), hk.keeps h.ky hs.y (by decide), hk.keeps h.ks hs.s (by decide), h.below.trans (hk.below hs.e (by have := hs.e; have := hs.k; omega))⟩
def SrPost (p : Pc) (n0 kx : Nat) (a : List Int) (J : List Tv → World → Prop) (pre : List Tv) (W : World) (e : Ending) (W' : World) : Prop :=
  e = .returned (.bool true) ∧ ∃ xs : List Tv, xs.map Tv.pl = yF p a ∧ J (pre ++ xs) W' ∧ (∀ x ∈ xs, MemT p n0 x W') ∧ KpT n0 kx W W'
set_option maxHeartbeats 1600000 in
set_option maxRecDepth 100000 in
theorem c_searchEnd (n : Nat) (hn : 1 ≤ n) (pm pv pr : Option Addr) (cm cv cr bp bY bs l n0 kx N : Nat) (p : Pc) (we : World) (hp : PieceOk p) (hRP : RdP we pm pv pr p) (hs : Sk n0 kx bp bY bs we)
    (J : List Tv → World → Prop) (hJ : ∀ pre W W', J pre W → Below W.heap.size W W' → J pre W')
    (hY : ∀ m pre x W1, J pre W1 → MemT p n0 x W1 → pre.length < N → YieldAt Fence.wide m Tryz.prog l (tvE x) W1 fun e W' => e = .returned (.bool true) ∧ J (pre ++ [x]) W' ∧ KpT n0 kx W1 W')
    (a : List Int) (q : Option Addr) (cq : Nat) (pre : List Tv) (W : World) (ha : a.length = p.ms.length) (ht : Tried p a) (ho : W.ownsRow n0 3 1 (.slice q a.length cq) a.length (inV a)) (hW : Sx p pm pv pr cm cv cr bp bY bs l we W) (hn0 : n0 ≤ W.heap.size)
    (hj : J pre W) (hN : pre.length + (yF p a).length ≤ N) :
    CallsIn Fence.wide n Tryz.prog 145 #[.slice q a.length cq, .pointer (some ⟨bp, 0, none⟩), .pointer (some ⟨bY, 0, none⟩), .pointer (some ⟨bs, 0, none⟩)] W (SrPost p n0 kx a J pre W) := by
  have hpl := ht.plays hp ha; have k0 : W.cell? ⟨bp, 0, none⟩ = some (.slice pm p.ms.length cm) := by rw [cell_of_row _ _ _ _ _ _ hW.kp]; rfl
  have k1 : W.cell? ⟨bp, 1, none⟩ = some (.slice pv p.mv.length cv) := by rw [cell_of_row _ _ _ _ _ _ hW.kp]; rfl
  have k2 : W.cell? ⟨bp, 2, none⟩ = some (.slice pr p.rs.length cr) := by rw [cell_of_row _ _ _ _ _ _ hW.kp]; rfl
  have ky : W.cell? ⟨bY, 0, none⟩ = some (.func (.yield l) #[] #[]) := by rw [cell_of_row _ _ _ _ _ _ hW.ky]; rfl
  obtain ⟨q', c', hqe, hRd⟩ := rd_of_own ho
  obtain ⟨rfl, rfl⟩ : q = q' ∧ cq = c' := by
    injection hqe with h1 h2 h3
    exact ⟨h1, h3⟩
  have hRW := hRP.below hW.below; have hcl := c_lived pm pv pr cm cv cr p q cq a W hRW.mv hRW.rs hRd hp hpl; have hyl := yF_end p a ha; have HJ := Lib.hid hj; have HJB := Lib.hid hJ; have HYY := Lib.hid hY; have HO := Lib.hid ho; have HA := Lib.hid ha; have HN := Lib.hid hN; have HS := Lib.hid hs; have HN0 := Lib.hid hn0; have HPL := Lib.hid hpl; have haI : ((a.length : Int) == (p.ms.length : Int)) = true := by rw [ha]; simp
  clear hqe hRd hRW ht hW hj hJ hY hpl hRP hs hN ha; refine callsIn_of_wp Tryz.func145 rfl trivial ?_ rfl; simp only [Tryz.ntmps145, List.size_toArray, List.length_cons, List.length_nil, Nat.reduceAdd, Nat.reduceSub, Array.replicate_succ, Array.replicate_zero, List.push_toArray, List.append_toArray, List.nil_append, List.cons_append]
  gi_wp2_with fail
  refine ⟨trivial, ?_⟩; refine (callsIn_wide.2 hcl).mono ?_; clear hcl; rintro e w1 ⟨⟨hl, g, cg, rfl, hog⟩ | ⟨hl, rfl⟩, b1⟩
  · have ka := alloc_new w1 (.cells #[.slice none 0 0, .slice none 0 0] 125)
    obtain ⟨w2, e2, HS2, _, _, b2⟩ := box2 w1 (.slice none 0 0) (.slice none 0 0) 125; rw [e2] at ka; obtain ⟨w3, w4, s1, s2, ⟨c0, f0⟩, ⟨c1, f1⟩, hx4, hxk, HZ, hxb⟩ := set2 w2 w1.heap.size 125 _ _ (.slice q a.length cq) (.slice (some ⟨g, 0, none⟩) (a.length + 1) cg) ka; obtain ⟨r0, r1⟩ := cells2 hx4; have b4 : Below W.heap.size W w4 := hxb W W.heap.size b1.size (b1.trans (b2.mono b1.size)); have b14 : Below w1.heap.size w1 w4 := hxb w1 w1.heap.size (Nat.le_refl _) b2; have ky4 := (b4.cell (lt_of_cellq ky)).trans ky; have hEl : (endF p a).length = p.ms.length + 1 := by rw [end_len HPL.out.pos, HA.out]
    have hm4 : MemT p n0 ⟨a, q, cq, g, cg⟩ w4 := ⟨HA.out, hEl, own_kept HO.out b4, own_mono (own_kept hog b14) HN0.out⟩; rw [if_pos hl] at hyl; obtain ⟨fn, tmps, assign, body, hy, hR⟩ := HYY.out (n - 1) pre ⟨a, q, cq, g, cg⟩ w4 (HJB.out _ _ _ HJ.out b4) hm4 (by have := HN.out; rw [hyl] at this; simp at this; omega); have HM4 := Lib.hid hm4; have HB4 := Lib.hid b4; have HYL := Lib.hid hyl
    dsimp only [tvE, tvA] at hy
    clear hx4 hxk hxb b1 b2 b4 b14 ka hm4 hog hl hyl hEl
    gi_wp2_with fail
    refine hR.mono ?_; rintro e w5 ⟨rfl, hj5, hk5⟩; have HJ5 := Lib.hid hj5; have HK5 := Lib.hid hk5; clear hR hy hj5 hk5
    gi_wp2
    go_ret; have hk : KpT n0 kx W w4 := KpT.of_below HB4.out HN0.out; refine ⟨rfl, [⟨a, q, cq, g, cg⟩], by rw [HYL.out]; rfl, HJ5.out, ?_, hk.trans HK5.out⟩; intro x hx; rw [List.mem_singleton] at hx; subst hx; exact HM4.out.kept HK5.out HS.out.k
  · have ka := alloc_new w1 (.cells #[.slice none 0 0, .slice none 0 0] 125)
    obtain ⟨w2, e2, HS2, _, _, b2⟩ := box2 w1 (.slice none 0 0) (.slice none 0 0) 125; rw [e2] at ka; obtain ⟨w3, w4, s1, s2, ⟨c0, f0⟩, ⟨c1, f1⟩, hx4, hxk, HZ, hxb⟩ := set2 w2 w1.heap.size 125 _ _ (.slice none 0 0) (.slice none 0 0) ka; have HB4 := Lib.hid (show Below W.heap.size W w4 from hxb W W.heap.size b1.size (b1.trans (b2.mono b1.size))); rw [if_neg (by rw [hl]; decide)] at hyl; have HYL := Lib.hid hyl; clear hx4 hxk hxb b1 b2 ka hl hyl
    gi_wp2_with fail
    refine ⟨fun _ h => (by cases h), ?_⟩
    gi_wp2
    go_ret; exact ⟨rfl, [], by rw [HYL.out]; rfl, by rw [List.append_nil]; exact HJB.out _ _ _ HJ.out HB4.out, (fun x hx => by cases hx), KpT.of_below HB4.out HN0.out⟩
end Go.Proofs.YtchclaipbahiiaaGreat
end

section
namespace Go.Proofs.YtchclaipbahiiaaGreat
open Go Go.RowKit Go.Proofs Go.Shelf
set_option linter.unusedVariables false
set_option linter.unusedSimpArgs false
attribute [local go_sem] Oper.semAt_some imax2 imin2
structure Sy (a0 a1 a2 a3 a4 : Value) (q : Option Addr) (L c bR bY bs l : Nat) (we W : World) : Prop where
  kr : W.heap[bR]? = some (.cells #[a0, a1, a2, a3, a4, .slice q L c] 89 (0, 0))
  ky : W.heap[bY]? = some (.cells #[.func (.yield l) #[] #[]] 97 (0, 0))
  ks : W.heap[bs]? = some (.cells #[.func (.func 122) #[] #[.pointer (some ⟨bY, 0, none⟩), .pointer (some ⟨bR, 0, none⟩), .pointer (some ⟨bs, 0, none⟩)]] 72 (0, 0))
  below : Below we.heap.size we W
theorem Sy.kept {a0 a1 a2 a3 a4 : Value} {q : Option Addr} {L c bR bY bs l n0 kx : Nat} {we W W' : World} (h : Sy a0 a1 a2 a3 a4 q L c bR bY bs l we W) (hs : Sk n0 kx bR bY bs we) (hk : KpT n0 kx W W') : Sy a0 a1 a2 a3 a4 q L c bR bY bs l we W' :=
  ⟨hk.keeps h.kr hs.p (by decide), hk.keeps h.ky hs.y (by decide), hk.keeps h.ks hs.s (by decide), h.below.trans (hk.below hs.e (by have := hs.e; have := hs.k; omega))⟩
def PrPost (n0 kx : Nat) (xs : List Int) (J : List Int → World → Prop) (pre : List Int) (W : World) (e : Ending) (W' : World) : Prop :=
  e = .returned (.bool true) ∧ J (pre ++ xs) W' ∧ KpT n0 kx W W'
def YieldOk (n0 kx N : Nat) (Px : Int → Prop) (l : Nat) (J : List Int → World → Prop) : Prop :=
  ∀ m pre x W1, J pre W1 → Px x → pre.length < N → YieldAt Fence.wide m Tryz.prog l #[.int .i64 x] W1 fun e W' => e = .returned (.bool true) ∧ J (pre ++ [x]) W' ∧ KpT n0 kx W1 W'
set_option maxHeartbeats 1600000 in
set_option maxRecDepth 100000 in
theorem p_end (n : Nat) (hn : 1 ≤ n) (a0 a1 a2 a3 a4 : Value) (q : Option Addr) (L c bR bY bs l n0 kx N : Nat) (we : World) (Px : Int → Prop) (J : List Int → World → Prop) (hY : YieldOk n0 kx N Px l J)
    (fr now : Int) (pre : List Int) (W : World) (hx : Px now) (hW : Sy a0 a1 a2 a3 a4 q L c bR bY bs l we W) (hj : J pre W) (hN : pre.length + 1 ≤ N) :
    CallsIn Fence.wide n Tryz.prog 122 #[.int .i64 fr, .int .i64 0, .int .i64 now, .pointer (some ⟨bY, 0, none⟩), .pointer (some ⟨bR, 0, none⟩), .pointer (some ⟨bs, 0, none⟩)] W (PrPost n0 kx [now] J pre W) := by
  have ky : W.cell? ⟨bY, 0, none⟩ = some (.func (.yield l) #[] #[]) := by rw [cell_of_row _ _ _ _ _ _ hW.ky]; rfl
  obtain ⟨fn, tmps, assign, body, hy, hR⟩ := hY (n - 1) pre now W hj hx (by omega); clear hY hW hj hN hx; refine callsIn_of_wp Tryz.func122 rfl trivial ?_ rfl; simp only [Tryz.ntmps122, List.size_toArray, List.length_cons, List.length_nil, Nat.reduceAdd, Nat.reduceSub, Array.replicate_succ, Array.replicate_zero, List.push_toArray, List.append_toArray, List.nil_append, List.cons_append]
  gi_wp2_with fail
  refine hR.mono ?_; rintro e w5 ⟨rfl, hj5, hk5⟩; have HJ5 := Lib.hid hj5; have HK5 := Lib.hid hk5; clear hR hy hj5 hk5
  gi_wp2
  go_ret; exact ⟨rfl, HJ5.out, HK5.out⟩
def prdTo (t : List Int) (d : Nat) (now : Int) (k j : Nat) : List Int := (List.range' k j).flatMap fun i => prdF t d i (now * gi t i)
theorem prdTo_succ (t : List Int) (d : Nat) (now : Int) (k j : Nat) : prdTo t d now k (j + 1) = prdTo t d now k j ++ prdF t d (k + j) (now * gi t (k + j)) := by
  unfold prdTo; rw [List.range'_1_concat, List.flatMap_append]; simp
theorem prdTo_all (t : List Int) (d : Nat) (now : Int) (k : Nat) : prdTo t d now k (t.length - k) = prdF t (d + 1) k now := rfl
theorem prdTo_len (t : List Int) (d : Nat) (now : Int) (k : Nat) : ∀ m j, j ≤ m → (prdTo t d now k j).length ≤ (prdTo t d now k m).length := by
  intro m
  induction m with
  | zero => intro j hj; obtain rfl : j = 0 := by omega
            exact Nat.le_refl _
  | succ m ih =>
    intro j hj
    by_cases h : j = m + 1
    · rw [h]; exact Nat.le_refl _
    · have := ih j (by omega)
      rw [prdTo_succ, List.length_append]; omega
def Tth (t : List Int) : Prop := t.length ≤ 60 ∧ ∀ i, i < t.length → 1 ≤ gi t i ∧ gi t i ≤ 60
set_option maxHeartbeats 1600000 in
set_option maxRecDepth 100000 in
theorem p_node (a0 a1 a2 a3 a4 : Value) (q : Option Addr) (c bR bY bs l n0 kx N : Nat) (t : List Int) (we : World) (hRD : RdI we q t) (ht : Tth t) (hs : Sk n0 kx bR bY bs we)
    (J : List Int → World → Prop) (hJB : ∀ pre W W', J pre W → Below W.heap.size W W' → J pre W') (M : Int) (hM : M ≤ 1000000)
    (d k : Nat) (now : Int) (pre : List Int) (W : World) (hk : k ≤ t.length) (h1 : 1 ≤ now) (h2 : now * 60 ^ (d + 1) ≤ M) (hW : Sy a0 a1 a2 a3 a4 q t.length c bR bY bs l we W) (hn0 : n0 ≤ W.heap.size) (hj : J pre W) (hN : pre.length + (prdF t (d + 1) k now).length ≤ N)
    (ih : ∀ (i : Nat) (now' : Int) (pre' : List Int) (W' : World), i ≤ t.length → 1 ≤ now' → now' * 60 ^ d ≤ M → Sy a0 a1 a2 a3 a4 q t.length c bR bY bs l we W' → n0 ≤ W'.heap.size → J pre' W' → pre'.length + (prdF t d i now').length ≤ N →
      Calls Tryz.prog 122 #[.int .i64 i, .int .i64 d, .int .i64 now', .pointer (some ⟨bY, 0, none⟩), .pointer (some ⟨bR, 0, none⟩), .pointer (some ⟨bs, 0, none⟩)] W' (PrPost n0 kx (prdF t d i now') J pre' W')) :
    Calls Tryz.prog 122 #[.int .i64 k, .int .i64 ((d : Int) + 1), .int .i64 now, .pointer (some ⟨bY, 0, none⟩), .pointer (some ⟨bR, 0, none⟩), .pointer (some ⟨bs, 0, none⟩)] W (PrPost n0 kx (prdF t (d + 1) k now) J pre W) := by
  have HRD := Lib.hid hRD; have HT := Lib.hid ht; have HS := Lib.hid hs; have HJB := Lib.hid hJB; have HW := Lib.hid hW; have HN0 := Lib.hid hn0; have HN := Lib.hid hN; have HIH := Lib.hid ih; have HJ0 := Lib.hid (show J (pre ++ prdTo t d now k 0) W by rw [show prdTo t d now k 0 = [] from rfl, List.append_nil]; exact hj); have HALL := Lib.hid (prdTo_all t d now k); have HLEN := Lib.hid (prdTo_len t d now k); have HSU := Lib.hid (prdTo_succ t d now k); have H2 := Lib.hid h2; have hl := ht.1; have hd1 : ((d : Int) + 1 == 0) = false := by rw [beq_eq_false_iff_ne]; omega
  have hpw : 1 ≤ (60 : Int) ^ d := Int.pow_pos (by decide); have HPW := Lib.hid hpw
  have hn60 : now * 60 ≤ M := by
    have e : now * 60 ^ (d + 1) = (now * 60) * 60 ^ d := by rw [Int.pow_succ, Int.mul_assoc, Int.mul_comm 60 (60 ^ d)]
    rw [e] at h2; have := Int.mul_le_mul_of_nonneg_left (a := 1) (b := (60 : Int) ^ d) (c := now * 60) hpw (by omega); omega
  have hd5 : d ≤ 1000000 := by
    have : (d : Int) < 60 ^ d := by
      clear hpw HPW h2 H2 hN HN ih HIH HALL HLEN HSU hj HJ0 hd1 hn60
      induction d with
      | zero => decide
      | succ d ihd => rw [Int.pow_succ]; omega
    have h3 : (60 : Int) ^ d ≤ M := by
      have e : now * 60 ^ (d + 1) = (now * 60) * 60 ^ d := by rw [Int.pow_succ, Int.mul_assoc, Int.mul_comm 60 (60 ^ d)]
      rw [e] at h2; have := Int.mul_le_mul_of_nonneg_right (a := 1) (b := now * 60) (c := (60 : Int) ^ d) (by omega) (by omega); omega
    omega
  clear hRD ht hs hJB hW hn0 hN ih hj h2 hpw
  go_enter Tryz.func122, Tryz.ntmps122
  go_wp2
  go_loopw [10] (fun v wr => ∃ i j : Nat, k + j = i ∧ i ≤ t.length ∧ v = .int .i64 i ∧ Hid (J (pre ++ prdTo t d now k j) wr) ∧ Hid (KpT n0 kx W wr)) (fun v _ => t.length - (intOf v).toNat)
  case atStart => exact ⟨k, 0, by omega, hk, rfl, HJ0, Lib.hid (KpT.refl _ _ _)⟩
  case round =>
    obtain ⟨i, j, hij, hi, rfl, HJ, HK⟩ := hrel; have HWR := Lib.hid (HW.out.kept HS.out HK.out); have r5 : wr.cell? ⟨bR, 5, none⟩ = some (.slice q t.length c) := by rw [cell_of_row _ _ _ _ _ _ HWR.out.kr]; rfl
    have rs0 : wr.cell? ⟨bs, 0, none⟩ = some (.func (.func 122) #[] #[.pointer (some ⟨bY, 0, none⟩), .pointer (some ⟨bR, 0, none⟩), .pointer (some ⟨bs, 0, none⟩)]) := by rw [cell_of_row _ _ _ _ _ _ HWR.out.ks]; rfl
    have hwj : IntKind.i64.wrap ((i : Int) + 1) = (i : Int) + 1 := w64 _ (by omega) (by omega); have HIJ := Lib.hid hij
    by_cases hlt : i < t.length
    · have hltI : decide ((i : Int) < (t.length : Int)) = true := decide_eq_true (by omega)
      obtain ⟨b, off, rfl, hc⟩ := (HRD.out.below HWR.out.below).at hlt; have d0 := hc i hlt; have hgi := HT.out.2 i hlt; have HSJ := Lib.hid (show prdTo t d now k (j + 1) = prdTo t d now k j ++ prdF t d i (now * gi t i) by rw [HSU.out, hij])
      have HNJ := Lib.hid (show (pre ++ prdTo t d now k j).length + (prdF t d i (now * gi t i)).length ≤ N by
        have h1 := HLEN.out (t.length - k) (j + 1) (by omega); rw [HALL.out, HSU.out, hij, List.length_append] at h1; have := HN.out; rw [List.length_append]; omega)
      have hdd : IntKind.i64.wrap (d : Int) = (d : Int) := w64 _ (by omega) (by omega); obtain ⟨y, hy⟩ : ∃ y, gi t i = y := ⟨_, rfl⟩; have HY := Lib.hid hy; rw [hy] at d0 hgi HSJ HNJ
      have hny : 1 ≤ now * y ∧ now * y ≤ now * 60 := ⟨by
        have := Int.mul_le_mul_of_nonneg_left (a := 1) (b := y) (c := now) hgi.1 (by omega); omega, Int.mul_le_mul_of_nonneg_left hgi.2 (by omega)⟩
      have HNY := Lib.hid (show now * y * 60 ^ d ≤ M by
        have e : now * 60 ^ (d + 1) = (now * 60) * 60 ^ d := by rw [Int.pow_succ, Int.mul_assoc, Int.mul_comm 60 (60 ^ d)]
        have h2 := H2.out; rw [e] at h2; exact Int.le_trans (Int.mul_le_mul_of_nonneg_right hny.2 (by have := HPW.out; omega)) h2)
      obtain ⟨P, hP⟩ : ∃ P, now * y = P := ⟨_, rfl⟩; rw [hP] at hny HSJ HNJ HNY; have hwm : IntKind.i64.wrap (now * y) = P := by rw [hP]; exact w64 _ (by omega) (by omega)
      have HCL := Lib.hid (fun W0 (hb : Below wr.heap.size wr W0) => HIH.out i P (pre ++ prdTo t d now k j) W0 (by omega) hny.1 HNY.out (HWR.out.kept HS.out (KpT.of_below hb (Nat.le_trans HN0.out HK.out.1.size))) (Nat.le_trans HN0.out (Nat.le_trans HK.out.1.size hb.size)) (HJB.out _ _ _ HJ.out hb) HNJ.out); have HKB := Lib.hid (fun W0 (hb : Below wr.heap.size wr W0) => (KpT.of_below hb (Nat.le_trans HN0.out HK.out.1.size) : KpT n0 kx wr W0)); clear hc hy hP hij; go_wp2; have HSB := Lib.hid (cl3 rs0 r5 d0); refine held3 rs0 r5 d0 (fun W0 HB0 => ?_); refine tk 0 rfl (by exact HSB.out _ HB0) ?_; (try simp only [Act.put, ptL]); refine tk 1 rfl (by exact HSB.out _ HB0) ?_; (try simp only [Act.put, ptL]); refine tk 2 rfl (by exact HSB.out _ HB0) ?_; (try simp only [Act.put, ptL]); refine tk 3 rfl (by exact HSB.out _ HB0) ?_; (try simp only [Act.put, ptL]); refine tk 4 rfl (by exact HSB.out _ HB0) ?_; (try simp only [Act.put, ptL]); refine tk 5 rfl (by exact HSB.out _ HB0) ?_; (try simp only [Act.put, ptL]); refine tk 6 rfl (by exact HSB.out _ HB0) ?_; (try simp only [Act.put, ptL]); refine tk 7 rfl (by exact HSB.out _ HB0) ?_; (try simp only [Act.put, ptL]); refine tk 8 rfl (by exact HSB.out _ HB0) ?_; (try simp only [Act.put, ptL]); refine tk 9 rfl (by exact HSB.out _ HB0) ?_; (try simp only [Act.put, ptL]); refine tk 10 rfl (by exact HSB.out _ HB0) ?_; (try simp only [Act.put, ptL])
      refine rz1 11 rfl ?_; intro K hK; go_simp; refine (HCL.out _ HB0).mono ?_; rintro e W1 ⟨rfl, hj1, hk1⟩; have HJ1 := Lib.hid (show J (pre ++ prdTo t d now k (j + 1)) W1 by rw [HSJ.out, ← List.append_assoc]; exact hj1); have HK1 := Lib.hid (HK.out.trans ((HKB.out _ HB0).trans hk1)); have hw1 := HW.out.kept HS.out HK1.out; have r5' : W1.cell? ⟨bR, 5, none⟩ = some (.slice (some ⟨b, off, none⟩) t.length c) := by rw [cell_of_row _ _ _ _ _ _ hw1.kr]; rfl
      have rs0' : W1.cell? ⟨bs, 0, none⟩ = some (.func (.func 122) #[] #[.pointer (some ⟨bY, 0, none⟩), .pointer (some ⟨bR, 0, none⟩), .pointer (some ⟨bs, 0, none⟩)]) := by rw [cell_of_row _ _ _ _ _ _ hw1.ks]; rfl
      have d0' : W1.cell? ⟨b, off + i, none⟩ = some (.int .i64 y) := by
        obtain ⟨b', off', he, hc'⟩ := (HRD.out.below hw1.below).at hlt
        injection he with he
        injection he with e1 e2
        subst e1 e2; rw [hc' i hlt, HY.out]
      refine kz hK (by exact ⟨rs0', r5', d0'⟩) ?_; clear hK K; (try simp only [Act.put, ptL]); refine tk 12 rfl (by exact ⟨rs0', r5', d0'⟩) ?_; (try simp only [Act.put, ptL]); refine wpAnyH_done (by kernel_rfl) ?_ _; clear hj1 hk1 hw1 r5' rs0' d0' HSB HB0 r5 rs0 d0 HCL HKB HNJ HSJ HJ HK HNY; go_wp2; go_roundw
      case rel => exact ⟨k + (j + 1), j + 1, rfl, by have := HIJ.out; omega, by have := HIJ.out; simp; omega, HJ1, HK1⟩
      case measure => simp [intOf]; omega
    · obtain rfl : i = t.length := by omega
      have hltI : decide ((t.length : Int) < (t.length : Int)) = false := by simp
      have HE := Lib.hid (show prdTo t d now k j = prdF t (d + 1) k now by rw [← HALL.out, show t.length - k = j by have := HIJ.out; omega]); go_wp2; go_ret; exact ⟨rfl, by rw [← HE.out]; exact HJ.out, HK.out⟩
set_option maxRecDepth 100000 in
theorem p_search (a0 a1 a2 a3 a4 : Value) (q : Option Addr) (c bR bY bs l n0 kx N : Nat) (t : List Int) (we : World) (hRD : RdI we q t) (ht : Tth t) (hs : Sk n0 kx bR bY bs we) (M : Int) (hM : M ≤ 1000000)
    (J : List Int → World → Prop) (hJB : ∀ pre W W', J pre W → Below W.heap.size W W' → J pre W') (hY : YieldOk n0 kx N (fun x => 1 ≤ x ∧ x ≤ M) l J) :
    ∀ (d k : Nat) (now : Int) (pre : List Int) (W : World), k ≤ t.length → 1 ≤ now → now * 60 ^ d ≤ M → Sy a0 a1 a2 a3 a4 q t.length c bR bY bs l we W → n0 ≤ W.heap.size → J pre W → pre.length + (prdF t d k now).length ≤ N →
      Calls Tryz.prog 122 #[.int .i64 k, .int .i64 d, .int .i64 now, .pointer (some ⟨bY, 0, none⟩), .pointer (some ⟨bR, 0, none⟩), .pointer (some ⟨bs, 0, none⟩)] W (PrPost n0 kx (prdF t d k now) J pre W) := by
  intro d
  induction d with
  | zero =>
    intro k now pre W hk h1 h2 hW hn0 hj hN; exact (callsIn_wide (n := 1)).1 (p_end 1 (by omega) a0 a1 a2 a3 a4 q t.length c bR bY bs l n0 kx N we _ J hY k now pre W ⟨h1, by simpa using h2⟩ hW hj (by simpa [prdF] using hN))
  | succ d ih =>
    intro k now pre W hk h1 h2 hW hn0 hj hN; exact p_node a0 a1 a2 a3 a4 q c bR bY bs l n0 kx N t we hRD ht hs J hJB M hM d k now pre W hk h1 h2 hW hn0 hj hN ih
end Go.Proofs.YtchclaipbahiiaaGreat
end

section
namespace Go.Proofs.YtchclaipbahiiaaGreat
open Go Go.RowKit Go.Proofs
set_option linter.unusedVariables false
attribute [local go_sem] imax2 imin2
theorem yTo_len (p : Pc) (a : List Int) (h : a.length < p.ms.length) (k : Nat) : (yTo p a k).length ≤ (yF p a).length := by
  have e := yTo_all p a h ((gm p.ms a.length).2 - (gm p.ms a.length).1 + 1).toNat (Nat.le_refl _)
  rw [← e]
  unfold yTo
  obtain ⟨L, hL⟩ : ∃ L, rng (gm p.ms a.length).1 (gm p.ms a.length).2 = L := ⟨_, rfl⟩
  have hl : L.length = ((gm p.ms a.length).2 - (gm p.ms a.length).1 + 1).toNat := by rw [← hL, rng_len]
  rw [hL, ← hl, List.take_length]
  have hs : (L.take k).Sublist L := List.take_sublist k L
  exact (sub_flatMap hs _).length_le
theorem gi_self (a : List Int) (n : Int) : inV a ++ [Value.int .i64 n] = inV (a ++ [n]) := by rw [inV_append]; rfl
set_option maxHeartbeats 3200000 in
set_option maxRecDepth 100000 in
theorem c_searchNode (pm pv pr : Option Addr) (cm cv cr bp bY bs l n0 kx N : Nat) (p : Pc) (we : World) (hp : PieceOk p) (hRP : RdP we pm pv pr p) (hs : Sk n0 kx bp bY bs we)
    (J : List Tv → World → Prop) (hJ : ∀ pre W W', J pre W → Below W.heap.size W W' → J pre W')
    (a : List Int) (q : Option Addr) (cq : Nat) (pre : List Tv) (W : World) (ha : a.length < p.ms.length) (ht : Tried p a) (hq : a = [] → q = none ∧ cq = 0) (ho : W.ownsRow n0 3 1 (.slice q a.length cq) a.length (inV a)) (hW : Sx p pm pv pr cm cv cr bp bY bs l we W) (hn0 : n0 ≤ W.heap.size)
    (hj : J pre W) (hN : pre.length + (yF p a).length ≤ N)
    (ih : ∀ (a' : List Int) (q' : Option Addr) (cq' : Nat) (pre' : List Tv) (W' : World), a'.length = a.length + 1 → Tried p a' → W'.ownsRow n0 3 1 (.slice q' a'.length cq') a'.length (inV a') → Sx p pm pv pr cm cv cr bp bY bs l we W' → n0 ≤ W'.heap.size → J pre' W' → pre'.length + (yF p a').length ≤ N →
      Calls Tryz.prog 145 #[.slice q' a'.length cq', .pointer (some ⟨bp, 0, none⟩), .pointer (some ⟨bY, 0, none⟩), .pointer (some ⟨bs, 0, none⟩)] W' (SrPost p n0 kx a' J pre' W')) :
    Calls Tryz.prog 145 #[.slice q a.length cq, .pointer (some ⟨bp, 0, none⟩), .pointer (some ⟨bY, 0, none⟩), .pointer (some ⟨bs, 0, none⟩)] W (SrPost p n0 kx a J pre W) := by
  obtain ⟨i0, hi0, hz0, hz1, hz2⟩ := info_parts infI
  have hml := piece_len hp
  obtain ⟨lo, hi, hlo⟩ : ∃ lo hi, gm p.ms a.length = (lo, hi) := ⟨_, _, rfl⟩
  have hms := hp.mesh a.length ha
  have hys := yTo_succ p a
  have hya := yTo_all p a ha
  have hyl := yTo_len p a ha
  have htn : ∀ n : Int, (gm p.ms a.length).1 ≤ n → n ≤ (gm p.ms a.length).2 → Tried p (a ++ [n]) := fun n h1 h2 => ht.snoc ha h1 h2
  rw [hlo] at hms hys hya htn
  simp only at hms hys hya htn
  obtain ⟨hm0, hm1, hm2, hm3⟩ := hms
  obtain ⟨cnt, hcnt⟩ : ∃ cnt : Nat, (hi - lo + 1).toNat = cnt := ⟨_, rfl⟩
  rw [hcnt] at hys hya
  have hcI : (cnt : Int) = hi - lo + 1 := by omega
  have rd : ∀ w, Sx p pm pv pr cm cv cr bp bY bs l we w → w.cell? ⟨bp, 0, none⟩ = some (.slice pm p.ms.length cm) ∧ w.cell? ⟨bs, 0, none⟩ = some (.func (.func 145) #[] #[.pointer (some ⟨bp, 0, none⟩), .pointer (some ⟨bY, 0, none⟩), .pointer (some ⟨bs, 0, none⟩)]) ∧
      ∃ b off, pm = some ⟨b, off, none⟩ ∧ w.cell? ⟨b, off + a.length * 2, none⟩ = some (.int .i64 lo) ∧ w.cell? ⟨b, off + a.length * 2 + 1, none⟩ = some (.int .i64 hi) := by
    intro w hw
    refine ⟨by rw [cell_of_row _ _ _ _ _ _ hw.kp]; rfl, by rw [cell_of_row _ _ _ _ _ _ hw.ks]; rfl, ?_⟩
    obtain ⟨b, off, e, hc⟩ := (hRP.below hw.below).ms.at ha
    have := hc a.length ha
    rw [hlo] at this
    exact ⟨b, off, e, this⟩
  obtain ⟨k0, ks0, b, off, hpm, d0, d1⟩ := rd W hW
  subst hpm
  have HRD := Lib.hid rd
  have HJ := Lib.hid hj
  have HJB := Lib.hid hJ
  have HO := Lib.hid ho
  have HQ := Lib.hid hq
  have HT := Lib.hid ht
  have HW := Lib.hid hW
  have HA := Lib.hid ha
  have HN := Lib.hid hN
  have HS := Lib.hid hs
  have HN0 := Lib.hid hn0
  have HIH := Lib.hid ih
  have HYS := Lib.hid hys
  have HYA := Lib.hid hya
  have HYL := Lib.hid hyl
  have HTN := Lib.hid htn
  have HCI := Lib.hid hcI
  have haI : ((a.length : Int) == (p.ms.length : Int)) = false := by simp; omega
  have haL : (a.length : Int) < (p.ms.length : Int) := by omega
  have haM := Lib.hid (show a.length ≤ 4 by omega)
  clear hj hJ ho hq ht hW hN hs hn0 ih hys hya hyl htn rd hRP hml hp hlo hcI
  go_enter Tryz.func145, Tryz.ntmps145
  go_wp2
  go_loopw [9] (fun v wr => ∃ (k : Nat) (ys : List Tv), k ≤ cnt ∧ v = .int .i64 (lo + (k : Int)) ∧ Hid (ys.map Tv.pl = yTo p a k) ∧ Hid (J (pre ++ ys) wr) ∧ Hid (∀ x ∈ ys, MemT p n0 x wr) ∧ Hid (KpT n0 kx W wr)) (fun v _ => cnt - (intOf v - lo).toNat)
  case atStart => exact ⟨0, [], Nat.zero_le _, by simp, Lib.hid (by rw [yTo_zero]; rfl), Lib.hid (by rw [List.append_nil]; exact HJ.out), Lib.hid (fun x hx => by cases hx), Lib.hid (KpT.refl _ _ _)⟩
  case round =>
    obtain ⟨k, ys, hk, rfl, HYT, HJR, HM, HK⟩ := hrel
    have HWR := Lib.hid (HW.out.kept HS.out HK.out)
    obtain ⟨r0, rs0, b', off', hpm, e0, e1⟩ := HRD.out wr HWR.out
    obtain ⟨rfl, rfl⟩ : b = b' ∧ off = off' := by
      injection hpm with h
      injection h with h1 h2
      exact ⟨h1, h2⟩
    clear hpm
    by_cases hlt : k < cnt
    · have hle : lo + (k : Int) ≤ hi := by have := HCI.out; omega
      have hBW : n0 ≤ wr.heap.size := Nat.le_trans HN0.out HK.out.1.size
      have hor : wr.ownsRow n0 3 1 (.slice q a.length cq) a.length (inV a) := HK.out.own HS.out.k (by decide) HO.out
      obtain ⟨q', c', hqe, hRd⟩ := rd_of_own hor
      obtain ⟨rfl, rfl⟩ : q = q' ∧ cq = c' := by
        injection hqe with h1 h2 h3
        exact ⟨h1, h3⟩
      have HBW := Lib.hid hBW
      have HR := Lib.hid hRd
      have hal : a.length ≤ 1000000 := by have := haM.out; omega
      have HAL := Lib.hid hal
      have h0b : 0 ≤ bs := Nat.zero_le _
      have HN' := Lib.hid (show (pre ++ ys).length + (yF p (a ++ [lo + (k : Int)])).length ≤ N by
        have h1 := HN.out
        have h2 := HYL.out (k + 1)
        rw [HYS.out k hlt, List.length_append, ← HYT.out, List.length_map] at h2
        rw [List.length_append]; omega)
      have HT' := Lib.hid (HTN.out (lo + (k : Int)) (by omega) hle)
      have HYK := Lib.hid (HYS.out k hlt)
      have hal1 : (a ++ [lo + (k : Int)]).length = a.length + 1 := by simp
      have HL1 := Lib.hid hal1
      -- what is known in each world in which the last call may stand
      have HFIN : Hid (∀ (w5 : World) (q5 : Option Addr) (c5 : Nat), Below wr.heap.size wr w5 → w5.ownsRow n0 3 1 (.slice q5 (a.length + 1) c5) (a.length + 1) (inV a ++ [.int .i64 (lo + (k : Int))]) →
          Calls Tryz.prog 145 #[.slice q5 (a.length + 1) c5, .pointer (some ⟨bp, 0, none⟩), .pointer (some ⟨bY, 0, none⟩), .pointer (some ⟨bs, 0, none⟩)] w5 fun e W' => e = .returned (.bool true) ∧
            ∃ ys' : List Tv, ys'.map Tv.pl = yTo p a (k + 1) ∧ J (pre ++ ys') W' ∧ (∀ x ∈ ys', MemT p n0 x W') ∧ KpT n0 kx W W') := by
        intro w5 q5 c5 hb5 ho5
        rw [gi_self] at ho5
        have hkr : KpT n0 kx wr w5 := KpT.of_below hb5 HBW.out
        have h1 := HIH.out (a ++ [lo + (k : Int)]) q5 c5 (pre ++ ys) w5 HL1.out HT'.out (by rw [HL1.out]; exact ho5) (HWR.out.kept HS.out hkr) (Nat.le_trans HBW.out hb5.size) (HJB.out _ _ _ HJR.out hb5) HN'.out
        rw [HL1.out] at h1
        refine h1.mono ?_
        rintro e W' ⟨rfl, xs, hx1, hx2, hx3, hx4⟩
        refine ⟨rfl, ys ++ xs, by rw [List.map_append, HYT.out, hx1, HYK.out], by rw [← List.append_assoc]; exact hx2, ?_, HK.out.trans (hkr.trans hx4)⟩
        intro x hx
        rcases List.mem_append.1 hx with h | h
        · exact (HM.out x h).kept (hkr.trans hx4) HS.out.k
        · exact hx3 x h
      clear hqe hRd hor hBW hal hal1 h0b
      go_upto_region 8 with (fail)
      have HA0 := Lib.hid (show ∀ o : Obj, (wr.alloc o).cell? ⟨bs, 0, none⟩ = some (.func (.func 145) #[] #[.pointer (some ⟨bp, 0, none⟩), .pointer (some ⟨bY, 0, none⟩), .pointer (some ⟨bs, 0, none⟩)]) from fun o => ((below_alloc1 wr o).cell (lt_of_cellq rs0)).trans rs0)
      go_region_held3 (fun w' => w'.cell? ⟨bs, 0, none⟩ = some (.func (.func 145) #[] #[.pointer (some ⟨bp, 0, none⟩), .pointer (some ⟨bY, 0, none⟩), .pointer (some ⟨bs, 0, none⟩)]))
          (first | exact kD | exact kC | exact HA.out _ | exact kB | exact HA0.out _ | exact rs0)
          (first
            | (go_at_call 91; (with_reducible refine (c_Clone_any q cq a wr.drew (HR.out.below ((Below.refl _ _).drew)) HAL.out HQ.out).mono ?_); rintro e wb ⟨v1, rfl, hov, hbv⟩
               have kB : wb.cell? ⟨bs, 0, none⟩ = some (.func (.func 145) #[] #[.pointer (some ⟨bp, 0, none⟩), .pointer (some ⟨bY, 0, none⟩), .pointer (some ⟨bs, 0, none⟩)]) := (hbv.cell (lt_of_cellq rs0)).trans rs0
               have HA : Hid (∀ o : Obj, (wb.alloc o).cell? ⟨bs, 0, none⟩ = some (.func (.func 145) #[] #[.pointer (some ⟨bp, 0, none⟩), .pointer (some ⟨bY, 0, none⟩), .pointer (some ⟨bs, 0, none⟩)])) := Lib.hid fun o => ((below_alloc1 wb o).cell (lt_of_cellq kB)).trans kB
               have HBW1 : Hid (Below wr.heap.size wr (wb.alloc (.cells #[.int .i64 (lo + (k : Int))] 3))) := Lib.hid ((Below.mono ⟨hbv.os, hbv.tape, hbv.output, hbv.size, hbv.block⟩ (Nat.le_refl _) : Below wr.heap.size wr wb).alloc hbv.size _)
               have HOV : Hid ((wb.alloc (.cells #[.int .i64 (lo + (k : Int))] 3)).ownsRow wr.heap.size 3 1 v1 a.length (inV a)) := Lib.hid (hov.alloc _))
            | (go_at_call 91; (with_reducible refine (c_Clone_any q cq a (wr.alloc (.cells #[.int .i64 (lo + (k : Int))] 3)).drew (HR.out.below ((below_alloc1 wr _).drew)) HAL.out HQ.out).mono ?_); rintro e wb ⟨v1, rfl, hov, hbv⟩
               have kB : wb.cell? ⟨bs, 0, none⟩ = some (.func (.func 145) #[] #[.pointer (some ⟨bp, 0, none⟩), .pointer (some ⟨bY, 0, none⟩), .pointer (some ⟨bs, 0, none⟩)]) := (hbv.cell (lt_of_cellq (HA0.out (.cells #[.int .i64 (lo + (k : Int))] 3)))).trans (HA0.out _)
               have HBW2 : Hid (Below wr.heap.size wr wb) := Lib.hid ((below_alloc1 wr _).trans (Below.mono ⟨hbv.os, hbv.tape, hbv.output, hbv.size, hbv.block⟩ (by simp)))
               have HNW : Hid (wb.heap[wr.heap.size]? = some (.cells #[.int .i64 (lo + (k : Int))] 3 (0, 0))) := Lib.hid ((hbv.block wr.heap.size (by simp)).trans (alloc_new wr _))
               have HOV : Hid (wb.ownsRow wr.heap.size 3 1 v1 a.length (inV a)) := Lib.hid (own_mono hov (by simp)))
            | (refine step_append_lies _ rfl _ _ 23 rfl wr.heap.size 3 i0 _ 1 8 Tryz.underlying23 hi0 hz0 hz1 hz2 rfl (by decide) v1 a.length (inV a) rfl HOV.out ⟨wb.heap.size, 0, none⟩ 1 1 [.int .i64 (lo + (k : Int))] rfl rfl (fun j u hj => by exact news_of wb _ 3 j u hj) (by intro u hu; simp at hu; subst hu; rfl) (by decide) (by have := HAL.out; unfold maxLen; omega) (by have := HAL.out; omega) (by exact HBW1.out.size) _ rfl ?_
               intro g cap3 w7 hown' hgrow _ _
               have hb7 : Below wr.heap.size wr w7 := HBW1.out.grown hgrow HBW1.out.size (fun j hj => (HOV.out.lt j hj).1)
               have kC : w7.cell? ⟨bs, 0, none⟩ = some (.func (.func 145) #[] #[.pointer (some ⟨bp, 0, none⟩), .pointer (some ⟨bY, 0, none⟩), .pointer (some ⟨bs, 0, none⟩)]) := (hb7.cell (lt_of_cellq rs0)).trans rs0
               have HFF := Lib.hid (HFIN.out w7 (some ⟨g, 0, none⟩) cap3 hb7 (own_mono hown' HBW.out)))
            | (refine step_append_lies _ rfl _ _ 23 rfl wr.heap.size 3 i0 _ 1 8 Tryz.underlying23 hi0 hz0 hz1 hz2 rfl (by decide) v1 a.length (inV a) rfl HOV.out ⟨wr.heap.size, 0, none⟩ 1 1 [.int .i64 (lo + (k : Int))] rfl rfl (World.news_of_block HNW.out) (by intro u hu; simp at hu; subst hu; rfl) (by decide) (by have := HAL.out; unfold maxLen; omega) (by have := HAL.out; omega) (by exact HBW2.out.size) _ rfl ?_
               intro g cap3 w7 hown' hgrow _ _
               have hb7 : Below wr.heap.size wr w7 := HBW2.out.grown hgrow HBW2.out.size (fun j hj => (HOV.out.lt j hj).1)
               have kC : w7.cell? ⟨bs, 0, none⟩ = some (.func (.func 145) #[] #[.pointer (some ⟨bp, 0, none⟩), .pointer (some ⟨bY, 0, none⟩), .pointer (some ⟨bs, 0, none⟩)]) := (hb7.cell (lt_of_cellq rs0)).trans rs0
               have HFF := Lib.hid (HFIN.out w7 (some ⟨g, 0, none⟩) cap3 hb7 (own_mono hown' HBW.out)))
            | (go_at_call 145; (with_reducible refine HFF.out.mono ?_); rintro e w8 ⟨rfl, ys', hy1, hy2, hy3, hy4⟩
               have kD := (HRD.out w8 (HW.out.kept HS.out hy4)).2.1))
      all_goals
        have H1 := Lib.hid hy1
        have H2 := Lib.hid hy2
        have H3 := Lib.hid hy3
        have H4 := Lib.hid hy4
        clear hy1 hy2 hy3 hy4
        go_wp2
        go_roundw
        case rel => exact ⟨k + 1, ys', by omega, by simp; omega, H1, H2, H3, H4⟩
        case measure => simp [intOf]; omega
    · obtain rfl : k = cnt := by omega
      have hle : ¬ lo + (k : Int) ≤ hi := by have := HCI.out; omega
      have HYAL := Lib.hid (HYA.out k (Nat.le_refl _))
      go_wp2
      go_ret
      exact ⟨rfl, ys, by rw [HYT.out, HYAL.out], HJR.out, HM.out, HK.out⟩
end Go.Proofs.YtchclaipbahiiaaGreat
end

section
namespace Go.Proofs.YtchclaipbahiiaaGreat
open Go Go.RowKit Go.Proofs Go.Shelf
set_option linter.unusedVariables false
attribute [local go_sem] Oper.semAt_some imax2 imin2
theorem c_search (pm pv pr : Option Addr) (cm cv cr bp bY bs l n0 kx N : Nat) (p : Pc) (we : World) (hp : PieceOk p) (hRP : RdP we pm pv pr p) (hs : Sk n0 kx bp bY bs we)
    (J : List Tv → World → Prop) (hJ : ∀ pre W W', J pre W → Below W.heap.size W W' → J pre W')
    (hY : ∀ m pre x W1, J pre W1 → MemT p n0 x W1 → pre.length < N → YieldAt Fence.wide m Tryz.prog l (tvE x) W1 fun e W' => e = .returned (.bool true) ∧ J (pre ++ [x]) W' ∧ KpT n0 kx W1 W') :
    ∀ (d : Nat) (a : List Int) (q : Option Addr) (cq : Nat) (pre : List Tv) (W : World), a.length + d = p.ms.length → Tried p a → (a = [] → q = none ∧ cq = 0) → W.ownsRow n0 3 1 (.slice q a.length cq) a.length (inV a) → Sx p pm pv pr cm cv cr bp bY bs l we W → n0 ≤ W.heap.size →
      J pre W → pre.length + (yF p a).length ≤ N →
      Calls Tryz.prog 145 #[.slice q a.length cq, .pointer (some ⟨bp, 0, none⟩), .pointer (some ⟨bY, 0, none⟩), .pointer (some ⟨bs, 0, none⟩)] W (SrPost p n0 kx a J pre W) := by
  intro d
  induction d with
  | zero =>
    intro a q cq pre W ha ht hq ho hW hn0 hj hN; exact (callsIn_wide (n := 1)).1 (c_searchEnd 1 (by omega) pm pv pr cm cv cr bp bY bs l n0 kx N p we hp hRP hs J hJ hY a q cq pre W (by omega) ht ho hW hn0 hj hN)
  | succ d ih =>
    intro a q cq pre W ha ht hq ho hW hn0 hj hN; refine c_searchNode pm pv pr cm cv cr bp bY bs l n0 kx N p we hp hRP hs J hJ a q cq pre W (by omega) ht hq ho hW hn0 hj hN ?_; intro a' q' cq' pre' W' ha' ht' ho' hW' hn0' hj' hN'; exact ih a' q' cq' pre' W' (by omega) ht' (fun e => by subst e; simp at ha') ho' hW' hn0' hj' hN'
set_option maxHeartbeats 1600000 in
set_option maxRecDepth 100000 in
theorem truths_seq (n : Nat) (hn : 2 ≤ n) (pm pv pr : Option Addr) (cm cv cr bp n0 kx : Nat) (p : Pc) (we w : World) (hp : PieceOk p) (hRP : RdP we pm pv pr p) (hn0 : n0 ≤ w.heap.size)
    (hkp : w.heap[bp]? = some (.cells #[.slice pm p.ms.length cm, .slice pv p.mv.length cv, .slice pr p.rs.length cr] 59 (0, 0))) (hbk : bp ≠ kx) (hkx : kx < n0) (hwe : we.heap.size ≤ kx) (hb : Below we.heap.size we w) :
    SeqMem Fence.wide n Tryz.prog 144 #[.pointer (some ⟨bp, 0, none⟩)] tvE (KpT n0 kx) (MemT p n0) (fun xs => xs.map Tv.pl = truthsF p) (truthsF p).length w := by
  intro l J W hW hJ hY h0; have hJB : ∀ pre W1 W2, J pre W1 → Below W1.heap.size W1 W2 → J pre W2 := fun pre W1 W2 h b => hJ pre W1 W2 none h ⟨b.os, b.tape, b.output, b.size, fun i hi _ => b.block i hi⟩ (fun r e => by cases e)
  have hYY : ∀ m pre x W1, J pre W1 → MemT p n0 x W1 → pre.length < (truthsF p).length → YieldAt Fence.wide m Tryz.prog l (tvE x) W1 fun e W' => e = .returned (.bool true) ∧ J (pre ++ [x]) W' ∧ KpT n0 kx W1 W' :=
    fun m pre x W1 h1 h2 h3 => YieldAt.anyDepth rfl m (hY pre x W1 h1 h2 h3)
  have hsz := hW.size; obtain ⟨w1, e1, HS1, y0, yf, b1⟩ := box1 W (.func (.yield l) #[] #[]) 207; have ky := alloc_new W (.cells #[.func (.yield l) #[] #[]] 207); rw [e1] at ky; obtain ⟨w2, e2, HS2, s0, sf, b2⟩ := box1 w1 .nilFunc 110; have ks := alloc_new w1 (.cells #[.nilFunc] 110); rw [e2] at ks; have fs : w2.frozen? ⟨w1.heap.size, 0, none⟩ = false := frozen_of_row _ _ _ _ _ ks; obtain ⟨F, hF⟩ : ∃ F : Value, Value.func (.func 145) #[] #[.pointer (some ⟨bp, 0, none⟩), .pointer (some ⟨W.heap.size, 0, none⟩), .pointer (some ⟨w1.heap.size, 0, none⟩)] = F := ⟨_, rfl⟩; obtain ⟨w3, s3⟩ : ∃ w3, w2.setCell ⟨w1.heap.size, 0, none⟩ F = w3 := ⟨_, rfl⟩; have ks3 : w3.heap[w1.heap.size]? = some (.cells #[F] 110 (0, 0)) := by rw [← s3, heap_setCell_same w2 w1.heap.size 0 _ _ _ ks]; rfl
  have b3 : Below w1.heap.size w1 w3 := by rw [← s3]; exact b2.setCell (Nat.le_refl _) _
  have bW : Below W.heap.size W w3 := b1.trans (b3.mono b1.size); have c3 : w3.cell? ⟨w1.heap.size, 0, none⟩ = some F := by rw [cell_of_row _ _ _ _ _ _ ks3]; rfl
  have hk3 := (bW.block bp (by have := block_lt hkp; omega)).trans ((hW.block bp (block_lt hkp)).trans hkp); have hz1 := HS1.out; have hSx : Sx p pm pv pr cm cv cr bp W.heap.size w1.heap.size l we w3 := ⟨hk3, (b3.block _ (block_lt ky)).trans ky, by rw [ks3, ← hF], hb.trans ((hW.mono hb.size).trans (bW.mono (by have := hb.size; omega)))⟩; have hSk : Sk n0 kx bp W.heap.size w1.heap.size we := ⟨hbk, by omega, by omega, hkx, hwe⟩; have hcl := c_search pm pv pr cm cv cr bp W.heap.size w1.heap.size l n0 kx (truthsF p).length p we hp hRP hSk J hJB hYY p.ms.length [] none 0 [] w3 (by simp) (tried_nil p) (fun _ => ⟨rfl, rfl⟩) (World.ownsRow_nil _ _ _ _) hSx (by have := bW.size; omega) (hJB _ _ _ h0 bW) (by rw [yF_nil]; simp); have hd : 1 ≤ n - 1 := by omega
  clear hSx hSk hk3 bW b3 ks3 ks ky hJB hYY hY hJ h0 hz1 b1 b2 hkp hb hRP hW hsz hwe hkx hbk hn0; rw [← hF] at s3 c3; subst hF; show CallsIn Fence.wide n Tryz.prog 144 #[.func (.yield l) #[] #[], .pointer (some ⟨bp, 0, none⟩)] W _; refine callsIn_of_wp Tryz.func144 rfl trivial ?_ rfl; simp only [Tryz.ntmps144, List.size_toArray, List.length_cons, List.length_nil, Nat.reduceAdd, Nat.reduceSub, Array.replicate_succ, Array.replicate_zero, List.push_toArray, List.append_toArray, List.nil_append, List.cons_append]
  gi_wp2_with fail
  refine ⟨trivial, fun _ => (by omega), ?_⟩; refine (callsIn_wide.2 hcl).mono ?_; clear hcl; rintro e w4 ⟨rfl, xs, hx1, hx2, hx3, hx4⟩; have H1 := Lib.hid hx1; have H2 := Lib.hid hx2; have H3 := Lib.hid hx3; clear hx1 hx2 hx3 hx4
  gi_wp2
  go_end0
  exact ⟨⟨_, rfl⟩, xs, by rw [H1.out, yF_nil], H2.out, H3.out⟩
theorem c_truths (pm pv pr : Option Addr) (cm cv cr : Nat) (p : Pc) (w : World) :
    Calls Tryz.prog 102 #[.agg #[.slice pm p.ms.length cm, .slice pv p.mv.length cv, .slice pr p.rs.length cr]] w fun e w' => e = .returned (.func (.func 144) #[] #[.pointer (some ⟨w.heap.size, 0, none⟩)]) ∧
      w.alloc (.cells #[.slice pm p.ms.length cm, .slice pv p.mv.length cv, .slice pr p.rs.length cr] 59) = w' := by
  go_enter Tryz.func102, Tryz.ntmps102
  go_wp2; go_ret; exact ⟨rfl, rfl⟩
end Go.Proofs.YtchclaipbahiiaaGreat
end

section
namespace Go.Proofs.YtchclaipbahiiaaGreat
open Go Go.RowKit Go.Proofs Go.Shelf
set_option linter.unusedVariables false
set_option linter.unusedSimpArgs false
attribute [local go_sem] Oper.semAt_some imax2 imin2
theorem prdF_in {t : List Int} (ht : Tth t) {M : Int} : ∀ (d k : Nat) (now : Int), 1 ≤ now → now * 60 ^ d ≤ M → ∀ x ∈ prdF t d k now, 1 ≤ x ∧ x ≤ M := by
  intro d
  induction d with
  | zero =>
    intro k now h1 h2 x hx; rw [prdF, List.mem_singleton] at hx; subst hx; exact ⟨h1, by simpa using h2⟩
  | succ d ih =>
    intro k now h1 h2 x hx; rw [prdF] at hx; obtain ⟨i, hi, hx⟩ := List.mem_flatMap.1 hx; have hi' : i < t.length := by have := List.mem_range'_1.1 hi; omega
    obtain ⟨g1, g2⟩ := ht.2 i hi'; have e : now * 60 ^ (d + 1) = (now * 60) * 60 ^ d := by rw [Int.pow_succ, Int.mul_assoc, Int.mul_comm 60 (60 ^ d)]
    rw [e] at h2; have hp : 0 ≤ (60 : Int) ^ d := Int.le_of_lt (Int.pow_pos (by decide)); refine ih i (now * gi t i) ?_ (Int.le_trans (Int.mul_le_mul_of_nonneg_right (Int.mul_le_mul_of_nonneg_left g2 (by omega)) hp) h2) x hx; have := Int.mul_le_mul_of_nonneg_left (a := 1) (b := gi t i) (c := now) g1 (by omega); omega
set_option maxHeartbeats 1600000 in
set_option maxRecDepth 100000 in
theorem products_seq (n : Nat) (hn : 2 ≤ n) (a0 a1 a2 a3 a4 : Value) (q : Option Addr) (c bR bN n0 kx d : Nat) (t : List Int) (we w : World) (hRD : RdI we q t) (ht : Tth t) (M : Int) (hM : M ≤ 1000000) (hd : (60 : Int) ^ d ≤ M) (hn0 : n0 ≤ w.heap.size)
    (hkr : w.heap[bR]? = some (.cells #[a0, a1, a2, a3, a4, .slice q t.length c] 89 (0, 0))) (hkn : w.cell? ⟨bN, 0, none⟩ = some (.int .i64 d)) (hbk : bR ≠ kx) (hkx : kx < n0) (hwe : we.heap.size ≤ kx) (hb : Below we.heap.size we w) :
    SeqMem Fence.wide n Tryz.prog 121 #[.pointer (some ⟨bR, 0, none⟩), .pointer (some ⟨bN, 0, none⟩)] (fun x : Int => #[.int .i64 x]) (KpT n0 kx) (fun x _ => 1 ≤ x ∧ x ≤ M) (fun xs => xs = prodsL t d) (prodsL t d).length w := by
  intro l J W hW hJ hY h0; have hJB : ∀ pre W1 W2, J pre W1 → Below W1.heap.size W1 W2 → J pre W2 := fun pre W1 W2 h b => hJ pre W1 W2 none h ⟨b.os, b.tape, b.output, b.size, fun i hi _ => b.block i hi⟩ (fun r e => by cases e)
  have hYY : YieldOk n0 kx (prodsL t d).length (fun x => 1 ≤ x ∧ x ≤ M) l J := fun m pre x W1 h1 h2 h3 => YieldAt.anyDepth rfl m (hY pre x W1 h1 h2 h3)
  have hsz := hW.size; obtain ⟨w1, e1, HS1, y0, yf, b1⟩ := box1 W (.func (.yield l) #[] #[]) 97; have ky := alloc_new W (.cells #[.func (.yield l) #[] #[]] 97); rw [e1] at ky; obtain ⟨w2, e2, HS2, s0, sf, b2⟩ := box1 w1 .nilFunc 72; have ks := alloc_new w1 (.cells #[.nilFunc] 72); rw [e2] at ks; have fs : w2.frozen? ⟨w1.heap.size, 0, none⟩ = false := frozen_of_row _ _ _ _ _ ks; obtain ⟨F, hF⟩ : ∃ F : Value, Value.func (.func 122) #[] #[.pointer (some ⟨W.heap.size, 0, none⟩), .pointer (some ⟨bR, 0, none⟩), .pointer (some ⟨w1.heap.size, 0, none⟩)] = F := ⟨_, rfl⟩; obtain ⟨w3, s3⟩ : ∃ w3, w2.setCell ⟨w1.heap.size, 0, none⟩ F = w3 := ⟨_, rfl⟩; have ks3 : w3.heap[w1.heap.size]? = some (.cells #[F] 72 (0, 0)) := by rw [← s3, heap_setCell_same w2 w1.heap.size 0 _ _ _ ks]; rfl
  have b3 : Below w1.heap.size w1 w3 := by rw [← s3]; exact b2.setCell (Nat.le_refl _) _
  have bW : Below W.heap.size W w3 := b1.trans (b3.mono b1.size); have c3 : w3.cell? ⟨w1.heap.size, 0, none⟩ = some F := by rw [cell_of_row _ _ _ _ _ _ ks3]; rfl
  have n3 : w3.cell? ⟨bN, 0, none⟩ = some (.int .i64 d) := by
    have h1 := (hW.cell (lt_of_cellq hkn)).trans hkn; exact (bW.cell (lt_of_cellq h1)).trans h1
  have hk3 := (bW.block bR (by have := block_lt hkr; omega)).trans ((hW.block bR (block_lt hkr)).trans hkr); have hz1 := HS1.out; have hSx : Sy a0 a1 a2 a3 a4 q t.length c bR W.heap.size w1.heap.size l we w3 := ⟨hk3, (b3.block _ (block_lt ky)).trans ky, by rw [ks3, ← hF], hb.trans ((hW.mono hb.size).trans (bW.mono (by have := hb.size; omega)))⟩; have hSk : Sk n0 kx bR W.heap.size w1.heap.size we := ⟨hbk, by omega, by omega, hkx, hwe⟩; have hcl := p_search a0 a1 a2 a3 a4 q c bR W.heap.size w1.heap.size l n0 kx (prodsL t d).length t we hRD ht hSk M hM J hJB hYY d 0 1 [] w3 (Nat.zero_le _) (Int.le_refl _) (by rw [Int.one_mul]; exact hd) hSx (by have := bW.size; omega) (hJB _ _ _ h0 bW) (by unfold prodsL; simp); have hin := prdF_in ht (M := M) d 0 1 (Int.le_refl _) (by rw [Int.one_mul]; exact hd); have HIN := Lib.hid hin; have hd1 : 1 ≤ n - 1 := by omega
  clear hSx hSk hk3 bW b3 ks3 ks ky hJB hYY hY hJ h0 hz1 b1 b2 hkr hb hRD hW hsz hwe hkx hbk hn0 hkn hin hd hM ht; rw [← hF] at s3 c3; subst hF; show CallsIn Fence.wide n Tryz.prog 121 #[.func (.yield l) #[] #[], .pointer (some ⟨bR, 0, none⟩), .pointer (some ⟨bN, 0, none⟩)] W _; refine callsIn_of_wp Tryz.func121 rfl trivial ?_ rfl; simp only [Tryz.ntmps121, List.size_toArray, List.length_cons, List.length_nil, Nat.reduceAdd, Nat.reduceSub, Array.replicate_succ, Array.replicate_zero, List.push_toArray, List.append_toArray, List.nil_append, List.cons_append]
  gi_wp2_with fail
  refine ⟨trivial, fun _ => (by omega), ?_⟩; refine (callsIn_wide.2 hcl).mono ?_; clear hcl; rintro e w4 ⟨rfl, hj4, hk4⟩; have H2 := Lib.hid hj4; clear hj4 hk4
  gi_wp2
  go_end0
  exact ⟨⟨_, rfl⟩, prodsL t d, rfl, by have := H2.out; rw [List.nil_append] at this; exact this, HIN.out⟩
theorem t_products (a0 a1 a2 a3 a4 a5 : Value) (d : Int) (w : World) :
    Calls Tryz.prog 76 #[.agg #[a0, a1, a2, a3, a4, a5], .int .i64 d] w fun e w' => e = .returned (.func (.func 121) #[] #[.pointer (some ⟨w.heap.size, 0, none⟩), .pointer (some ⟨w.heap.size + 1, 0, none⟩)]) ∧
      (w.alloc (.cells #[a0, a1, a2, a3, a4, a5] 89)).alloc (.cells #[.int .i64 d] 3) = w' := by
  go_enter Tryz.func76, Tryz.ntmps76
  go_wp2; go_ret; exact ⟨rfl, rfl⟩
end Go.Proofs.YtchclaipbahiiaaGreat
end

section
namespace Go.Proofs.YtchclaipbahiiaaGreat
open Go Go.RowKit Go.Proofs Go.Shelf
set_option linter.unusedVariables false
def KpP (n0 kx : Nat) (w w' : World) : Prop := BelX (fun x => x = kx) n0 w w' ∧ ∀ (b : Nat) (cur : Array Value) (ty : TypeId) (fr : Nat × Nat), w.heap[b]? = some (.cells cur ty fr) → b ≠ kx → ty ≠ 99 → w'.heap[b]? = w.heap[b]?
theorem KpP.refl (n0 kx : Nat) (w : World) : KpP n0 kx w w := ⟨BelX.refl _ _ _, fun _ _ _ _ _ _ _ => rfl⟩
theorem KpP.trans {n0 kx : Nat} {a b c : World} (h : KpP n0 kx a b) (k : KpP n0 kx b c) : KpP n0 kx a c :=
  ⟨h.1.trans k.1, fun b cur ty fr hb h1 h2 => by
    have e := h.2 b cur ty fr hb h1 h2; exact (k.2 b cur ty fr (e.trans hb) h1 h2).trans e⟩
theorem KpP.of_below {n0 kx : Nat} {w w' : World} (h : Below w.heap.size w w') (hn : n0 ≤ w.heap.size) : KpP n0 kx w w' :=
  ⟨(belX_of h).mono hn, fun b cur ty fr hb _ _ => h.block b (block_lt hb)⟩
theorem KpP.keeps {n0 kx : Nat} {w w' : World} (h : KpP n0 kx w w') {b : Nat} {cur : Array Value} {ty : TypeId} {fr : Nat × Nat} (hb : w.heap[b]? = some (.cells cur ty fr)) (h1 : b ≠ kx) (h2 : ty ≠ 99) : w'.heap[b]? = some (.cells cur ty fr) :=
  (h.2 b cur ty fr hb h1 h2).trans hb
theorem KpP.own {n0 kx B size n : Nat} {ty : TypeId} {v : Value} {xs : List Value} {w w' : World} (h : KpP n0 kx w w') (hk : kx < B) (h2 : ty ≠ 99) (ho : w.ownsRow B ty size v n xs) : w'.ownsRow B ty size v n xs := by
  refine own_same ho fun g hg => ?_
  rcases ho.2 with ⟨rfl, _⟩ | ⟨g', cap, cur, rfl, hb, hh, _⟩
  · simp [Value.ownBlock] at hg
  · simp [Value.ownBlock] at hg
    subst hg; exact h.2 _ _ _ _ hh (by omega) h2
theorem KpP.below {n0 kx B : Nat} {w w' : World} (h : KpP n0 kx w w') (h1 : B ≤ kx) (h2 : B ≤ n0) : Below B w w' := (h.1.mono h2).below (Nat.le_refl _) (fun x hx => by subst hx; exact h1)
theorem KpP.putObj {n0 kx : Nat} {W : World} {l : Nat} {o o' : Obj} (hn : n0 ≤ l) (hl : W.heap[l]? = some o) (ho : o.isCells = false) : KpP n0 kx W (W.putObj l o') := by
  have hg := grownBy_putObj' W l o'; refine ⟨⟨hg.os, hg.tape, hg.output, hg.size, fun k hk _ => World.putObj_heap_other (by omega)⟩, fun b cur ty fr hb _ _ => World.putObj_heap_other ?_⟩; intro e; subst e; rw [hl] at hb
  cases hb
  cases ho
theorem KpP.setCell {n0 kx : Nat} {a w : World} (h : KpP n0 kx a w) (j : Nat) (v : Value) : KpP n0 kx a (w.setCell ⟨kx, j, none⟩ v) :=
  h.trans ⟨BelX.setCell (X := fun x => x = kx) (BelX.refl _ _ _) (p := ⟨kx, j, none⟩) (.inl rfl) v, fun b cur ty fr hb h1 _ => Below.heap_setCell _ _ _ _ h1⟩
theorem KpP.alloc {n0 kx : Nat} {a w : World} (h : KpP n0 kx a w) (hn : n0 ≤ w.heap.size) (o : Obj) : KpP n0 kx a (w.alloc o) := h.trans (KpP.of_below (below_alloc1 w o) hn)
theorem KpP.grown {n0 kx size n : Nat} {v : Value} {xs : List Value} {W W' : World} (ho : W.ownsRow n0 99 size v n xs) (hn : n0 ≤ W.heap.size) (hg : W.grownBy W' v.ownBlock) : KpP n0 kx W W' := by
  have key : ∀ j, v.ownBlock = some j → n0 ≤ j ∧ ∃ cur fr, W.heap[j]? = some (.cells cur 99 fr) := by
    intro j hj
    rcases ho.2 with ⟨rfl, _⟩ | ⟨g', cap, cur, rfl, hb, hh, _⟩
    · simp [Value.ownBlock] at hj
    · simp [Value.ownBlock] at hj
      subst hj; exact ⟨hb, _, _, hh⟩
  refine ⟨⟨hg.os, hg.tape, hg.output, hg.size, fun k hk _ => hg.block k (by omega) (fun e => by have := (key k e.symm).1; omega)⟩, fun b cur ty fr hb _ h2 => hg.block b (block_lt hb) (fun e => ?_)⟩; obtain ⟨_, cur', fr', h⟩ := key b e.symm; rw [hb] at h
  cases h
  exact h2 rfl
def PpPost (n0 kx : Nat) (xs : List Int) (J : List Int → World → Prop) (pre : List Int) (W : World) (e : Ending) (W' : World) : Prop :=
  e = .returned (.bool true) ∧ J (pre ++ xs) W' ∧ KpP n0 kx W W'
def YpOk (n0 kx N : Nat) (Px : Int → Prop) (l : Nat) (J : List Int → World → Prop) : Prop :=
  ∀ m pre x W1, J pre W1 → Px x → pre.length < N → YieldAt Fence.wide m Tryz.prog l #[.int .i64 x] W1 fun e W' => e = .returned (.bool true) ∧ J (pre ++ [x]) W' ∧ KpP n0 kx W1 W'
end Go.Proofs.YtchclaipbahiiaaGreat
end

section
namespace Go.Proofs.YtchclaipbahiiaaGreat
open Go Go.RowKit Go.Proofs Go.Shelf
set_option linter.unusedVariables false
set_option linter.unusedSimpArgs false
attribute [local go_sem] Oper.semAt_some imax2 imin2
structure Sw (p : Option Addr) (L c bL bY bs l : Nat) (we W : World) : Prop where
  kr : W.heap[bL]? = some (.cells #[.slice p L c] 45 (0, 0))
  ky : W.heap[bY]? = some (.cells #[.func (.yield l) #[] #[]] 97 (0, 0))
  ks : W.heap[bs]? = some (.cells #[.func (.func 136) #[] #[.pointer (some ⟨bs, 0, none⟩), .pointer (some ⟨bL, 0, none⟩), .pointer (some ⟨bY, 0, none⟩)]] 97 (0, 0))
  below : Below we.heap.size we W
theorem Sw.kept {p : Option Addr} {L c bL bY bs l n0 kx : Nat} {we W W' : World} (h : Sw p L c bL bY bs l we W) (hs : Sk n0 kx bL bY bs we) (hk : KpP n0 kx W W') : Sw p L c bL bY bs l we W' :=
  ⟨hk.keeps h.kr hs.p (by decide), hk.keeps h.ky hs.y (by decide), hk.keeps h.ks hs.s (by decide), h.below.trans (hk.below hs.e (by have := hs.e; have := hs.k; omega))⟩
def natI (l : List Nat) : List Int := l.map fun (i : Nat) => (i : Int)
set_option maxHeartbeats 1600000 in
set_option maxRecDepth 100000 in
theorem s_zero (p : Option Addr) (L c bL bY bs l n0 kx : Nat) (J : List Int → World → Prop) (pre : List Int) (W : World) (hj : J pre W) :
    Calls Tryz.prog 136 #[.int .i64 0, .pointer (some ⟨bs, 0, none⟩), .pointer (some ⟨bL, 0, none⟩), .pointer (some ⟨bY, 0, none⟩)] W (PpPost n0 kx [] J pre W) := by
  have HJ := Lib.hid hj; clear hj
  go_enter Tryz.func136, Tryz.ntmps136
  go_wp2; go_ret; exact ⟨rfl, by rw [List.append_nil]; exact HJ.out, KpP.refl _ _ _⟩
set_option maxHeartbeats 1600000 in
set_option maxRecDepth 100000 in
theorem s_step (n : Nat) (hn : 2 ≤ n) (p : Option Addr) (c bL bY bs l n0 kx N : Nat) (ls : List (Int × Int × Int)) (we : World) (hRD : RdLk we p ls) (ht : LkOk ls) (hs : Sk n0 kx bL bY bs we)
    (J : List Int → World → Prop) (hJB : ∀ pre W W', J pre W → Below W.heap.size W W' → J pre W') (hY : YpOk n0 kx N (fun x => 0 ≤ x ∧ x < ls.length) l J)
    (d a : Nat) (pre : List Int) (W : World) (ha : a < ls.length) (hW : Sw p ls.length c bL bY bs l we W) (hn0 : n0 ≤ W.heap.size) (hj : J pre W) (hN : pre.length + (pathF ls (d + 1) (a + 1)).length ≤ N)
    (ih : ∀ (f : Nat) (W' : World), f ≤ a → Sw p ls.length c bL bY bs l we W' → n0 ≤ W'.heap.size → J pre W' → pre.length + (pathF ls d f).length ≤ N →
      Calls Tryz.prog 136 #[.int .i64 f, .pointer (some ⟨bs, 0, none⟩), .pointer (some ⟨bL, 0, none⟩), .pointer (some ⟨bY, 0, none⟩)] W' (PpPost n0 kx (natI (pathF ls d f)) J pre W')) :
    CallsIn Fence.wide n Tryz.prog 136 #[.int .i64 ((a : Int) + 1), .pointer (some ⟨bs, 0, none⟩), .pointer (some ⟨bL, 0, none⟩), .pointer (some ⟨bY, 0, none⟩)] W (PpPost n0 kx (natI (pathF ls (d + 1) (a + 1))) J pre W) := by
  obtain ⟨b, off, rfl, hc⟩ := (hRD.below hW.below).at ha; obtain ⟨d0, _, _⟩ := hc a ha; have hfr := ht.2 a ha; have HP := Lib.hid (pathF_succ ls d a); obtain ⟨f, hf⟩ : ∃ f : Nat, (gk ls a).1 = (f : Int) := ⟨(gk ls a).1.toNat, by omega⟩; rw [hf] at d0 hfr HP; rw [Int.toNat_natCast] at HP; have hla := ht.1; have s0 : W.cell? ⟨bs, 0, none⟩ = some (.func (.func 136) #[] #[.pointer (some ⟨bs, 0, none⟩), .pointer (some ⟨bL, 0, none⟩), .pointer (some ⟨bY, 0, none⟩)]) := by rw [cell_of_row _ _ _ _ _ _ hW.ks]; rfl
  have l0 : W.cell? ⟨bL, 0, none⟩ = some (.slice (some ⟨b, off, none⟩) ls.length c) := by rw [cell_of_row _ _ _ _ _ _ hW.kr]; rfl
  have y0 : W.cell? ⟨bY, 0, none⟩ = some (.func (.yield l) #[] #[]) := by rw [cell_of_row _ _ _ _ _ _ hW.ky]; rfl
  have hlen : (pathF ls (d + 1) (a + 1)).length = (pathF ls d f).length + 1 := by rw [HP.out, List.length_append]; rfl
  have HIH := Lib.hid (fun W' (bw : Below W.heap.size W W') => ih f W' (by omega) (hW.kept hs (KpP.of_below bw hn0)) (Nat.le_trans hn0 bw.size) (hJB _ _ _ hj bw) (by omega)); have HYY := Lib.hid hY; have HW := Lib.hid hW; have HS := Lib.hid hs; have HJB := Lib.hid hJB; have HN0 := Lib.hid hn0; have HKB := Lib.hid (fun W0 (hb : Below W.heap.size W W0) => (KpP.of_below hb hn0 : KpP n0 kx W W0)); have HLN := Lib.hid (show pre.length + (natI (pathF ls d f)).length < N by unfold natI; rw [List.length_map]; omega); have HPP := Lib.hid (show natI (pathF ls (d + 1) (a + 1)) = natI (pathF ls d f) ++ [(a : Int)] by rw [HP.out]; unfold natI; rw [List.map_append]; rfl); rw [HPP.out]; have hd1 : ((a : Int) + 1 == 0) = false := by rw [beq_eq_false_iff_ne]; omega
  have hws : IntKind.i64.wrap ((a : Int) + 1 - 1) = (a : Int) := by rw [show (a : Int) + 1 - 1 = (a : Int) by omega]; exact w64 _ (by omega) (by omega)
  have hwa : IntKind.i64.wrap (a : Int) = (a : Int) := w64 _ (by omega) (by omega); have haI : (a : Int) < (ls.length : Int) := by omega
  have hmx : Tryz.prog.follows .mixedOrders = true := by kernel_rfl
  clear hRD ht hs hJB hY hW hj hN ih hc hf hlen hfr; refine callsIn_of_wp Tryz.func136 rfl trivial ?_ rfl; simp only [Tryz.ntmps136, List.size_toArray, List.length_cons, List.length_nil, Nat.reduceAdd, Nat.reduceSub, Array.replicate_succ, Array.replicate_zero, List.push_toArray, List.append_toArray, List.nil_append, List.cons_append]
  gi_wp2_with fail
  gi_region_with_o (first
    | (refine ⟨trivial, fun _ => (by omega), ?_⟩; refine (callsIn_wide.2 (HIH.out _ (by first | exact Below.refl _ _ | exact (Below.refl _ _).drew | exact (Below.refl _ _).drew.drew))).mono ?_; rintro e W1 ⟨rfl, hj1, hk1⟩
       have HK1 := Lib.hid ((HKB.out _ (by first | exact Below.refl _ _ | exact (Below.refl _ _).drew | exact (Below.refl _ _).drew.drew)).trans hk1); have hw1 := HW.out.kept HS.out HK1.out; have y1 : W1.cell? ⟨bY, 0, none⟩ = some (.func (.yield l) #[] #[]) := by rw [cell_of_row _ _ _ _ _ _ hw1.ky]; rfl
       obtain ⟨fn, tmps, assign, body, hy, hR⟩ := HYY.out (n - 1) (pre ++ natI (pathF ls d f)) a W1 hj1 ⟨by omega, by omega⟩ (by rw [List.length_append]; exact HLN.out); clear hj1 hk1 hw1)
    | (refine ⟨fun _ => (by omega), ?_⟩; refine hR.mono ?_; rintro e W2 ⟨rfl, hj2, hk2⟩))
  all_goals
    have HJ2 := Lib.hid (show J (pre ++ (natI (pathF ls d f) ++ [(a : Int)])) W2 by rw [← List.append_assoc]; exact hj2); have HK2 := Lib.hid (HK1.out.trans hk2); clear hj2 hk2 hR hy y1
    gi_wp2
    go_ret
    first
      | exact ⟨rfl, HJ2.out, HK2.out⟩
      | exact ⟨rfl, HJB.out _ _ _ HJ2.out (Below.refl _ _).drew, HK2.out.trans (KpP.of_below (Below.refl _ _).drew (Nat.le_trans HN0.out HK2.out.1.size))⟩
theorem s_walk (p : Option Addr) (c bL bY bs l n0 kx N : Nat) (ls : List (Int × Int × Int)) (we : World) (hRD : RdLk we p ls) (ht : LkOk ls) (hs : Sk n0 kx bL bY bs we)
    (J : List Int → World → Prop) (hJB : ∀ pre W W', J pre W → Below W.heap.size W W' → J pre W') (hY : YpOk n0 kx N (fun x => 0 ≤ x ∧ x < ls.length) l J) :
    ∀ (d a : Nat) (pre : List Int) (W : World), a ≤ d → a ≤ ls.length → Sw p ls.length c bL bY bs l we W → n0 ≤ W.heap.size → J pre W → pre.length + (pathF ls d a).length ≤ N →
      Calls Tryz.prog 136 #[.int .i64 a, .pointer (some ⟨bs, 0, none⟩), .pointer (some ⟨bL, 0, none⟩), .pointer (some ⟨bY, 0, none⟩)] W (PpPost n0 kx (natI (pathF ls d a)) J pre W) := by
  intro d
  induction d with
  | zero =>
    intro a pre W h1 h2 hW hn0 hj hN; obtain rfl : a = 0 := by omega
    exact s_zero p ls.length c bL bY bs l n0 kx J pre W hj
  | succ d ih =>
    intro a pre W h1 h2 hW hn0 hj hN
    cases a with
    | zero => exact s_zero p ls.length c bL bY bs l n0 kx J pre W hj
    | succ a =>
      exact (callsIn_wide (n := 2)).1 (s_step 2 (by omega) p c bL bY bs l n0 kx N ls we hRD ht hs J hJB hY d a pre W (by omega) hW hn0 hj hN
        (fun f W' hf hW' hn' hj' hN' => ih f pre W' (by omega) (by omega) hW' hn' hj' hN'))
set_option maxHeartbeats 1600000 in
set_option maxRecDepth 100000 in
theorem path_seq (n : Nat) (hn : 2 ≤ n) (p : Option Addr) (c bL bA n0 kx a : Nat) (ls : List (Int × Int × Int)) (we w : World) (hRD : RdLk we p ls) (ht : LkOk ls) (ha : a ≤ ls.length) (hn0 : n0 ≤ w.heap.size)
    (hkr : w.heap[bL]? = some (.cells #[.slice p ls.length c] 45 (0, 0))) (hkn : w.cell? ⟨bA, 0, none⟩ = some (.int .i64 a)) (hbk : bL ≠ kx) (hkx : kx < n0) (hwe : we.heap.size ≤ kx) (hb : Below we.heap.size we w) :
    SeqMem Fence.wide n Tryz.prog 135 #[.pointer (some ⟨bL, 0, none⟩), .pointer (some ⟨bA, 0, none⟩)] (fun x : Int => #[.int .i64 x]) (KpP n0 kx) (fun x _ => 0 ≤ x ∧ x < ls.length) (fun xs => xs = natI (pathF ls ls.length a)) (natI (pathF ls ls.length a)).length w := by
  intro l J W hW hJ hY h0; have hJB : ∀ pre W1 W2, J pre W1 → Below W1.heap.size W1 W2 → J pre W2 := fun pre W1 W2 h b => hJ pre W1 W2 none h ⟨b.os, b.tape, b.output, b.size, fun i hi _ => b.block i hi⟩ (fun r e => by cases e)
  have hYY : YpOk n0 kx (natI (pathF ls ls.length a)).length (fun x => 0 ≤ x ∧ x < ls.length) l J := fun m pre x W1 h1 h2 h3 => YieldAt.anyDepth rfl m (hY pre x W1 h1 h2 h3)
  have hsz := hW.size; obtain ⟨w1, e1, HS1, y0, yf, b1⟩ := box1 W (.func (.yield l) #[] #[]) 97; have ky := alloc_new W (.cells #[.func (.yield l) #[] #[]] 97); rw [e1] at ky; obtain ⟨w2, e2, HS2, s0, sf, b2⟩ := box1 w1 .nilFunc 97; have ks := alloc_new w1 (.cells #[.nilFunc] 97); rw [e2] at ks; have fs : w2.frozen? ⟨w1.heap.size, 0, none⟩ = false := frozen_of_row _ _ _ _ _ ks; obtain ⟨F, hF⟩ : ∃ F : Value, Value.func (.func 136) #[] #[.pointer (some ⟨w1.heap.size, 0, none⟩), .pointer (some ⟨bL, 0, none⟩), .pointer (some ⟨W.heap.size, 0, none⟩)] = F := ⟨_, rfl⟩; obtain ⟨w3, s3⟩ : ∃ w3, w2.setCell ⟨w1.heap.size, 0, none⟩ F = w3 := ⟨_, rfl⟩; have ks3 : w3.heap[w1.heap.size]? = some (.cells #[F] 97 (0, 0)) := by rw [← s3, heap_setCell_same w2 w1.heap.size 0 _ _ _ ks]; rfl
  have b3 : Below w1.heap.size w1 w3 := by rw [← s3]; exact b2.setCell (Nat.le_refl _) _
  have bW : Below W.heap.size W w3 := b1.trans (b3.mono b1.size); have c3 : w3.cell? ⟨w1.heap.size, 0, none⟩ = some F := by rw [cell_of_row _ _ _ _ _ _ ks3]; rfl
  have n3 : w3.cell? ⟨bA, 0, none⟩ = some (.int .i64 a) := by
    have h1 := (hW.cell (lt_of_cellq hkn)).trans hkn; exact (bW.cell (lt_of_cellq h1)).trans h1
  have hk3 := (bW.block bL (by have := block_lt hkr; omega)).trans ((hW.block bL (block_lt hkr)).trans hkr); have hz1 := HS1.out; have hSx : Sw p ls.length c bL W.heap.size w1.heap.size l we w3 := ⟨hk3, (b3.block _ (block_lt ky)).trans ky, by rw [ks3, ← hF], hb.trans ((hW.mono hb.size).trans (bW.mono (by have := hb.size; omega)))⟩; have hSk : Sk n0 kx bL W.heap.size w1.heap.size we := ⟨hbk, by omega, by omega, hkx, hwe⟩; have hcl := s_walk p c bL W.heap.size w1.heap.size l n0 kx (natI (pathF ls ls.length a)).length ls we hRD ht hSk J hJB hYY ls.length a [] w3 ha ha hSx (by have := bW.size; omega) (hJB _ _ _ h0 bW) (by unfold natI; simp)
  have hin : ∀ x ∈ natI (pathF ls ls.length a), 0 ≤ x ∧ x < (ls.length : Int) := by
    intro x hx; unfold natI at hx; obtain ⟨i, hi, rfl⟩ := List.mem_map.1 hx; have := pathF_in ht ls.length a ha i hi; exact ⟨by omega, by omega⟩
  have HIN := Lib.hid hin; have hd1 : 1 ≤ n - 1 := by omega
  clear hSx hSk hk3 bW b3 ks3 ks ky hJB hYY hY hJ h0 hz1 b1 b2 hkr hb hRD hW hsz hwe hkx hbk hn0 hkn hin ha ht; rw [← hF] at s3 c3; subst hF; show CallsIn Fence.wide n Tryz.prog 135 #[.func (.yield l) #[] #[], .pointer (some ⟨bL, 0, none⟩), .pointer (some ⟨bA, 0, none⟩)] W _; refine callsIn_of_wp Tryz.func135 rfl trivial ?_ rfl; simp only [Tryz.ntmps135, List.size_toArray, List.length_cons, List.length_nil, Nat.reduceAdd, Nat.reduceSub, Array.replicate_succ, Array.replicate_zero, List.push_toArray, List.append_toArray, List.nil_append, List.cons_append]
  gi_wp2_with fail
  refine ⟨trivial, fun _ => (by omega), ?_⟩; refine (callsIn_wide.2 hcl).mono ?_; clear hcl; rintro e w4 ⟨rfl, hj4, hk4⟩; have H2 := Lib.hid hj4; clear hj4 hk4
  gi_wp2
  go_end0
  exact ⟨⟨_, rfl⟩, natI (pathF ls ls.length a), rfl, by have := H2.out; rw [List.nil_append] at this; exact this, HIN.out⟩
def farF (ls : List (Int × Int × Int)) (a : Nat) : Nat := (pathF ls ls.length a).length
set_option maxHeartbeats 1600000 in
set_option maxRecDepth 100000 in
theorem h_far (p : Option Addr) (c a : Nat) (ls : List (Int × Int × Int)) (w : World) (hx : RdLk w p ls) (ht : LkOk ls) (ha : a ≤ ls.length) :
    Calls Tryz.prog 96 #[.slice p ls.length c, .int .i64 a] w fun e w' => e = .returned (.int .i64 (farF ls a)) ∧ Below w.heap.size w w' := by
  refine (callsIn_wide (n := 6)).1 ?_; refine callsIn_of_wp_marks Tryz.func96 rfl trivial ?_ rfl; simp only [Tryz.ntmps96, List.size_toArray, List.length_cons, List.length_nil, Nat.reduceAdd, Nat.reduceSub, Array.replicate_succ, Array.replicate_zero, List.push_toArray, List.append_toArray, List.nil_append, List.cons_append]; obtain ⟨w3', e3', hz3, x0, f0, b3'⟩ := box1 w (.int .i64 0) 3; have kx' := alloc_new w (.cells #[.int .i64 0] 3); rw [e3'] at kx'; obtain ⟨w3, s3⟩ : ∃ w3, w3'.setCell ⟨w.heap.size, 0, none⟩ (.int .i64 0) = w3 := ⟨_, rfl⟩; have f0 := f0.out; have kx : w3.heap[w.heap.size]? = some (.cells #[.int .i64 0] 3 (0, 0)) := by rw [← s3, heap_setCell_same w3' w.heap.size 0 _ _ _ kx']; rfl
  have b3 : Below w.heap.size w w3 := by rw [← s3]; exact b3'.setCell (Nat.le_refl _) _
  have hz3' : w3.heap.size = w.heap.size + 1 := by rw [← s3]; simpa using hz3.out
  obtain ⟨w4, e4⟩ : ∃ w4, w3.alloc (.cells #[.slice p ls.length c] 45) = w4 := ⟨_, rfl⟩; have k4 := alloc_new w3 (.cells #[.slice p ls.length c] 45); have hz4 : w4.heap.size = w3.heap.size + 1 := by rw [← e4]; simp
  have b4 : Below w3.heap.size w3 w4 := by rw [← e4]; exact below_alloc1 _ _
  rw [e4] at k4; obtain ⟨w5, e5⟩ : ∃ w5, w4.alloc (.cells #[.int .i64 a] 3) = w5 := ⟨_, rfl⟩; have k5 := alloc_new w4 (.cells #[.int .i64 a] 3); have hz5 : w5.heap.size = w4.heap.size + 1 := by rw [← e5]; simp
  have b5 : Below w4.heap.size w4 w5 := by rw [← e5]; exact below_alloc1 _ _
  rw [e5] at k5; have q4 := (b5.block _ (block_lt k4)).trans k4; have b35 := b4.trans (b5.mono b4.size); have q3 := (b35.block _ (block_lt kx)).trans kx; have hB5 : Below w.heap.size w w5 := b3.trans (b35.mono b3.size); have c5 : w5.cell? ⟨w4.heap.size, 0, none⟩ = some (.int .i64 a) := by rw [cell_of_row _ _ _ _ _ _ k5]; rfl
  have hseq := path_seq 5 (by omega) p c w3.heap.size w4.heap.size w5.heap.size w.heap.size a ls w w5 hx ht ha (Nat.le_refl _) q4 c5 (by omega) (by omega) (Nat.le_refl _) hB5; have hpa := h_path p ls.length c a w3; rw [e4, e5, show w3.heap.size + 1 = w4.heap.size by omega] at hpa
  have hlen : (natI (pathF ls ls.length a)).length ≤ 5 := by
    unfold natI; rw [List.length_map]; have := pathF_len (ls := ls) ls.length a; have := ht.1; omega
  have HN := Lib.hid hlen; have HZ := Lib.hid (show w.heap.size < w5.heap.size by omega); have HF := Lib.hid (show (natI (pathF ls ls.length a)).length = farF ls a by unfold natI farF; rw [List.length_map]); clear hx ht ha b3 b4 b5 b35 kx k4 k5 q4 c5 hz3 hz3' hz4 hz5 e4 e5 hlen
  gi_wp2_with fail
  refine ⟨trivial, ?_⟩; refine (callsIn_wide.2 hpa).mono ?_; rintro e w' ⟨rfl, rfl⟩; clear hpa e3' s3 x0 f0 kx' b3'
  gi_wp2_with fail
  refine wpIn_rangeFunc_mem rfl (by omega) (gf := 135) (lb := #[.pointer (some ⟨w3.heap.size, 0, none⟩), .pointer (some ⟨w4.heap.size, 0, none⟩)]) rfl trivial (enters_of Tryz.func135 (by kernel_rfl) rfl) hseq (fun h k => h.trans k)
    (fun W l o o' hlz hlo ho _ => KpP.putObj hlz hlo ho) (fun x W l o o' hlo ho hm => hm) (Below.refl _ _) (fun _ => rfl)
    (fun pre W => W.heap[w.heap.size]? = some (.cells #[.int .i64 (pre.length : Int)] 3 (0, 0)) ∧ Below w.heap.size w W)
    (OwnFrom.and (fun s W W' row hs hg hr => (hg.block _ (block_lt hs) (fun e => by have := (hr _ e.symm).1; have := HZ.out; omega)).trans hs) (ownFrom_below (Nat.le_refl _) hB5.size)) ⟨q3, hB5⟩
    (fun x a' W => a' = { tmps := #[.slice p ls.length c, .int .i64 a, undef, undef, .int .i64 0, .pointer (some ⟨w.heap.size, 0, none⟩), .slice p ls.length c, .int .i64 a,
      .func (.func 135) #[] #[.pointer (some ⟨w3.heap.size, 0, none⟩), .pointer (some ⟨w4.heap.size, 0, none⟩)], .int .i64 x, undef, undef, undef], defers := [] }) (fun x a' s W W' row hs _ _ => hs) ?assign ?body ?done
  case assign =>
    intro l pre x W K hi hm hK; have hK' := hK _ W (KeepsFrom.refl _ _) (KpP.refl _ _ _) hi hm rfl; clear hK hi hm
    gi_wp2
    simp only [List.zip_toArray, List.zip_cons_cons, List.zip_nil_right]; exact hK'
  case body =>
    rintro l pre x a' W ⟨hi, hB⟩ hm rfl hlen; have y0 : W.cell? ⟨w.heap.size, 0, none⟩ = some (.int .i64 (pre.length : Int)) := by rw [cell_of_row _ _ _ _ _ _ hi]; rfl
    have yf : W.frozen? ⟨w.heap.size, 0, none⟩ = false := frozen_of_row _ _ _ _ _ hi; have hw : IntKind.i64.wrap ((pre.length : Int) + 1) = (pre.length : Int) + 1 := w64 _ (by have := HN.out; omega) (by have := HN.out; omega); have HI := Lib.hid hi; have HB := Lib.hid hB; clear hi hB hm hlen
    gi_wp2
    refine ⟨(KeepsOthers.setCell _ _ _).from _, KpP.setCell (KpP.refl _ _ _) _ _, ?_, HB.out.setCell (Nat.le_refl _) _⟩; rw [heap_setCell_same W w.heap.size 0 _ _ _ HI.out]
    simp
  case done =>
    rintro D xs W hD hS ⟨hi, hB⟩ hm hK; have y0 : W.cell? ⟨w.heap.size, 0, none⟩ = some (.int .i64 (xs.length : Int)) := by rw [cell_of_row _ _ _ _ _ _ hi]; rfl
    have HB := Lib.hid hB; have HS := Lib.hid hS; clear hi hB hS hm
    gi_wp2
    refine ⟨by simp, .inl ⟨_, _, rfl, run_takeDeferred hK, ?_⟩⟩; refine ⟨.int .i64 (xs.length : Int), ?_, by rw [HS.out, HF.out], HB.out.trans (belowK_b (w := w) (Nat.le_refl _) W D _ _ (by have := HZ.out; omega) hK rfl rfl)⟩; simp [results, Tryz.results96, go_sem]
structure PcGood (ls : List (Int × Int × Int)) (sp : List Int) : Prop where
  len : 1 ≤ ls.length ∧ ls.length ≤ 5
  spots : 1 ≤ sp.length ∧ sp.length ≤ 4
  frm : ∀ i : Nat, i < ls.length → 0 ≤ (gk ls i).1 ∧ (gk ls i).1 ≤ i
  one : ∀ i : Nat, i < ls.length → 4 ≤ (gk ls i).2.1 ∧ (gk ls i).2.1 ≤ 60
  two : ∀ i : Nat, i < ls.length → 4 ≤ (gk ls i).2.2 ∧ (gk ls i).2.2 ≤ 60
  far : ∀ i : Nat, i < ls.length → farF (ls.take i) (gk ls i).1.toNat ≤ 2
  at' : sp.all (fun x => inB x 1 ls.length) = true
theorem gk_take (ls : List (Int × Int × Int)) (i j : Nat) (h : j < i) : gk (ls.take i) j = gk ls j := by
  unfold gk; simp [List.getD_eq_getElem?_getD, List.getElem?_take, h]
theorem RdLk.take {w : World} {p : Option Addr} {ls : List (Int × Int × Int)} (h : RdLk w p ls) (i : Nat) : RdLk w p (ls.take i) := by
  rcases h with h | ⟨b, off, rfl, hc⟩
  · subst h; exact .inl (by simp)
  · refine .inr ⟨b, off, rfl, fun j hj => ?_⟩
    rw [List.length_take] at hj; rw [gk_take ls i j (by omega)]; exact hc j (by omega)
theorem LkOk.take {ls : List (Int × Int × Int)} (h : LkOk ls) (i : Nat) : LkOk (ls.take i) :=
  ⟨by rw [List.length_take]; have := h.1; omega, fun j hj => by rw [List.length_take] at hj; rw [gk_take ls i j (by omega)]; exact h.2 j (by omega)⟩
theorem h_farTo (p : Option Addr) (c i : Nat) (ls : List (Int × Int × Int)) (f : Nat) (w : World) (hx : RdLk w p ls) (ht : LkOk ls) (hi : i ≤ ls.length) (hf : f ≤ i) :
    Calls Tryz.prog 96 #[.slice p i c, .int .i64 f] w fun e w' => e = .returned (.int .i64 (farF (ls.take i) f)) ∧ Below w.heap.size w w' := by
  have hl : (ls.take i).length = i := by rw [List.length_take]; omega
  have h := h_far p c f (ls.take i) w (hx.take i) (ht.take i) (by omega); rw [hl] at h; exact h
set_option maxHeartbeats 1600000 in
set_option maxRecDepth 100000 in
theorem h_isPiece (p q : Option Addr) (c c' : Nat) (ls : List (Int × Int × Int)) (sp : List Int) (w : World) (hx : RdLk w p ls) (hq : RdI w q sp) (h : PcGood ls sp) (hcap : ls.length ≤ c) :
    Calls Tryz.prog 54 #[.agg #[.slice p ls.length c, .slice q sp.length c']] w fun e w' => e = .returned (.bool true) ∧ Below w.heap.size w w' := by
  obtain ⟨w1, e1, HS1, k0, k1, b1⟩ := box2 w (.slice p ls.length c) (.slice q sp.length c') 47; have HX := Lib.hid (hx.below b1); have HQ := Lib.hid (hq.below b1); have HB := Lib.hid b1; have HK := Lib.hid (And.intro k0 k1); have HH := Lib.hid h; have hl := h.len; have g1 : inB (ls.length : Int) 1 5 = true := inB_iff.2 ⟨by omega, by omega⟩; have g2 : inB (sp.length : Int) 1 4 = true := inB_iff.2 ⟨by have := h.spots; omega, by have := h.spots; omega⟩; clear hx hq h b1; refine (callsIn_wide (n := 6)).1 ?_; refine callsIn_of_wp Tryz.func54 rfl trivial ?_ rfl; simp only [Tryz.ntmps54, List.size_toArray, List.length_cons, List.length_nil, Nat.reduceAdd, Nat.reduceSub, Array.replicate_succ, Array.replicate_zero, List.push_toArray, List.append_toArray, List.nil_append, List.cons_append]
  gi_wp2_with fail
  refine ⟨trivial, ?_⟩; refine (callsIn_wide.2 (h_in _ _ _ _)).mono ?_; rw [g1]; rintro e w' ⟨rfl, rfl⟩
  gi_wp2_with fail
  refine ⟨trivial, ?_⟩; refine (callsIn_wide.2 (h_in _ _ _ _)).mono ?_; rw [g2]; rintro e w' ⟨rfl, rfl⟩
  gi_wp2
  clear e1 k0 k1
  gi_loopw [20] (fun i wr => ∃ k : Nat, k ≤ ls.length ∧ i = .int .i64 k ∧ Hid (Below w1.heap.size w1 wr)) (fun i _ => ls.length - (intOf i).toNat)
  case atStart => exact ⟨0, Nat.zero_le _, rfl, Lib.hid (Below.refl _ _)⟩
  case round =>
    obtain ⟨k, hk, rfl, HBR⟩ := hrel
    by_cases hlt : k < ls.length
    · have hltI : decide ((k : Int) < (ls.length : Int)) = true := by simp; omega
      have HXR := Lib.hid (HX.out.below HBR.out); obtain ⟨b, off, rfl, hc⟩ := HXR.out.at hlt; obtain ⟨d0, d1, d2⟩ := hc k hlt; have hf := HH.out.frm k hlt; have ho := HH.out.one k hlt; have htw := HH.out.two k hlt; have hfa := HH.out.far k hlt; obtain ⟨f, hf'⟩ : ∃ f : Nat, (gk ls k).1 = (f : Int) := ⟨(gk ls k).1.toNat, by omega⟩; rw [hf'] at d0 hf hfa; rw [Int.toNat_natCast] at hfa; obtain ⟨t1, ht1⟩ : ∃ t1, (gk ls k).2.1 = t1 := ⟨_, rfl⟩; obtain ⟨t2, ht2⟩ : ∃ t2, (gk ls k).2.2 = t2 := ⟨_, rfl⟩; rw [ht1] at d1 ho; rw [ht2] at d2 htw; obtain ⟨fa, hfe⟩ : ∃ fa, farF (ls.take k) f = fa := ⟨_, rfl⟩; have HFAR := Lib.hid (fun W (bw : Below wr.heap.size wr W) => h_farTo _ c k ls f W (HXR.out.below bw) ⟨by omega, HH.out.frm⟩ (by omega) (by omega)); rw [hfe] at HFAR hfa; have HPA := Lib.hid (fun W => h_pair t1 t2 W ho htw); have g3 : inB (f : Int) 0 (k : Int) = true := inB_iff.2 hf; have g4 : decide ((fa : Int) ≥ 3) = false := by simp; omega
      have z0 := (HBR.out.cell (lt_of_cellq HK.out.1)).trans HK.out.1; obtain ⟨w2, e2, HS2, x0, x1, x2, b2⟩ := box3 wr (.int .i64 f) (.int .i64 t1) (.int .i64 t2) 130; have z0 := (b2.cell (lt_of_cellq z0)).trans z0; have hkI : (k : Int) < (ls.length : Int) := by omega
      have HB2 := Lib.hid b2; have HBW := Lib.hid (HBR.out.trans (b2.mono HBR.out.size)); have hmx : Tryz.prog.follows .mixedOrders = true := by kernel_rfl
      clear hc hf' ht1 ht2 hfe hf ho htw hfa b2
      gi_wp2
      gi_region_with_o (first
        | (refine ⟨trivial, ?_⟩; refine (callsIn_wide.2 (h_in _ _ _ _)).mono ?_; rw [g3]; rintro e w' ⟨rfl, rfl⟩)
        | (refine ⟨trivial, ?_⟩; refine (callsIn_wide.2 (HPA.out _)).mono ?_; rintro e W1 ⟨rfl, c1⟩
           have HC1 := Lib.hid (show Below w2.heap.size w2 W1 by first | exact c1 | exact (Below.refl _ _).drew.trans c1 | exact (Below.refl _ _).drew.drew.trans c1 | exact (Below.refl _ _).drew.drew.drew.trans c1); have z1 := (HC1.out.cell (lt_of_cellq z0)).trans z0; have y1 := (HC1.out.cell (lt_of_cellq x0)).trans x0; clear c1)
        | (refine ⟨trivial, ?_⟩; refine (callsIn_wide.2 (HFAR.out _ (HB2.out.trans ((by first | exact HC1.out | exact HC1.out.drew | exact HC1.out.drew.drew : Below w2.heap.size w2 _).mono HB2.out.size)))).mono ?_; rintro e W3 ⟨rfl, c3⟩))
      all_goals
        have HC3 := Lib.hid (show Below w1.heap.size w1 W3 by
          have h13 : Below w2.heap.size w2 W3 := HC1.out.trans ((by first | exact c3 | exact (Below.refl _ _).drew.trans c3 | exact (Below.refl _ _).drew.drew.trans c3 : Below W1.heap.size W1 W3).mono HC1.out.size); exact HBW.out.trans (h13.mono HBW.out.size))
        clear c3 z1 y1 HC1 HFAR HPA e2 x0 x1 x2 z0 d0 d1 d2
        gi_wp2
        go_roundw
        case rel => exact ⟨k + 1, by omega, by go_num, HC3⟩
        case measure => simp [intOf]; omega
    · obtain rfl : k = ls.length := by omega
      have hltI : decide ((ls.length : Int) < (ls.length : Int)) = false := by simp
      have z0 := (HBR.out.cell (lt_of_cellq HK.out.1)).trans HK.out.1; have z1 := (HBR.out.cell (lt_of_cellq HK.out.2)).trans HK.out.2; have hcf := h_cfSpot q c' sp w.heap.size ls.length p c wr (HQ.out.below HBR.out) (by have := HH.out.spots; omega) z0; rw [HH.out.at'] at hcf
      gi_wp2_with fail
      refine ⟨trivial, ?_⟩; refine (callsIn_wide.2 hcf).mono ?_; rintro e w9 ⟨rfl, b9⟩; have HB9 := Lib.hid (HB.out.trans ((HBR.out.trans (b9.mono HBR.out.size)).mono HB.out.size)); clear b9 hcf
      gi_wp2
      go_ret; exact ⟨rfl, HB9.out⟩
end Go.Proofs.YtchclaipbahiiaaGreat
end

section
namespace Go.Proofs.YtchclaipbahiiaaGreat
open Go Go.RowKit Go.Proofs Go.Shelf
set_option linter.unusedVariables false
attribute [local go_sem] Oper.semAt_some imax2 imin2
theorem truths_le {p : Pc} (hp : PieceOk p) : (truthsF p).length ≤ 625 := by
  have key : ∀ (ms : List (Int × Int)), (∀ i, i < ms.length → (gm ms i).2 - (gm ms i).1 ≤ 4) → (prodF ms).length ≤ 5 ^ ms.length := by
    intro ms
    induction ms with
    | nil => intro _; simp [prodF]
    | cons m r ih =>
      intro h; have h0 := h 0 (by simp); have hr := ih (fun i hi => by have := h (i + 1) (by simp; omega); exact this); have h0' : m.2 - m.1 ≤ 4 := h0
      have hlen : ∀ (L : List Int), (L.flatMap fun n => (prodF r).map fun a => n :: a).length = L.length * (prodF r).length := by
        intro L
        induction L with
        | nil => simp
        | cons x L ih2 => rw [List.flatMap_cons, List.length_append, ih2, List.length_map, List.length_cons, Nat.add_mul]; omega
      simp only [prodF]; rw [hlen, rng_len, List.length_cons, Nat.pow_succ, Nat.mul_comm]; exact Nat.mul_le_mul hr (by omega)
  have h1 := key p.ms (fun i hi => (hp.mesh i hi).2.2.2); have h2 : (5 : Nat) ^ p.ms.length ≤ 5 ^ 4 := Nat.pow_le_pow_right (by decide) hp.n4; have h3 : (truthsF p).length ≤ (prodF p.ms).length := by unfold truthsF; exact List.length_filter_le _ _
  omega
theorem KpT.grown {n0 kx size n : Nat} {v : Value} {xs : List Value} {W W' : World} (ho : W.ownsRow n0 125 size v n xs) (hn : n0 ≤ W.heap.size) (hg : W.grownBy W' v.ownBlock) : KpT n0 kx W W' := by
  have key : ∀ j, v.ownBlock = some j → n0 ≤ j ∧ ∃ cur fr, W.heap[j]? = some (.cells cur 125 fr) := by
    intro j hj
    rcases ho.2 with ⟨rfl, _⟩ | ⟨g', cap, cur, rfl, hb, hh, _⟩
    · simp [Value.ownBlock] at hj
    · simp [Value.ownBlock] at hj
      subst hj; exact ⟨hb, _, _, hh⟩
  refine ⟨⟨hg.os, hg.tape, hg.output, hg.size, fun k hk _ => hg.block k (by omega) (fun e => by have := (key k e.symm).1; omega)⟩, fun b cur ty fr hb _ h2 => hg.block b (block_lt hb) (fun e => ?_)⟩; obtain ⟨_, cur', fr', h⟩ := key b e.symm; rw [hb] at h
  cases h
  exact h2 rfl
theorem tvV_at (xs : List Tv) : ∀ i, i < xs.length → ∃ x, xs[i]? = some x ∧ gl (xs.map Tv.pl) i = x.pl := by
  intro i hi; refine ⟨xs[i], List.getElem?_eq_getElem hi, ?_⟩; unfold gl; simp [hi]
theorem rdQ_of {w : World} {n0 g cap : Nat} {p : Pc} {xs : List Tv} (h : w.ownsRow n0 125 2 (.slice (some ⟨g, 0, none⟩) xs.length cap) xs.length (tvV xs)) (hm : ∀ x ∈ xs, MemT p n0 x w) : RdQ w (some ⟨g, 0, none⟩) p (xs.map Tv.pl) := by
  refine ⟨g, rfl, fun i hi => ?_⟩; rw [List.length_map] at hi; obtain ⟨x, hx, he⟩ := tvV_at xs i hi; rw [he]; obtain ⟨h1, h2, h3, h4⟩ := hm x (List.mem_of_getElem? hx); obtain ⟨c0, c1⟩ := tvV_get xs i x hx; have d0 := h.cells (g := g) rfl _ _ c0; have d1 := h.cells (g := g) rfl _ _ c1; rw [add_new] at d0 d1; obtain ⟨q', cq', hqe, hrq⟩ := rd_of_own h3
  injection hqe with e1 e2 e3
  subst e1; rw [h1] at d0 d1; have h2' : (endF p x.pl).length = x.pl.length + 1 := by rw [h2, h1]
  rw [← h2'] at h4
  have hcap : p.ms.length ≤ x.cq := by
    rw [← h1]
    rcases h3.2 with ⟨e, h0⟩ | ⟨g', cap', cur', e, _, _, hle, _⟩
    · injection e with _ _ e3
      rw [h0]; exact Nat.zero_le _
    · injection e with _ _ e3
      rw [e3]; exact hle
  exact ⟨h1, x.q, x.cq, some ⟨x.g, 0, none⟩, x.cg, d0, d1, hrq, rd_of_own0 h4, h2, hcap, x.g, rfl⟩
theorem own_not {w : World} {b : Nat} {cur : Array Value} {ty e : TypeId} {fr : Nat × Nat} {base size n : Nat} {v : Value} {xs : List Value} (hb : w.heap[b]? = some (.cells cur ty fr)) (hne : ty ≠ e) (ho : w.ownsRow base e size v n xs) : some b ≠ v.ownBlock := by
  intro hh
  rcases ho.2 with ⟨rfl, _⟩ | ⟨g', cap, cur', rfl, _, hg, _⟩
  · simp [Value.ownBlock] at hh
  · simp [Value.ownBlock] at hh
    subst hh; rw [hb] at hg
    cases hg
    exact hne rfl
theorem own_any {w : World} {B e size n : Nat} {v : Value} {xs : List Value} (h : w.ownsRow B e size v n xs) : ∃ a cap, v = .slice a n cap := by
  rcases h.2 with ⟨rfl, rfl⟩ | ⟨g, cap, cur, rfl, _⟩
  · exact ⟨none, 0, rfl⟩
  · exact ⟨_, cap, rfl⟩
def nilQ : Value := .agg #[.slice none 0 0, .slice none 0 0, .slice none 0 0, .slice none 0 0]
def AskPost (pm pv pr : Option Addr) (cm cv cr : Nat) (p : Pc) (fine : Bool) (w : World) (e : Ending) (w' : World) : Prop :=
  (((pieceB p && fine) = false ∧ e = .returned (.tuple #[nilQ, .int .i64 2])) ∨ ((pieceB p && fine) = true ∧ truthsF p = [] ∧ e = .returned (.tuple #[nilQ, .int .i64 7])) ∨
   ((pieceB p && fine) = true ∧ truthsF p ≠ [] ∧ ∃ g cap, e = .returned (.tuple #[.agg #[.slice pm p.ms.length cm, .slice pv p.mv.length cv, .slice pr p.rs.length cr, .slice (some ⟨g, 0, none⟩) (truthsF p).length cap], .int .i64 0]) ∧ ∀ W : World, (∀ k, w.heap.size ≤ k → k < w'.heap.size → W.heap[k]? = w'.heap[k]?) → RdQ W (some ⟨g, 0, none⟩) p (truthsF p))) ∧ Below w.heap.size w w'
set_option maxHeartbeats 3200000 in
set_option maxRecDepth 100000 in
theorem c_asked (pm pv pr : Option Addr) (cm cv cr : Nat) (p : Pc) (fine : Bool) (w : World) (hp : RdP w pm pv pr p) (hl : LenOk p) :
    Calls Tryz.prog 60 #[.agg #[.slice pm p.ms.length cm, .slice pv p.mv.length cv, .slice pr p.rs.length cr], .bool fine] w (AskPost pm pv pr cm cv cr p fine w) := by
  obtain ⟨i0, hi0, hzz0, hzz1, hzz2⟩ := info_parts infT; obtain ⟨w1, e1, HS1, k0, k1, k2, b1⟩ := box3 w (.slice pm p.ms.length cm) (.slice pv p.mv.length cv) (.slice pr p.rs.length cr) 59; have kr := alloc_new w1 (.cells #[.slice none 0 0, .slice none 0 0, .slice none 0 0, .slice none 0 0] 120); obtain ⟨w2, e2, HS2, _, _, _, _, b2⟩ := box4 w1 (.slice none 0 0) (.slice none 0 0) (.slice none 0 0) (.slice none 0 0) 120; rw [e2] at kr; have k0 := (b2.cell (lt_of_cellq k0)).trans k0; have k1 := (b2.cell (lt_of_cellq k1)).trans k1; have k2 := (b2.cell (lt_of_cellq k2)).trans k2; have HP := Lib.hid ((hp.below b1).below b2); have HP0 := Lib.hid hp; have HB := Lib.hid (b1.trans (b2.mono b1.size)); have HL := Lib.hid hl; have HZ1 := Lib.hid (show w.heap.size ≤ w1.heap.size ∧ w1.heap.size < w2.heap.size from ⟨b1.size, by have := HS2.out; omega⟩); clear b1 b2 hp hl
  rcases h1 : (pieceB p && fine) with _ | _
  · have HC := Lib.hid h1
    rcases h2 : pieceB p with _ | _
    · go_enter Tryz.func60, Tryz.ntmps60
      go_wp2_with fail; refine (c_isPiece pm pv pr cm cv cr p _ HP.out HL.out).mono ?_; rw [h2]; rintro e wn ⟨rfl, bq⟩; obtain ⟨w3, w4, w5, w6, s3, s4, s5, s6, ⟨c0, f0⟩, ⟨c1, f1⟩, ⟨c2, f2⟩, ⟨c3, f3⟩, hx4, hxk, HZ, hxb⟩ := set4 wn w1.heap.size 120 _ _ _ _ (.slice none 0 0) (.slice none 0 0) (.slice none 0 0) (.slice none 0 0) ((bq.block _ (block_lt kr)).trans kr); obtain ⟨r0, r1, r2, r3⟩ := cells4 hx4; have HBB := Lib.hid (hxb w w.heap.size HZ1.out.1 (HB.out.trans (bq.mono HB.out.size))); clear bq e1 e2 h1 h2 hx4 hxk hxb kr; go_wp2; refine bodyPost_ret (v := .tuple #[nilQ, .int .i64 2]) ?_ rfl ⟨.inl ⟨HC.out, rfl⟩, HBB.out⟩; simp [results, Tryz.results60, go_sem, r0, r1, r2, r3, nilQ]
    · have hf : fine = false := by rw [h2] at h1; simpa using h1
      subst hf
      go_enter Tryz.func60, Tryz.ntmps60
      go_wp2_with fail; refine (c_isPiece pm pv pr cm cv cr p _ HP.out HL.out).mono ?_; rw [h2]; rintro e wn ⟨rfl, bq⟩; obtain ⟨w3, w4, w5, w6, s3, s4, s5, s6, ⟨c0, f0⟩, ⟨c1, f1⟩, ⟨c2, f2⟩, ⟨c3, f3⟩, hx4, hxk, HZ, hxb⟩ := set4 wn w1.heap.size 120 _ _ _ _ (.slice none 0 0) (.slice none 0 0) (.slice none 0 0) (.slice none 0 0) ((bq.block _ (block_lt kr)).trans kr); obtain ⟨r0, r1, r2, r3⟩ := cells4 hx4; have HBB := Lib.hid (hxb w w.heap.size HZ1.out.1 (HB.out.trans (bq.mono HB.out.size))); clear bq e1 e2 h1 h2 hx4 hxk hxb kr; go_wp2; refine bodyPost_ret (v := .tuple #[nilQ, .int .i64 2]) ?_ rfl ⟨.inl ⟨HC.out, rfl⟩, HBB.out⟩; simp [results, Tryz.results60, go_sem, r0, r1, r2, r3, nilQ]
  · have HC := Lib.hid h1
    obtain ⟨h2, rfl⟩ : pieceB p = true ∧ fine = true := by simpa using h1
    have HPO := Lib.hid (pieceB_iff.1 h2); clear h1; refine (callsIn_wide (n := 6)).1 ?_; refine callsIn_of_wp_marks Tryz.func60 rfl trivial ?_ rfl; simp only [Tryz.ntmps60, List.size_toArray, List.length_cons, List.length_nil, Nat.reduceAdd, Nat.reduceSub, Array.replicate_succ, Array.replicate_zero, List.push_toArray, List.append_toArray, List.nil_append, List.cons_append]
    gi_wp2_with fail
    refine ⟨trivial, ?_⟩; refine (callsIn_wide.2 (c_isPiece pm pv pr cm cv cr p _ HP.out HL.out)).mono ?_; rw [h2]; rintro e w3 ⟨rfl, bq⟩; have k0 := (bq.cell (lt_of_cellq k0)).trans k0; have k1 := (bq.cell (lt_of_cellq k1)).trans k1; have k2 := (bq.cell (lt_of_cellq k2)).trans k2; have kr := (bq.block _ (block_lt kr)).trans kr
    -- the box of the piece with its truths
    have kq := alloc_new w3 (.cells #[.slice none 0 0, .slice none 0 0, .slice none 0 0, .slice none 0 0] 120); obtain ⟨w4, e4, HS4, _, _, _, _, b4⟩ := box4 w3 (.slice none 0 0) (.slice none 0 0) (.slice none 0 0) (.slice none 0 0) 120; rw [e4] at kq; have k0 := (b4.cell (lt_of_cellq k0)).trans k0; have k1 := (b4.cell (lt_of_cellq k1)).trans k1; have k2 := (b4.cell (lt_of_cellq k2)).trans k2; have kr := (b4.block _ (block_lt kr)).trans kr; obtain ⟨w5, w6, w7, w8, s5, s6, s7, s8, ⟨c0, f0⟩, ⟨c1, f1⟩, ⟨c2, f2⟩, ⟨c3, f3⟩, hx4, hxk, HZ, hxb⟩ := set4 w4 w3.heap.size 120 _ _ _ _ (.slice pm p.ms.length cm) (.slice pv p.mv.length cv) (.slice pr p.rs.length cr) (.slice none 0 0) kq; have hb38 : Below w3.heap.size w3 w8 := hxb w3 w3.heap.size (Nat.le_refl _) b4; have hB3 : Below w.heap.size w w3 := HB.out.trans (bq.mono HB.out.size); have hz3 : w2.heap.size ≤ w3.heap.size := bq.size; have hz13 : w1.heap.size < w3.heap.size := by have := HZ1.out.2; omega
    have k08 := (hxk w.heap.size (by have := HZ1.out.1; omega)); have hk : ∀ j, w8.cell? ⟨w.heap.size, j, none⟩ = w4.cell? ⟨w.heap.size, j, none⟩ := fun j => World.cell?_of_block k08
    have k0 := (hk 0).trans k0; have k1 := (hk 1).trans k1; have k2 := (hk 2).trans k2; have KR := Lib.hid ((hxk w1.heap.size (by omega)).trans kr); have KX := Lib.hid hx4; have HB8 := Lib.hid (hB3.trans (hb38.mono hB3.size)); have HZ8 := Lib.hid (show w.heap.size ≤ w1.heap.size ∧ w1.heap.size < w3.heap.size ∧ w3.heap.size < w8.heap.size from ⟨HZ1.out.1, hz13, by have := block_lt hx4; omega⟩); clear bq e1 e2 h2 hx4 hxk hxb kr kq b4 hb38 hB3 hz3 hz13 k08 hk HZ1
    gi_wp2_with fail
    refine ⟨trivial, ?_⟩; refine (callsIn_wide.2 (c_truths pm pv pr cm cv cr p _)).mono ?_; rintro e w9 ⟨rfl, e9⟩
    gi_wp2_with fail
    have hz9 : w9.heap.size = w8.heap.size + 1 := by rw [← e9]; simp
    have hz84 : w8.heap.size = w4.heap.size := by rw [← s8, ← s7, ← s6, ← s5]; simp
    have hkp : w9.heap[w4.heap.size]? = some (.cells #[.slice pm p.ms.length cm, .slice pv p.mv.length cv, .slice pr p.rs.length cr] 59 (0, 0)) := by rw [← e9, ← hz84]; exact alloc_new _ _
    have hB9 : Below w.heap.size w w9 := by rw [← e9]; exact HB8.out.alloc HB8.out.size _
    have hX9 : w9.heap[w3.heap.size]? = some (.cells #[.slice pm p.ms.length cm, .slice pv p.mv.length cv, .slice pr p.rs.length cr, .slice none 0 0] 120 (0, 0)) := by rw [← e9]; exact alloc_old _ _ KX.out
    have hR9 : w9.heap[w1.heap.size]? = some (.cells #[.slice none 0 0, .slice none 0 0, .slice none 0 0, .slice none 0 0] 120 (0, 0)) := by rw [← e9]; exact alloc_old _ _ KR.out
    obtain ⟨hz1, hz2, hz3⟩ := HZ8.out; have hseq := truths_seq 5 (by omega) pm pv pr cm cv cr w4.heap.size w9.heap.size w3.heap.size p w w9 HPO.out HP0.out (Nat.le_refl _) hkp (by omega) (by omega) (by omega) hB9; have HN := Lib.hid (truths_le HPO.out); have HZ' := Lib.hid (show w.heap.size ≤ w1.heap.size ∧ w1.heap.size < w3.heap.size ∧ w3.heap.size < w9.heap.size from ⟨hz1, hz2, by omega⟩); clear e9 e4 s5 s6 s7 s8 c0 f0 c1 f1 c2 f2 c3 f3 k0 k1 k2 hkp KX KR HB8 HZ8 HP hz1 hz2 hz3 hz9 hz84 HS4
    refine wpIn_rangeFunc_mem rfl (by omega) (gf := 144) (lb := #[.pointer (some ⟨w4.heap.size, 0, none⟩)]) rfl trivial (enters_of Tryz.func144 (by kernel_rfl) rfl) hseq (fun h k => h.trans k)
      (fun W l o o' hlz hlo ho _ => KpT.putObj hlz hlo ho) (fun x W l o o' hlo ho hm => hm.putObj hlo ho) (Below.refl _ _) (fun _ => rfl)
      (fun pre W => (∃ v, W.heap[w3.heap.size]? = some (.cells #[.slice pm p.ms.length cm, .slice pv p.mv.length cv, .slice pr p.rs.length cr, v] 120 (0, 0)) ∧ W.ownsRow w9.heap.size 125 2 v pre.length (tvV pre)) ∧
        W.heap[w1.heap.size]? = some (.cells #[.slice none 0 0, .slice none 0 0, .slice none 0 0, .slice none 0 0] 120 (0, 0)) ∧ w9.heap.size ≤ W.heap.size ∧ Below w.heap.size w W)
      ?hI ⟨⟨_, hX9, World.ownsRow_nil _ _ _ _⟩, hR9, Nat.le_refl _, hB9⟩
      (fun x a' W => ∃ Bx, W.heap[Bx]? = some (.cells #[.slice x.q x.pl.length x.cq, .slice (some ⟨x.g, 0, none⟩) (x.pl.length + 1) x.cg] 125 (0, 0)) ∧ a' = { tmps := #[.agg #[.slice pm p.ms.length cm, .slice pv p.mv.length cv, .slice pr p.rs.length cr], .bool true, .pointer (some ⟨w.heap.size, 0, none⟩), undef, .pointer (some ⟨w1.heap.size, 0, none⟩), .int .i64 0, .pointer (some ⟨w3.heap.size, 0, none⟩), .pointer (some ⟨Bx, 0, none⟩), .agg #[.slice pm p.ms.length cm, .slice pv p.mv.length cv, .slice pr p.rs.length cr], .bool true, .bool false, .bool false, .bool true, .bool false, .bool false, undef, .agg #[.slice pm p.ms.length cm, .slice pv p.mv.length cv, .slice pr p.rs.length cr], .agg #[.slice pm p.ms.length cm, .slice pv p.mv.length cv, .slice pr p.rs.length cr, .slice none 0 0], .agg #[.slice pm p.ms.length cm, .slice pv p.mv.length cv, .slice pr p.rs.length cr], .func (.func 144) #[] #[.pointer (some ⟨w4.heap.size, 0, none⟩)], tvA x, undef, undef, undef, undef, undef, undef, undef, undef, undef, undef, undef, undef], defers := [] }) ?hAx ?assign ?body ?done
    case hI =>
      rintro s W W' row ⟨⟨v, h1, h2⟩, h3, h4, h5⟩ hg hr
      have hne : ∀ b cur ty fr, W.heap[b]? = some (.cells cur ty fr) → some b ≠ row := by
        intro b cur ty fr hb e; obtain ⟨_, o, ho, hc⟩ := hr b e.symm; rw [hb] at ho
        cases ho
        cases hc
      refine ⟨⟨v, (hg.block _ (block_lt h1) (hne _ _ _ _ h1)).trans h1, own_same h2 fun g hg' => ?_⟩, (hg.block _ (block_lt h3) (hne _ _ _ _ h3)).trans h3, Nat.le_trans h4 hg.size, h5.grown hg h5.size (fun k hk => by have := (hr k hk).1; have := HZ'.out; omega)⟩
      rcases h2.2 with ⟨rfl, _⟩ | ⟨g', cap, cur, rfl, hb, hh, _⟩
      · simp [Value.ownBlock] at hg'
      · simp [Value.ownBlock] at hg'
        subst hg'; exact hg.block _ (block_lt hh) (hne _ _ _ _ hh)
    case hAx =>
      rintro x a' s W W' row ⟨Bx, h1, h2⟩ hg hr; refine ⟨Bx, (hg.block _ (block_lt h1) (fun e => ?_)).trans h1, h2⟩; obtain ⟨_, o, ho, hc⟩ := hr Bx e.symm; rw [h1] at ho
      cases ho
      cases hc
    case assign =>
      rintro l pre x W K ⟨⟨v, h1, h2⟩, h3, h4, h5⟩ hm hK; have ka := alloc_new W (.cells #[.slice none 0 0, .slice none 0 0] 125); obtain ⟨wa, ea, HSa, _, _, ba⟩ := box2 W (.slice none 0 0) (.slice none 0 0) 125; rw [ea] at ka; obtain ⟨wb, wc, sb, sc, ⟨d0, g0⟩, ⟨d1, g1⟩, hx4, hxk, HZ, hxb⟩ := set2 wa W.heap.size 125 _ _ (.slice x.q x.pl.length x.cq) (.slice (some ⟨x.g, 0, none⟩) (x.pl.length + 1) x.cg) ka; have hb : Below W.heap.size W wc := hxb W W.heap.size (Nat.le_refl _) ba
      have hkf : KeepsFrom w9.heap.size W wc := by
        rw [← sc, ← sb, ← ea]; exact (((KeepsOthers.alloc _ _).trans (KeepsOthers.setCell _ _ _)).trans (KeepsOthers.setCell _ _ _)).from _
      have hkp := KpT.of_below (kx := w3.heap.size) hb h4; have hK' := hK _ wc hkf hkp ⟨⟨v, (hb.block _ (block_lt h1)).trans h1, own_kept h2 hb⟩, (hb.block _ (block_lt h3)).trans h3, Nat.le_trans h4 hb.size, h5.trans (hb.mono h5.size)⟩ (hm.kept hkp HZ'.out.2.2) ⟨W.heap.size, hx4, rfl⟩; clear hK h1 h2 h3 h4 h5 hm hkf hkp hb hx4 hxk hxb ka ba; unfold tvA at hK'; unfold tvE tvA; simp only [List.zip_toArray, List.zip_cons_cons, List.zip_nil_right]
      gi_wp2
      exact hK'
    case body =>
      rintro l pre x a' W ⟨⟨v, h1, h2⟩, h3, h4, h5⟩ hm ⟨Bx, hbx, rfl⟩ hlen; have q3 : W.cell? ⟨w3.heap.size, 3, none⟩ = some v := by rw [cell_of_row _ _ _ _ _ _ h1]; rfl
      obtain ⟨b0, b1⟩ := cells2 hbx; have hoa : (W.alloc (.cells #[.slice x.q x.pl.length x.cq, .slice (some ⟨x.g, 0, none⟩) (x.pl.length + 1) x.cg] 125)).ownsRow w9.heap.size 125 2 v pre.length (tvV pre) := h2.alloc _; have HOA := Lib.hid hoa; have H1 := Lib.hid h1; have H3 := Lib.hid h3; have H4 := Lib.hid h4; have H5 := Lib.hid h5; have HLN := Lib.hid (show pre.length < 625 by have := HN.out; omega); clear h1 h2 h3 h4 h5 hm hbx hoa hlen; unfold tvA
      gi_wp2_with (gi_at_builtin; refine wpListIn_append_own _ rfl _ _ 118 rfl w9.heap.size 125 i0 _ 2 48 Tryz.underlying118 hi0 hzz0 hzz1 hzz2 rfl (by decide) _ _ _ rfl HOA.out ⟨W.heap.size, 0, none⟩ 1 1 [.slice x.q x.pl.length x.cq, .slice (some ⟨x.g, 0, none⟩) (x.pl.length + 1) x.cg] rfl rfl ?c1 ?c2 ?c3 ?c4 ?c5 ?_)
      case c1 => exact news_of _ _ _
      case c2 => intro u hu; simp at hu; rcases hu with rfl | rfl <;> rfl
      case c3 => have := HLN.out; unfold maxLen; omega
      case c4 => have := HLN.out; omega
      case c5 => have := H4.out; simp; omega
      intro v' wd hown' hgrow _; obtain ⟨g', cap', rfl⟩ := own_form hown'; have h1' : (W.alloc (.cells #[.slice x.q x.pl.length x.cq, .slice (some ⟨x.g, 0, none⟩) (x.pl.length + 1) x.cg] 125)).heap[w3.heap.size]? = _ := alloc_old _ _ H1.out; have h3' : (W.alloc (.cells #[.slice x.q x.pl.length x.cq, .slice (some ⟨x.g, 0, none⟩) (x.pl.length + 1) x.cg] 125)).heap[w1.heap.size]? = _ := alloc_old _ _ H3.out; have hd1 := (hgrow.block _ (block_lt h1') (own_not h1' (by decide) HOA.out)).trans h1'; have hd3 := (hgrow.block _ (block_lt h3') (own_not h3' (by decide) HOA.out)).trans h3'; have z3 : wd.cell? ⟨w3.heap.size, 3, none⟩ = some v := by rw [cell_of_row _ _ _ _ _ _ hd1]; rfl
      have zf : wd.frozen? ⟨w3.heap.size, 3, none⟩ = false := frozen_of_row _ _ _ _ _ hd1; have hza : w9.heap.size ≤ (W.alloc (.cells #[.slice x.q x.pl.length x.cq, .slice (some ⟨x.g, 0, none⟩) (x.pl.length + 1) x.cg] 125)).heap.size := by have := H4.out; simp; omega
      have hkp : KpT w9.heap.size w3.heap.size W wd := (KpT.alloc (KpT.refl _ _ _) H4.out _).trans (KpT.grown HOA.out hza hgrow)
      have hko : KeepsFrom w9.heap.size W wd := ((KeepsOthers.alloc W _).trans (KeepsOthers.of_grownBy hgrow (fun j o ej hj => by
        rcases HOA.out.2 with ⟨rfl, _⟩ | ⟨g', cap, cur, rfl, hb, hh, _⟩
        · simp [Value.ownBlock] at ej
        · simp [Value.ownBlock] at ej
          subst ej; rw [hh] at hj
          cases hj
          rfl))).from _
      have hbb : Below w.heap.size w wd := (H5.out.alloc H5.out.size _).grown hgrow (by have := H5.out.size; simp; omega) (fun j hj => by have := (HOA.out.lt j hj).1; have := HZ'.out; omega); have hne : g' ≠ w3.heap.size := fun e => by have := (hown'.lt g' rfl).1; have := HZ'.out; omega
      obtain ⟨wz, ez⟩ : ∃ wz, wd.setCell ⟨w3.heap.size, 3, none⟩ (.slice (some ⟨g', 0, none⟩) (pre.length + 1) cap') = wz := ⟨_, rfl⟩
      have HFIN := Lib.hid (show KeepsFrom w9.heap.size W wz ∧ KpT w9.heap.size w3.heap.size W wz ∧ (∃ v, wz.heap[w3.heap.size]? = some (.cells #[.slice pm p.ms.length cm, .slice pv p.mv.length cv, .slice pr p.rs.length cr, v] 120 (0, 0)) ∧ wz.ownsRow w9.heap.size 125 2 v (pre ++ [x]).length (tvV (pre ++ [x]))) ∧
          wz.heap[w1.heap.size]? = some (.cells #[.slice none 0 0, .slice none 0 0, .slice none 0 0, .slice none 0 0] 120 (0, 0)) ∧ w9.heap.size ≤ wz.heap.size ∧ Below w.heap.size w wz by
        have hz := HZ'.out; rw [← ez]; refine ⟨hko.trans ((KeepsOthers.setCell _ _ _).from _), KpT.setCell hkp _ _, ⟨.slice (some ⟨g', 0, none⟩) (pre.length + 1) cap', ?_, ?_⟩, (Below.heap_setCell _ _ _ _ (by show w1.heap.size ≠ w3.heap.size; omega)).trans hd3, ?_, hbb.setCell (by show w.heap.size ≤ w3.heap.size; omega) _⟩
        · rw [heap_setCell_same wd w3.heap.size 3 _ _ _ hd1]; rfl
        · refine own_same ?_ (fun g hg => Below.heap_setCell _ _ _ _ (by simp [Value.ownBlock] at hg; subst hg; exact hne))
          rw [tvV_append, List.length_append]; exact hown'
        · have := hkp.1.size; have := H4.out; simp [World.setCell]; omega)
      clear h1' h3' hd1 hd3 hza hkp hko hbb hne hown' hgrow
      gi_wp2
      exact HFIN.out
    case done =>
      rintro D xs W hD hS ⟨⟨v, h1, h2⟩, h3, h4, h5⟩ hm hK; obtain ⟨ga, cap, rfl⟩ := own_any h2; have q0 : W.cell? ⟨w3.heap.size, 0, none⟩ = some (.slice pm p.ms.length cm) := by rw [cell_of_row _ _ _ _ _ _ h1]; rfl
      have q1 : W.cell? ⟨w3.heap.size, 1, none⟩ = some (.slice pv p.mv.length cv) := by rw [cell_of_row _ _ _ _ _ _ h1]; rfl
      have q2 : W.cell? ⟨w3.heap.size, 2, none⟩ = some (.slice pr p.rs.length cr) := by rw [cell_of_row _ _ _ _ _ _ h1]; rfl
      have q3 : W.cell? ⟨w3.heap.size, 3, none⟩ = some (.slice ga xs.length cap) := by rw [cell_of_row _ _ _ _ _ _ h1]; rfl
      have hl : xs.length = (truthsF p).length := by rw [← hS, List.length_map]
      have hz := HZ'.out
      by_cases h0 : xs.length = 0
      · have hx : (((xs.length : Nat) : Int) == 0) = true := by rw [h0]; rfl
        have HT := Lib.hid (show truthsF p = [] from List.length_eq_zero_iff.1 (by omega)); obtain ⟨wa, wb, wc, wd, sa, sb, sc, sd, ⟨c0, f0⟩, ⟨c1, f1⟩, ⟨c2, f2⟩, ⟨c3, f3⟩, hx4, hxk, HZs, hxb⟩ := set4 W w1.heap.size 120 _ _ _ _ (.slice none 0 0) (.slice none 0 0) (.slice none 0 0) (.slice none 0 0) h3; obtain ⟨r0, r1, r2, r3⟩ := cells4 hx4; have hKd : wd.heap[D]? = some (.deferred (some [])) := by rw [hxk D (by omega)]; exact hK
        have HBD := Lib.hid (hxb w w.heap.size (by omega) h5); have hpo : ∀ j v, wd.cell? ⟨w1.heap.size, j, none⟩ = some v → (wd.putObj D (.deferred none)).cell? ⟨w1.heap.size, j, none⟩ = some v := fun j v hc => cell_kept hc (grownBy_putObj' _ D (.deferred none)) (fun r e => by cases e; exact ⟨_, hKd, rfl⟩)
        have HPO' := Lib.hid hpo; have HDD := Lib.hid (show w.heap.size ≤ D by omega); have HKD := Lib.hid hKd; clear h1 h2 h3 h4 h5 hS hm hK hx4 hxk hxb hl h0 hz hpo hKd
        gi_wp2
        refine ⟨by simp, .inl ⟨_, _, rfl, run_takeDeferred HKD.out, ?_⟩⟩; refine ⟨.tuple #[nilQ, .int .i64 7], ?_, .inr (.inl ⟨HC.out, HT.out, rfl⟩), HBD.out.trans (belowK_b (w := w) (Nat.le_refl _) wd D _ _ HDD.out HKD.out rfl rfl)⟩; simp [results, Tryz.results60, go_sem, HPO'.out 0 _ r0, HPO'.out 1 _ r1, HPO'.out 2 _ r2, HPO'.out 3 _ r3, nilQ]
      · have hx : (((xs.length : Nat) : Int) == 0) = false := by simp; exact fun e => h0 (by rw [e]; rfl)
        have hne : truthsF p ≠ [] := fun e => h0 (by rw [hl, e]; rfl)
        obtain ⟨g, rfl⟩ : ∃ g, ga = some ⟨g, 0, none⟩ := by
          rcases h2.2 with ⟨_, e⟩ | ⟨g, cap', cur, e, _⟩
          · exact absurd e h0
          · injection e with e1 _ _
            exact ⟨g, e1⟩
        have hrd := rdQ_of h2 hm; rw [hS] at hrd; obtain ⟨wa, wb, wc, wd, sa, sb, sc, sd, ⟨c0, f0⟩, ⟨c1, f1⟩, ⟨c2, f2⟩, ⟨c3, f3⟩, hx4, hxk, HZs, hxb⟩ := set4 W w1.heap.size 120 _ _ _ _ (.slice pm p.ms.length cm) (.slice pv p.mv.length cv) (.slice pr p.rs.length cr) (.slice (some ⟨g, 0, none⟩) xs.length cap) h3; obtain ⟨r0, r1, r2, r3⟩ := cells4 hx4; have hKd : wd.heap[D]? = some (.deferred (some [])) := by rw [hxk D (by omega)]; exact hK
        have HBD := Lib.hid (hxb w w.heap.size (by omega) h5); have hpo : ∀ j v, wd.cell? ⟨w1.heap.size, j, none⟩ = some v → (wd.putObj D (.deferred none)).cell? ⟨w1.heap.size, j, none⟩ = some v := fun j v hc => cell_kept hc (grownBy_putObj' _ D (.deferred none)) (fun r e => by cases e; exact ⟨_, hKd, rfl⟩)
        have HPO' := Lib.hid hpo; have HDD := Lib.hid (show w.heap.size ≤ D by omega); have HKD := Lib.hid hKd; have HNE := Lib.hid hne
        have hm' : ∀ x ∈ xs, MemT p w9.heap.size x (wd.putObj D (.deferred none)) := by
          intro x hx; obtain ⟨m1, m2, m3, m4⟩ := hm x hx; have hk : ∀ (v : Value) (n : Nat) (ys : List Value), W.ownsRow w9.heap.size 3 1 v n ys → wd.ownsRow w9.heap.size 3 1 v n ys := fun v n ys ho => own_same ho fun g' hg' => hxk g' (by have := (ho.lt g' hg').1; omega)
          exact MemT.putObj hKd rfl ⟨m1, m2, hk _ _ _ m3, hk _ _ _ m4⟩
        have ho' : (wd.putObj D (.deferred none)).ownsRow w9.heap.size 125 2 (.slice (some ⟨g, 0, none⟩) xs.length cap) xs.length (tvV xs) :=
          ownsRow_putObj (own_same h2 fun g' hg' => hxk g' (by have := (h2.lt g' hg').1; omega)) _ hKd rfl
        have hrd' : ∀ W' : World, (∀ k, w.heap.size ≤ k → k < (wd.putObj D (.deferred none)).heap.size → W'.heap[k]? = (wd.putObj D (.deferred none)).heap[k]?) → RdQ W' (some ⟨g, 0, none⟩) p (truthsF p) := by
          intro W' hW'; have hwz : w.heap.size ≤ w9.heap.size := by omega
          have hk : ∀ (ty : TypeId) (sz : Nat) (v : Value) (n : Nat) (ys : List Value), (wd.putObj D (.deferred none)).ownsRow w9.heap.size ty sz v n ys → W'.ownsRow w9.heap.size ty sz v n ys := fun ty sz v n ys ho => own_same ho fun g' hg' => hW' g' (by have := (ho.lt g' hg').1; omega) (ho.lt g' hg').2
          have h := rdQ_of (hk _ _ _ _ _ ho') (fun x hx => ⟨(hm' x hx).1, (hm' x hx).2.1, hk _ _ _ _ _ (hm' x hx).2.2.1, hk _ _ _ _ _ (hm' x hx).2.2.2⟩); rw [hS] at h; exact h
        have HRD := Lib.hid hrd'; have HL := Lib.hid hl; clear h1 h2 h3 h4 h5 hS hm hK hx4 hxk hxb hl h0 hz hpo hKd hne hrd hm' ho' hrd'
        gi_wp2
        refine ⟨by simp, .inl ⟨_, _, rfl, run_takeDeferred HKD.out, ?_⟩⟩; refine ⟨.tuple #[.agg #[.slice pm p.ms.length cm, .slice pv p.mv.length cv, .slice pr p.rs.length cr, .slice (some ⟨g, 0, none⟩) xs.length cap], .int .i64 0], ?_, .inr (.inr ⟨HC.out, HNE.out, g, cap, by rw [HL.out], HRD.out⟩), HBD.out.trans (belowK_b (w := w) (Nat.le_refl _) wd D _ _ HDD.out HKD.out rfl rfl)⟩; simp [results, Tryz.results60, go_sem, HPO'.out 0 _ r0, HPO'.out 1 _ r1, HPO'.out 2 _ r2, HPO'.out 3 _ r3]
end Go.Proofs.YtchclaipbahiiaaGreat
end

section
namespace Go.Proofs.YtchclaipbahiiaaGreat
open Go Go.RowKit Go.Proofs Go.Shelf
set_option linter.unusedVariables false
section
variable {P : Program} {ops : Array Oper} {Q : Exit → Act → World → Prop} {l n : Nat}
def noDefer (ops : Array Oper) : Bool := ops.all fun o => match o.op with | .defer _ => false | _ => true
theorem noDefer_at {o : Oper} {i : Nat} (h : noDefer ops = true) (hi : ops[i]? = some o) : ∀ c, o.op ≠ .defer c := by
  intro c hc; unfold noDefer at h; rw [Array.all_eq_true] at h; obtain ⟨hlt, he⟩ := Array.getElem?_eq_some_iff.1 hi; have := h i hlt; rw [he, hc] at this
  cases this
theorem oper_round {o : Oper} {a : Act} {w : World} {K : Act → World → Prop} (hnd : ∀ c, o.op ≠ .defer c) (h : o.wp P a w K Q) : o.wpIn (Fence.wide.inRound l) n P a w K Q := by
  refine ⟨fun _ _ => trivial, ?_⟩; rw [Oper.semAt_plain _ _ _ hnd]; unfold Oper.wp at h
  generalize (execOp a.eval o).run P w = r at h ⊢
  cases r with
  | ok x w' =>
    cases x with
    | value v => exact h
    | skip => exact h
    | defer d => exact h
    | enter f args => exact ⟨(fun hh => by cases hh), callsIn_wide.2 h⟩
    | row row args =>
      refine ⟨(fun hh => by cases hh), ?_⟩; intro c cs _; obtain ⟨v, w'', h1, h2⟩ := h c cs; exact ⟨v, w'', h1, stepsIn_wide.2 h2⟩
    | round => exact h.elim
    | _ => exact h.elim
  | halt x w' => cases x <;> first | exact h | exact h.elim
theorem wpAny_round (hlo : ¬ LetsOut Q) (hnd : noDefer ops = true) : ∀ (fuel : Nat) (listed : Array Bool) (a : Act) (w : World), wpAny P .any ops Q fuel listed a w → wpAnyIn (Fence.wide.inRound l) n P .any ops Q fuel listed a w := by
  intro fuel
  induction fuel with
  | zero => intro listed a w h; exact h
  | succ fuel ih =>
    intro listed a w h; refine ⟨h.1, fun i hi => ?_⟩; have h2 := h.2 i hi; unfold wpOp at h2; unfold wpOpIn
    cases ho : ops[i]? with
    | none => rw [ho] at h2; exact ih _ _ _ h2
    | some o =>
      rw [ho] at h2; simp only at h2 ⊢; have hm : ∀ a w, wpAny P .any ops Q fuel (listed.setIfInBounds i true) a w → wpAnyIn (Fence.wide.inRound l) n P .any ops Q fuel (listed.setIfInBounds i true) a w := fun a w hh => ih _ _ _ hh
      split
      · rename_i hw
        rw [if_pos hw] at h2
        rcases h2 with h2 | h2
        rotate_left
        · exact absurd h2.2 hlo
        refine oper_round (noDefer_at hnd ho) ?_; exact Oper.wp_mono hm h2
      · rename_i hw
        rw [if_neg hw] at h2; exact ⟨fun _ _ => trivial, hm _ _ h2⟩
theorem wpIn_round_held {id : Nat} {a : Act} {w : World} {S : World → Prop} (hlo : ¬ LetsOut Q) (hnd : noDefer ops = true) (hm : P.follows .mixedOrders = true)
    (h : ∀ W0, Below w.heap.size w W0 → W0.heap = w.heap → wpAnyH P .any ops Q S ops.size (Array.replicate ops.size false) a W0) : (Code.region id ops true).wpIn (Fence.wide.inRound l) n P Q a w :=
  wpIn_region_any hm (wpAny_round hlo hnd _ _ _ _ (wpAny_of_held _ _ _ _ (h _ (Below.refl _ _).drew rfl)))
end
end Go.Proofs.YtchclaipbahiiaaGreat
end
