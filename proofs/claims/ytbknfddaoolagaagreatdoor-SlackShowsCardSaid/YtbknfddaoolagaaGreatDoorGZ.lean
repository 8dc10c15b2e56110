/-
  What the arguments of the laws read as; the frame that all claims of this seat share.
  The words of the program's head, and the closed facts of the whole program that every card of this seat asks (each computed by the kernel).
  What the rows of books ask besides: five tables, a variable of the library, the shape of the world.
-/
import Derived.Test.YtbknfddaoolagaaGreatDoorGA
import Derived.Test.YtbknfddaoolagaaGreatDoorTie
import Derived.ProofKit
import Derived.OpenShut
import Derived.ShutString
import Derived.ChangeOld
import Derived.Lay
import Derived.SevenTiedAt
import Derived.Lib.SmallJoins
import Derived.Deep.Slices
import Derived.Deep.Strs
import Derived.Test.YtbknfddaoolagaaGreatDoorRows
import Derived.JoinedOf
import Derived.Test.YtbknfddaoolagaaGreatDoorGI
import Derived.Stop.LaidErr
import Derived.Shelf.Vars
import Derived.HandedShaped
import Derived.Lib.LaidTab
import Derived.Lib.ItoaNum
section
namespace Go.Proofs.YtbknfddaoolagaaGreatDoor
open Go Go.ChangeShapes Go.WideShapes Go.ChangeAt Go.RowKit Go.Proofs
open Go.ChangeMaps (open_string shut_string)
set_option linter.unusedVariables false

theorem ownT : ownKnob Tryz.prog.godebug = none := by kernel_rfl
theorem laidOutT : laidOutB Tryz.prog = true := by kernel_rfl
theorem tc_int : Tryz.prog.cellsOf 3 = 1 := by kernel_rfl
theorem tc_mesh : Tryz.prog.cellsOf 78 = 2 := by kernel_rfl
theorem tc_read : Tryz.prog.cellsOf 87 = 4 := by kernel_rfl
theorem tc_piece : Tryz.prog.cellsOf 27 = 3 := by kernel_rfl
theorem add_plainT (b off i : Nat) : (⟨b, off, none⟩ : Addr).add i = ⟨b, off + i, none⟩ := by unfold Addr.add; split <;> simp_all
section
variable {H : Type} {enc : TypeId × Value → H} {W : World}
theorem rd_ints {fuel : Nat} {cs : List Value} {x : DataW H × List MemPlace} (h : DataW.trod enc Tryz.prog W 0 (fun _ => true) true fuel 24 cs = some x) :
    ∃ p cap xs, cs = [.slice p (List.length xs) cap] ∧ RdI W p xs ∧ xs.length ≤ maxLen := by
  rcases open_ints Tryz.underlying24 Tryz.underlying3 tc_int h with ⟨hcs, _⟩ | ⟨a, l, c, zs, hcs, _, hl, hm, hz, _, hcell, _⟩
  · exact ⟨none, 0, [], hcs, .inl rfl, by simp⟩
  · have hzl : zs.length = c := by simpa using hz
    have hxl : (zs.take l).length = l := by rw [List.length_take]; omega
    refine ⟨some a, c, zs.take l, by rw [hxl]; exact hcs, ?_, by omega⟩
    rcases Nat.eq_zero_or_pos l with h0 | h0
    · left; rw [h0]; rfl
    · obtain ⟨b, off, spot⟩ := a
      have hc := hcell 0 (by omega); have hspot : spot = none := by simpa [Addr.add] using World.cell?_spot hc
      subst hspot; refine .inr ⟨b, off, rfl, fun i hi => ?_⟩; rw [hxl] at hi; have := hcell i (by omega); rw [add_plainT] at this; rw [this]; unfold gi; rw [List.getD_eq_getElem?_getD, List.getD_eq_getElem?_getD, List.getElem?_take, if_pos hi]
set_option maxRecDepth 100000 in
theorem op_ints {base : Nat} {v : Value} {d : DataW H} {ps : List MemPlace} (hv : Value.okWide Tryz.prog W .any base 24 v) (h : DataW.Trod enc Tryz.prog W 0 (fun _ => true) true 24 v d ps) :
    ∃ p cap xs, v = .slice p (List.length xs) cap ∧ RdI W p xs ∧ xs.length ≤ maxLen := by
  obtain ⟨a0, len, cap, rfl⟩ := okWide_slice Tryz.underlying24 hv; obtain ⟨fuel, hf⟩ := h; obtain ⟨p, c, xs, hcs, hr, hl⟩ := rd_ints hf; simp [Value.cells] at hcs; obtain ⟨rfl, rfl, rfl⟩ := hcs; exact ⟨_, _, xs, rfl, hr, hl⟩
set_option maxRecDepth 100000 in
theorem op_int {base : Nat} {v : Value} {d : DataW H} {ps : List MemPlace} (hv : Value.okWide Tryz.prog W .any base 3 v) (h : DataW.Trod enc Tryz.prog W 0 (fun _ => true) true 3 v d ps) :
    ∃ x : Int, v = .int .i64 x ∧ -9223372036854775808 ≤ x ∧ x ≤ 9223372036854775807 := by
  obtain ⟨x, rfl, rfl, rfl, wx⟩ := open_int Tryz.underlying3 hv h; exact ⟨x, rfl, bounds_i64 wx⟩
theorem int_ofT {fuel : Nat} {v : Value} {x : DataW H × List MemPlace} (h : DataW.trod enc Tryz.prog W 0 (fun _ => true) true fuel 3 [v] = some x) : ∃ n : Int, v = .int .i64 n ∧ -9223372036854775808 ≤ n ∧ n ≤ 9223372036854775807 := by
  obtain ⟨n, hc, _, wn⟩ := DataW.trod_int Tryz.underlying3 h; exact ⟨n, by simpa using hc, bounds_i64 wn⟩
theorem list_of {α : Type} (d : α) (Q : Nat → α → Prop) : ∀ n, (∀ i, i < n → ∃ x, Q i x) → ∃ l : List α, l.length = n ∧ ∀ i, i < n → Q i (l.getD i d) := by
  intro n
  induction n with
  | zero => intro _; exact ⟨[], rfl, fun i hi => by omega⟩
  | succ n ih =>
    intro hq; obtain ⟨l, h1, h2⟩ := ih (fun i hi => hq i (by omega)); obtain ⟨x, hx⟩ := hq n (by omega); refine ⟨l ++ [x], by simp [h1], fun i hi => ?_⟩
    rcases Nat.lt_or_ge i n with h | h
    · have e : (l ++ [x]).getD i d = l.getD i d := by rw [List.getD_eq_getElem?_getD, List.getElem?_append_left (by omega), ← List.getD_eq_getElem?_getD]
      rw [e]; exact h2 i h
    · obtain rfl : i = n := by omega
      have e : (l ++ [x]).getD i d = x := by rw [List.getD_eq_getElem?_getD, List.getElem?_append_right (by omega), h1, Nat.sub_self]; rfl
      rw [e]; exact hx
set_option maxRecDepth 100000 in
theorem rd_meshes {fuel : Nat} {v : Value} {x : DataW H × List MemPlace} (h : DataW.trod enc Tryz.prog W 0 (fun _ => true) true fuel 23 [v] = some x) :
    ∃ p cap, ∃ xs : List (Int × Int), v = .slice p xs.length cap ∧ RdS W p xs ∧ xs.length ≤ maxLen := by
  rcases Deep.open_slice Tryz.underlying23 h with ⟨hcs, _⟩ | ⟨a, l, c, m, n, D, Pl, hcs, _, hl, hm, hmm, _, hx⟩
  · exact ⟨none, 0, [], by simpa using hcs, .inl rfl, by simp⟩
  · obtain rfl : v = .slice (some a) l c := by simpa using hcs
    simp only [if_true] at hmm; subst hmm; rw [tc_mesh] at hx
    have each : ∀ i, i < l → ∃ g : Int × Int, W.cell? (a.add (i * 2)) = some (.int .i64 g.1) ∧ W.cell? ((a.add (i * 2)).add 1) = some (.int .i64 g.2) := by
      intro i hi; obtain ⟨cs', h1, h2⟩ := hx i (by omega); obtain ⟨_, hlen, hcell⟩ := World.cells?_some h1; obtain ⟨zs, kz, _, _, _, hzl, hzf⟩ := DataW.trod_struct Tryz.underlying78 h2
      have hz0 : ∃ y, DataW.trod enc Tryz.prog W 0 (fun _ => true) true kz 44 ((cs'.drop 0).take (Tryz.prog.cellsOf 44)) = some y := by
        match zs, hzl with
        | [z], _ => exact ⟨z, by simpa using hzf 0 _ rfl⟩
      obtain ⟨z0, hz⟩ := hz0; rw [show Tryz.prog.cellsOf 44 = 2 by kernel_rfl, List.drop_zero, List.take_of_length_le (by omega)] at hz; obtain ⟨y0, y1, k, _, _, t0, t1⟩ := trod_struct2 Tryz.underlying44 hz
      match cs', hlen with
      | [c0, c1], _ =>
        simp only [tc_int] at t0 t1; obtain ⟨x0, rfl, _⟩ := int_ofT (v := c0) t0; obtain ⟨x1, rfl, _⟩ := int_ofT (v := c1) t1; refine ⟨(x0, x1), ?_, ?_⟩
        · have := hcell 0 (by omega)
          simpa [Addr.add] using this
        · exact hcell 1 (by omega)
    obtain ⟨gs, h1, h2⟩ := list_of (0, 0) (fun i g => W.cell? (a.add (i * 2)) = some (.int .i64 g.1) ∧ W.cell? ((a.add (i * 2)).add 1) = some (.int .i64 g.2)) l each; refine ⟨some a, _, gs, by rw [h1], ?_, by omega⟩
    rcases Nat.eq_zero_or_pos l with h0 | h0
    · left; exact List.length_eq_zero_iff.1 (by omega)
    · obtain ⟨b, off, spot⟩ := a
      have hc := (h2 0 h0).1; have hspot : spot = none := by simpa [Addr.add] using World.cell?_spot hc
      subst hspot; refine .inr ⟨b, off, rfl, fun i hi => ?_⟩; have := h2 i (by omega); rw [add_plainT, add_plainT] at this; exact this
set_option maxRecDepth 100000 in
theorem rd_reads {fuel : Nat} {v : Value} {x : DataW H × List MemPlace} (h : DataW.trod enc Tryz.prog W 0 (fun _ => true) true fuel 25 [v] = some x) :
    ∃ p cap, ∃ xs : List Rd, v = .slice p xs.length cap ∧ RdR W p xs ∧ xs.length ≤ maxLen := by
  rcases Deep.open_slice Tryz.underlying25 h with ⟨hcs, _⟩ | ⟨a, l, c, m, n, D, Pl, hcs, _, hl, hm, hmm, _, hx⟩
  · exact ⟨none, 0, [], by simpa using hcs, .inl rfl, by simp⟩
  · obtain rfl : v = .slice (some a) l c := by simpa using hcs
    simp only [if_true] at hmm; subst hmm; rw [tc_read] at hx
    have each : ∀ i, i < l → ∃ g : Rd, W.cell? (a.add (i * 4)) = some (.int .i64 g.aft) ∧ W.cell? ((a.add (i * 4)).add 1) = some (.int .i64 g.arb) ∧ W.cell? ((a.add (i * 4)).add 2) = some (.int .i64 g.seen) ∧ W.cell? ((a.add (i * 4)).add 3) = some (.int .i64 g.off) := by
      intro i hi; obtain ⟨cs', h1, h2⟩ := hx i (by omega); obtain ⟨_, hlen, hcell⟩ := World.cells?_some h1; obtain ⟨y0, y1, y2, y3, k, _, _, t0, t1, t2, t3⟩ := Joins.trod_struct4 Tryz.underlying87 h2
      match cs', hlen with
      | [c0, c1, c2, c3], _ =>
        simp only [tc_int] at t0 t1 t2 t3; obtain ⟨x0, rfl, _⟩ := int_ofT (v := c0) t0; obtain ⟨x1, rfl, _⟩ := int_ofT (v := c1) t1; obtain ⟨x2, rfl, _⟩ := int_ofT (v := c2) t2; obtain ⟨x3, rfl, _⟩ := int_ofT (v := c3) t3; refine ⟨⟨x0, x1, x2, x3⟩, ?_, ?_, ?_, ?_⟩
        · have := hcell 0 (by omega)
          simpa [Addr.add] using this
        · exact hcell 1 (by omega)
        · exact hcell 2 (by omega)
        · exact hcell 3 (by omega)
    obtain ⟨gs, h1, h2⟩ := list_of rd0 (fun i g => W.cell? (a.add (i * 4)) = some (.int .i64 g.aft) ∧ W.cell? ((a.add (i * 4)).add 1) = some (.int .i64 g.arb) ∧ W.cell? ((a.add (i * 4)).add 2) = some (.int .i64 g.seen) ∧ W.cell? ((a.add (i * 4)).add 3) = some (.int .i64 g.off)) l each; refine ⟨some a, _, gs, by rw [h1], ?_, by omega⟩
    rcases Nat.eq_zero_or_pos l with h0 | h0
    · left; exact List.length_eq_zero_iff.1 (by omega)
    · obtain ⟨b, off, spot⟩ := a
      have hc := (h2 0 h0).1; have hspot : spot = none := by simpa [Addr.add] using World.cell?_spot hc
      subst hspot; refine .inr ⟨b, off, rfl, fun i hi => ?_⟩; have := h2 i (by omega); rw [add_plainT, add_plainT, add_plainT, add_plainT] at this; exact this
set_option maxRecDepth 100000 in
theorem op_piece {base : Nat} {v : Value} {d : DataW H} {ps : List MemPlace} (hv : Value.okWide Tryz.prog W .any base 27 v) (h : DataW.Trod enc Tryz.prog W 0 (fun _ => true) true 27 v d ps) :
    ∃ (pm pv pr : Option Addr) (cm cv cr : Nat) (p : Pc), v = .agg #[.slice pm p.ms.length cm, .slice pv p.mv.length cv, .slice pr p.rs.length cr] ∧ RdP W pm pv pr p := by
  obtain ⟨v0, v1, v2, y0, y1, y2, n, rfl, _, _, h0, h1, h2⟩ := Joins.open_agg3 Tryz.underlying27 (by kernel_rfl) tc_piece hv h; obtain ⟨pm, cm, ms, rfl, r0, _⟩ := rd_meshes h0; obtain ⟨pv, cv, mv, e1, r1, _⟩ := rd_ints h1; obtain rfl : v1 = .slice pv mv.length cv := by simpa using e1
  obtain ⟨pr, cr, rs, rfl, r2, _⟩ := rd_reads h2; exact ⟨pm, pv, pr, cm, cv, cr, ⟨ms, mv, rs⟩, rfl, ⟨r0, r1, r2⟩⟩
set_option maxRecDepth 100000 in
theorem op_string {base : Nat} {v : Value} {d : DataW H} {ps : List MemPlace} (hv : Value.okWide Tryz.prog W .any base 9 v) (h : DataW.Trod enc Tryz.prog W 0 (fun _ => true) true 9 v d ps) :
    ∃ s : ByteArray, v = .string s ∧ s.size ≤ maxLen := by
  obtain ⟨s, rfl, _, _, hs⟩ := open_string Tryz.underlying9 hv h; exact ⟨s, rfl, hs⟩
theorem trod_lt {t : TypeId} {v : Value} {d : DataW H} {ps : List MemPlace} (h : DataW.Trod enc Tryz.prog W 0 (fun _ => true) true t v d ps) : ∀ x ∈ ps, x.block < W.heap.size := by
  obtain ⟨m, hm⟩ := h; exact DataW.trod_lt m _ _ _ hm
end
end Go.Proofs.YtbknfddaoolagaaGreatDoor
end

section
set_option maxRecDepth 100000
namespace Go.Proofs.YtbknfddaoolagaaGreatDoor
open Go
def headA : List Nat := [104, 97, 114, 110, 101, 115, 115]
def headB : List Nat := [53, 98, 100, 100, 57, 54, 100, 102, 48, 56, 50, 98, 48, 53, 101, 97, 100, 56, 102, 52, 57, 57, 98, 48, 54, 56, 54, 48, 55, 97, 100, 54, 102, 55, 48, 101, 100, 98, 48, 102, 100, 48, 100, 56, 100, 57, 50, 57, 56, 51, 55, 48, 48, 56, 49, 102, 51, 50, 98, 98, 97, 57, 53, 102]
def headC : List Nat := [99, 117, 116]
def headR : List Nat := [97, 116, 32, 116, 101, 108, 108, 117, 114, 105, 111, 110, 47, 116, 101, 108, 108, 117, 114, 105, 111, 110, 108, 97, 119, 48, 51, 46, 83, 108, 97, 99, 107, 82, 101, 97, 100, 115, 32, 116, 101, 108, 108, 117, 114, 105, 111, 110, 47, 116, 101, 108, 108, 117, 114, 105, 111, 110, 108, 97, 119, 48, 51, 46, 83, 108, 97, 99, 107, 83, 104, 111, 119, 115]
def sgs (l : List Nat) : List Char := l.map Char.ofNat
def headN : List Nat := [104, 97, 114, 110, 101, 115, 115, 32, 53, 98, 100, 100, 57, 54, 100, 102, 48, 56, 50, 98, 48, 53, 101, 97, 100, 56, 102, 52, 57, 57, 98, 48, 54, 56, 54, 48, 55, 97, 100, 54, 102, 55, 48, 101, 100, 98, 48, 102, 100, 48, 100, 56, 100, 57, 50, 57, 56, 51, 55, 48, 48, 56, 49, 102, 51, 50, 98, 98, 97, 57, 53, 102, 32, 99, 117, 116, 32, 97, 116, 32, 116, 101, 108, 108, 117, 114, 105, 111, 110, 47, 116, 101, 108, 108, 117, 114, 105, 111, 110, 108, 97, 119, 48, 51, 46, 83, 108, 97, 99, 107, 82, 101, 97, 100, 115, 32, 116, 101, 108, 108, 117, 114, 105, 111, 110, 47, 116, 101, 108, 108, 117, 114, 105, 111, 110, 108, 97, 119, 48, 51, 46, 83, 108, 97, 99, 107, 83, 104, 111, 119, 115]
theorem head_is : Tryz.prog.initOrder = String.ofList (headN.map Char.ofNat) := by kernel_rfl
theorem head_split : headN = headA ++ 32 :: (headB ++ 32 :: (headC ++ 32 :: headR)) := by kernel_rfl
theorem words_cons (r : List Char) : ∀ w : List Char, (∀ c ∈ w, c ≠ Char.ofNat 32) → wordsSigns (w ++ Char.ofNat 32 :: r) = w :: wordsSigns r := by
  intro w
  induction w with
  | nil => intro _; exact rfl
  | cons c w ih =>
    intro h; have hc : c ≠ Char.ofNat 32 := h c (by simp); have e := ih (fun x hx => h x (by simp [hx])); rw [List.cons_append, wordsSigns]
    · rw [e]
    · exact hc
theorem no_blank (l : List Nat) (h : l.all (fun n => Char.ofNat n != Char.ofNat 32) = true) : ∀ c ∈ sgs l, c ≠ Char.ofNat 32 := by
  intro c hc; obtain ⟨n, hn, rfl⟩ := List.mem_map.1 hc; have := List.all_eq_true.1 h n hn
  simpa using this
theorem head_words : wordsSigns Tryz.prog.initOrder.toList = sgs headA :: sgs headB :: sgs headC :: wordsSigns (sgs headR) := by
  have e : sgs (headA ++ 32 :: (headB ++ 32 :: (headC ++ 32 :: headR))) = sgs headA ++ Char.ofNat 32 :: (sgs headB ++ Char.ofNat 32 :: (sgs headC ++ Char.ofNat 32 :: sgs headR)) := by unfold sgs; simp only [List.map_append, List.map_cons]
  rw [head_is, String.toList_ofList, head_split]; show wordsSigns (sgs _) = _; rw [e, words_cons _ _ (no_blank headA (by kernel_rfl)), words_cons _ _ (no_blank headB (by kernel_rfl)), words_cons _ _ (no_blank headC (by kernel_rfl))]
theorem listA : "harness".toList = sgs headA := by rw [show "harness" = String.ofList (sgs headA) by kernel_rfl, String.toList_ofList]
theorem listB : "5bdd96df082b05ead8f499b068607ad6f70edb0fd0d8d9298370081f32bba95f".toList = sgs headB := by rw [show "5bdd96df082b05ead8f499b068607ad6f70edb0fd0d8d9298370081f32bba95f" = String.ofList (sgs headB) by kernel_rfl, String.toList_ofList]
theorem listC : "cut".toList = sgs headC := by rw [show "cut" = String.ofList (sgs headC) by kernel_rfl, String.toList_ofList]
theorem sumB : isSumSigns (sgs headB) = true := by kernel_rfl
theorem main_of (P : Program) (h s : List Char) (r : List (List Char)) (hw : wordsSigns P.initOrder.toList = h :: s :: r) (hs : isSumSigns s = true) (hh : (h == "harness".toList) = true) : P.mainIs = some (true, s) := by
  unfold Program.mainIs; rw [hw]
  dsimp only
  rw [hs, hh]
  rfl
theorem behind_of (P : Program) (h s : List Char) (r : List (List Char)) (hw : wordsSigns P.initOrder.toList = h :: s :: r) (hs : isSumSigns s = true) (hh : (h == "harness".toList) = true) : behindMainWord (wordsSigns P.initOrder.toList) = r := by
  rw [hw]; unfold behindMainWord
  dsimp only
  rw [hs, hh]
  rfl
theorem isA : (sgs headA == "harness".toList) = true := by rw [listA]; exact beq_self_eq_true _
theorem tMainIs : Tryz.prog.mainIs = some (true, "5bdd96df082b05ead8f499b068607ad6f70edb0fd0d8d9298370081f32bba95f".toList) := by
  rw [listB]; exact main_of Tryz.prog _ _ _ head_words sumB isA
theorem tBehind : behindMainWord (wordsSigns Tryz.prog.initOrder.toList) = "cut".toList :: wordsSigns (sgs headR) := by
  rw [listC]; exact behind_of Tryz.prog _ _ _ head_words sumB isA
theorem strip_none (w : String) (ws : List (List Char)) : ∀ os : List String, w ∉ os → stripLifts os (w.toList :: ws) = ([], w.toList :: ws) := by
  intro os
  induction os with
  | nil => intro _; rfl
  | cons o os ih =>
    intro h
    have h1 : ¬ (w.toList == o.toList) = true := by
      intro e; have := String.toList_inj.1 (eq_of_beq e); exact h (by simp [this])
    rw [stripLifts, if_neg h1]; exact ih (fun hm => h (by simp [hm]))
theorem tStrip : stripLifts liftWords ("cut".toList :: wordsSigns (sgs headR)) = ([], "cut".toList :: wordsSigns (sgs headR)) := strip_none _ _ _ (by decide)
theorem tLays : Tryz.prog.laysLater = false := by kernel_rfl
theorem tReflect : Tryz.prog.bearsReflect = false := by kernel_rfl
theorem tFits : Tryz.prog.doorFits [] = true := by kernel_rfl
theorem str_ne {a b : String} (h : a ≠ b) : (a.toList == b.toList) = false := beq_eq_false_iff_ne.2 (fun e => h (String.toList_inj.1 e))
theorem enter_of (P : Program) (c : List Char) (r : List (List Char)) (h : behindMainWord (wordsSigns P.initOrder.toList) = c :: r) (hs : stripLifts liftWords (c :: r) = ([], c :: r)) (h1 : (c == "gc".toList) = false) (h2 : (c == "spec".toList) = false)
    (h3 : (c == "carried".toList) = false) (h4 : (some c == some "cut".toList) = true) (l : P.laysLater = false) (m : P.bearsReflect = false) (d : P.doorFits [] = true) : P.mayEnter = true := by
  unfold Program.mayEnter; rw [h]
  dsimp only
  rw [hs, h1, h2, h3, l, m, d]
  dsimp only
  rw [List.head?_cons, h4]
  rfl
theorem tMayEnter : Tryz.prog.mayEnter = true := enter_of Tryz.prog _ _ tBehind tStrip (str_ne (by decide)) (str_ne (by decide)) (str_ne (by decide)) (beq_self_eq_true _) tLays tReflect tFits
theorem lifts_of (P : Program) (c : List Char) (r : List (List Char)) (h : behindMainWord (wordsSigns P.initOrder.toList) = c :: r) (hs : stripLifts liftWords (c :: r) = ([], c :: r)) : P.headLifts = [] := by
  unfold Program.headLifts; rw [h]
  dsimp only
  rw [hs]
  split <;> rfl
theorem tHeadLifts : Tryz.prog.headLifts = [] := lifts_of Tryz.prog _ _ tBehind tStrip
theorem final_of (P : Program) (c : List Char) (r : List (List Char)) (h : behindMainWord (wordsSigns P.initOrder.toList) = c :: r) (h3 : (some c == some "carried".toList) = false) (hl : P.headLifts = []) : P.liftsFinal = false := by
  unfold Program.liftsFinal; rw [h, hl]
  dsimp only
  rw [List.head?_cons, h3]
  rfl
theorem some_ne {a b : List Char} (h : (a == b) = false) : (some a == some b) = false := h
theorem tFinal : Tryz.prog.liftsFinal = false := final_of Tryz.prog _ _ tBehind (some_ne (str_ne (by decide))) tHeadLifts
theorem make_of (P : Program) (c : List Char) (r : List (List Char)) (h : behindMainWord (wordsSigns P.initOrder.toList) = c :: r) (h1 : (c == "gc".toList) = false) (h2 : (c == "spec".toList) = false) (h4 : (c == "cut".toList) = true) : P.make = some .cut := by
  unfold Program.make; rw [h]
  dsimp only
  rw [h1, h2, h4]
  rfl
theorem tMake : Tryz.prog.make = some .cut := make_of Tryz.prog _ _ tBehind (str_ne (by decide)) (str_ne (by decide)) (beq_self_eq_true _)
theorem tLaidOut : laidOutB Tryz.prog = true := by kernel_rfl
theorem tMaps : mapsRowed Tryz.prog = true := by kernel_rfl
theorem tHeard : Tryz.prog.stopsHeard = true := by kernel_rfl
theorem tLooks : true = Tryz.prog.looks [] := by kernel_rfl
theorem and_t {a b : Bool} (h1 : a = true) (h2 : b = true) : (a && b) = true := by rw [h1, h2]; rfl
theorem eq_t {α : Type} [BEq α] [LawfulBEq α] {a b : α} (h : a = b) : (a == b) = true := by rw [h]; exact beq_self_eq_true b
end Go.Proofs.YtbknfddaoolagaaGreatDoor
end

section
namespace Go.Proofs.YtbknfddaoolagaaGreatDoor
open Go Go.ChangeShapes Go.WideShapes Go.ChangeAt Go.RowKit Go.Proofs
set_option linter.unusedVariables false

def lay5 : List (String × DataW Unit) := [("math/bits.deBruijn32tab", Rows.laid_math_bits_deBruijn32tab), ("math/bits.deBruijn64tab", Rows.laid_math_bits_deBruijn64tab), ("internal/strconv.uint64pow10", Rows.laid_internal_strconv_uint64pow10), ("unicode/utf8.acceptRanges", Rows.laid_unicode_utf8_acceptRanges), ("unicode/utf8.first", Rows.laid_unicode_utf8_first)]
theorem pow10_data : (Rows.laid_internal_strconv_uint64pow10 : DataW Unit) = Lib.tabData .u64 Lib.pow10Tab := by kernel_rfl
theorem pow10_of {W : World} (h : laidMetH Tryz.prog lay5 W) : Lib.TabIs Tryz.prog W "internal/strconv.uint64pow10" .u64 Lib.pow10Tab := by
  rw [MakeChecks.laidMetH_plain _ _ _ (by kernel_rfl)] at h
  have h2 : laidMet Tryz.prog (("internal/strconv.uint64pow10", Lib.tabData .u64 Lib.pow10Tab) :: [("unicode/utf8.acceptRanges", Rows.laid_unicode_utf8_acceptRanges), ("unicode/utf8.first", Rows.laid_unicode_utf8_first)]) W := by
    rw [← pow10_data]; exact h.tail.tail
  exact Lib.tabIs_of_head (g := 1) (t := 209) (e := 201) (n := Lib.pow10Tab.length) (by kernel_rfl) (by kernel_rfl) (Tryz.underlying209) (by kernel_rfl) (by kernel_rfl) (by kernel_rfl) h2
theorem returns_listed {H : Type} {enc : TypeId × Value → H} {C : Checked} {os : Os} {f : FuncId} {fn : Func} {s : ChangeSpec} {X : World → Array Value → Prop}
    (hX : ∀ (w w' : World) (args : Array Value), w.heap = w'.heap → X w args → X w' args)
    (own : ownKnob C.prog.godebug = none) (started : os.Started) (noInit : C.prog.inits.idxOf? f = none) (hfn : C.prog.funcs[f]? = some fn)
    (witness : ∃ (w : World) (tape : Tape) (i : Input), w.os = os ∧ (w.forCall tape i).Shaped C.prog ∧ i.vars = [] ∧ Input.okWide C.prog (w.forCall tape i) .any w.heap.size f i ∧
      ((s.pre enc C.prog fn [] false (w.forCall tape i).memory i.args ∧ X (w.forCall tape i).memory i.args) ∧ sizedMet enc C.prog fn (OpenSpec.ofChange s) false (w.forCall tape i).memory i.args) ∧ ({} : Assume).holds C.prog (lone (Frame.enter C.prog f i.args .normal) [] (w.forCall tape i)))
    (contract : ∀ (W : World) (base : Nat) (args : Array Value) (ds gs : List (DataW H)) (before : List MemPlace),
      (∀ (j : Nat) t v, fn.params[j]? = some t → args[j]? = some v → Value.okWide C.prog W .any base t v) →
      DataW.Whole enc C.prog fn.params.toList s.vars false W args.toList ds gs before → X W args → W.ShapedOpen C.prog →
      Calls C.prog f args W fun e W' => ∃ v, e = .returned v ∧ s.post enc C.prog fn false true false false W args v W') :
    ReturnsInHanded {} C os f .any (fun w args => (s.pre enc C.prog fn [] false w args ∧ X w args) ∧ sizedMet enc C.prog fn (OpenSpec.ofChange s) false w args) (s.post enc C.prog fn false true false false) := by
  refine returnsInHanded_of_calls own started noInit witness ?_; intro w tape i _ hsh _ hok hpre _; obtain ⟨_, _, _, fn', hfn', _, _, _, _, hval⟩ := hok; obtain rfl : fn' = fn := Option.some.inj (hfn'.symm.trans hfn); obtain ⟨⟨⟨ds, gs, before, hw, _⟩, hx⟩, _⟩ := hpre; refine (contract (w.forCall tape i) w.heap.size i.args ds gs before hval (DataW.Whole.of_heap (w' := w.forCall tape i) (by rfl) hw) (hX _ _ _ (by rfl) hx) hsh).mono fun e W' ⟨v, he, hp⟩ => ?_
  subst he; exact ChangeSpec.post_blind hp
theorem maxLen_of {W : World} (h : W.ShapedOpen Tryz.prog) : ∃ m, MaxL m W :=
  cell_of_shapedOpen_int (g := 0) (t := 3) (zero := #[.int .i64 0]) h (of_decide_eq_true (by kernel_rfl)) (by kernel_rfl) rfl (by kernel_rfl) (by kernel_rfl) Tryz.underlying3
end Go.Proofs.YtbknfddaoolagaaGreatDoor
end
