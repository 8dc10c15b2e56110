/-
  The words of the program's head, and the closed facts of the whole program that every card of this seat asks (each computed by the kernel).
-/
import Derived.Test.YtncfgkhbenmpoaaGreatDoorRows
import Derived.JoinedOf
import Derived.SevenTiedAt
section
set_option maxRecDepth 100000
namespace Go.Proofs.YtncfgkhbenmpoaaGreatDoor
open Go
/-- the words of the program's head, as numbers: the first three, and all that follows -/
def headA : List Nat := [104, 97, 114, 110, 101, 115, 115]
def headB : List Nat := [57, 56, 53, 101, 99, 56, 48, 101, 102, 57, 102, 49, 54, 54, 99, 53, 48, 57, 102, 56, 56, 55, 50, 56, 55, 50, 57, 100, 98, 98, 52, 52, 51, 99, 98, 100, 53, 57, 97, 50, 57, 48, 97, 55, 54, 100, 56, 52, 48, 57, 101, 56, 49, 53, 98, 54, 98, 98, 100, 97, 48, 97, 100, 51]
def headC : List Nat := [99, 117, 116]
def headR : List Nat := [97, 116, 32, 116, 101, 108, 108, 117, 114, 105, 111, 110, 47, 116, 101, 108, 108, 117, 114, 105, 111, 110, 108, 97, 119, 48, 52, 46, 67, 97, 109, 78, 101, 97, 114, 101, 115, 116, 115, 32, 116, 101, 108, 108, 117, 114, 105, 111, 110, 47, 116, 101, 108, 108, 117, 114, 105, 111, 110, 108, 97, 119, 48, 52, 46, 67, 97, 109, 75, 110, 111, 119, 110, 115, 32, 116, 101, 108, 108, 117, 114, 105, 111, 110, 47, 116, 101, 108, 108, 117, 114, 105, 111, 110, 108, 97, 119, 48, 52, 46, 67, 97, 109, 84, 114, 117, 101, 32, 116, 101, 108, 108, 117, 114, 105, 111, 110, 47, 116, 101, 108, 108, 117, 114, 105, 111, 110, 108, 97, 119, 48, 52, 46, 67, 97, 109, 69, 110, 100, 115, 32, 116, 101, 108, 108, 117, 114, 105, 111, 110, 47, 116, 101, 108, 108, 117, 114, 105, 111, 110, 108, 97, 119, 48, 52, 46, 67, 97, 109, 70, 111, 108, 108, 111, 119, 115, 32, 116, 101, 108, 108, 117, 114, 105, 111, 110, 47, 116, 101, 108, 108, 117, 114, 105, 111, 110, 108, 97, 119, 48, 52, 46, 67, 97, 109, 70, 111, 111, 116, 32, 116, 101, 108, 108, 117, 114, 105, 111, 110, 47, 116, 101, 108, 108, 117, 114, 105, 111, 110, 108, 97, 119, 48, 52, 46, 67, 97, 109, 83, 116, 97, 116, 105, 111, 110, 115, 32, 116, 101, 108, 108, 117, 114, 105, 111, 110, 47, 116, 101, 108, 108, 117, 114, 105, 111, 110, 108, 97, 119, 48, 52, 46, 67, 97, 109, 82, 101, 116, 114, 101, 97, 116, 115, 32, 116, 101, 108, 108, 117, 114, 105, 111, 110, 47, 116, 101, 108, 108, 117, 114, 105, 111, 110, 108, 97, 119, 48, 52, 46, 67, 97, 109, 77, 111, 114, 101, 32, 116, 101, 108, 108, 117, 114, 105, 111, 110, 47, 116, 101, 108, 108, 117, 114, 105, 111, 110, 108, 97, 119, 48, 52, 46, 67, 97, 109, 80, 108, 97, 99, 101, 115, 32, 116, 101, 108, 108, 117, 114, 105, 111, 110, 47, 116, 101, 108, 108, 117, 114, 105, 111, 110, 108, 97, 119, 48, 52, 46, 67, 97, 109, 84, 117, 114, 110, 115, 32, 116, 101, 108, 108, 117, 114, 105, 111, 110, 47, 116, 101, 108, 108, 117, 114, 105, 111, 110, 108, 97, 119, 48, 52, 46, 67, 97, 109, 83, 116, 111, 111, 100, 32, 116, 101, 108, 108, 117, 114, 105, 111, 110, 47, 116, 101, 108, 108, 117, 114, 105, 111, 110, 108, 97, 119, 48, 52, 46, 67, 97, 109, 66, 97, 99, 107, 32, 116, 101, 108, 108, 117, 114, 105, 111, 110, 47, 116, 101, 108, 108, 117, 114, 105, 111, 110, 108, 97, 119, 48, 52, 46, 67, 97, 109, 67, 97, 114, 118, 101, 100, 32, 116, 101, 108, 108, 117, 114, 105, 111, 110, 47, 116, 101, 108, 108, 117, 114, 105, 111, 110, 108, 97, 119, 48, 52, 46, 67, 97, 109, 83, 104, 105, 102, 116, 115, 32, 116, 101, 108, 108, 117, 114, 105, 111, 110, 47, 116, 101, 108, 108, 117, 114, 105, 111, 110, 108, 97, 119, 48, 52, 46, 67, 97, 109, 83, 104, 105, 102, 116, 101, 100, 32, 116, 101, 108, 108, 117, 114, 105, 111, 110, 47, 116, 101, 108, 108, 117, 114, 105, 111, 110, 108, 97, 119, 48, 52, 46, 67, 97, 109, 82, 105, 118, 97, 108, 115, 32, 116, 101, 108, 108, 117, 114, 105, 111, 110, 47, 116, 101, 108, 108, 117, 114, 105, 111, 110, 108, 97, 119, 48, 52, 46, 67, 97, 109, 70, 105, 116, 116, 101, 100, 32, 116, 101, 108, 108, 117, 114, 105, 111, 110, 47, 116, 101, 108, 108, 117, 114, 105, 111, 110, 108, 97, 119, 48, 52, 46, 67, 97, 109, 80, 114, 105, 110, 116, 115, 32, 116, 101, 108, 108, 117, 114, 105, 111, 110, 47, 116, 101, 108, 108, 117, 114, 105, 111, 110, 108, 97, 119, 48, 52, 46, 67, 97, 109, 82, 101, 97, 100, 115, 32, 116, 101, 108, 108, 117, 114, 105, 111, 110, 47, 116, 101, 108, 108, 117, 114, 105, 111, 110, 108, 97, 119, 48, 52, 46, 67, 97, 109, 83, 112, 111, 105, 108, 116]
def sgs (l : List Nat) : List Char := l.map Char.ofNat
def headN : List Nat := [104, 97, 114, 110, 101, 115, 115, 32, 57, 56, 53, 101, 99, 56, 48, 101, 102, 57, 102, 49, 54, 54, 99, 53, 48, 57, 102, 56, 56, 55, 50, 56, 55, 50, 57, 100, 98, 98, 52, 52, 51, 99, 98, 100, 53, 57, 97, 50, 57, 48, 97, 55, 54, 100, 56, 52, 48, 57, 101, 56, 49, 53, 98, 54, 98, 98, 100, 97, 48, 97, 100, 51, 32, 99, 117, 116, 32, 97, 116, 32, 116, 101, 108, 108, 117, 114, 105, 111, 110, 47, 116, 101, 108, 108, 117, 114, 105, 111, 110, 108, 97, 119, 48, 52, 46, 67, 97, 109, 78, 101, 97, 114, 101, 115, 116, 115, 32, 116, 101, 108, 108, 117, 114, 105, 111, 110, 47, 116, 101, 108, 108, 117, 114, 105, 111, 110, 108, 97, 119, 48, 52, 46, 67, 97, 109, 75, 110, 111, 119, 110, 115, 32, 116, 101, 108, 108, 117, 114, 105, 111, 110, 47, 116, 101, 108, 108, 117, 114, 105, 111, 110, 108, 97, 119, 48, 52, 46, 67, 97, 109, 84, 114, 117, 101, 32, 116, 101, 108, 108, 117, 114, 105, 111, 110, 47, 116, 101, 108, 108, 117, 114, 105, 111, 110, 108, 97, 119, 48, 52, 46, 67, 97, 109, 69, 110, 100, 115, 32, 116, 101, 108, 108, 117, 114, 105, 111, 110, 47, 116, 101, 108, 108, 117, 114, 105, 111, 110, 108, 97, 119, 48, 52, 46, 67, 97, 109, 70, 111, 108, 108, 111, 119, 115, 32, 116, 101, 108, 108, 117, 114, 105, 111, 110, 47, 116, 101, 108, 108, 117, 114, 105, 111, 110, 108, 97, 119, 48, 52, 46, 67, 97, 109, 70, 111, 111, 116, 32, 116, 101, 108, 108, 117, 114, 105, 111, 110, 47, 116, 101, 108, 108, 117, 114, 105, 111, 110, 108, 97, 119, 48, 52, 46, 67, 97, 109, 83, 116, 97, 116, 105, 111, 110, 115, 32, 116, 101, 108, 108, 117, 114, 105, 111, 110, 47, 116, 101, 108, 108, 117, 114, 105, 111, 110, 108, 97, 119, 48, 52, 46, 67, 97, 109, 82, 101, 116, 114, 101, 97, 116, 115, 32, 116, 101, 108, 108, 117, 114, 105, 111, 110, 47, 116, 101, 108, 108, 117, 114, 105, 111, 110, 108, 97, 119, 48, 52, 46, 67, 97, 109, 77, 111, 114, 101, 32, 116, 101, 108, 108, 117, 114, 105, 111, 110, 47, 116, 101, 108, 108, 117, 114, 105, 111, 110, 108, 97, 119, 48, 52, 46, 67, 97, 109, 80, 108, 97, 99, 101, 115, 32, 116, 101, 108, 108, 117, 114, 105, 111, 110, 47, 116, 101, 108, 108, 117, 114, 105, 111, 110, 108, 97, 119, 48, 52, 46, 67, 97, 109, 84, 117, 114, 110, 115, 32, 116, 101, 108, 108, 117, 114, 105, 111, 110, 47, 116, 101, 108, 108, 117, 114, 105, 111, 110, 108, 97, 119, 48, 52, 46, 67, 97, 109, 83, 116, 111, 111, 100, 32, 116, 101, 108, 108, 117, 114, 105, 111, 110, 47, 116, 101, 108, 108, 117, 114, 105, 111, 110, 108, 97, 119, 48, 52, 46, 67, 97, 109, 66, 97, 99, 107, 32, 116, 101, 108, 108, 117, 114, 105, 111, 110, 47, 116, 101, 108, 108, 117, 114, 105, 111, 110, 108, 97, 119, 48, 52, 46, 67, 97, 109, 67, 97, 114, 118, 101, 100, 32, 116, 101, 108, 108, 117, 114, 105, 111, 110, 47, 116, 101, 108, 108, 117, 114, 105, 111, 110, 108, 97, 119, 48, 52, 46, 67, 97, 109, 83, 104, 105, 102, 116, 115, 32, 116, 101, 108, 108, 117, 114, 105, 111, 110, 47, 116, 101, 108, 108, 117, 114, 105, 111, 110, 108, 97, 119, 48, 52, 46, 67, 97, 109, 83, 104, 105, 102, 116, 101, 100, 32, 116, 101, 108, 108, 117, 114, 105, 111, 110, 47, 116, 101, 108, 108, 117, 114, 105, 111, 110, 108, 97, 119, 48, 52, 46, 67, 97, 109, 82, 105, 118, 97, 108, 115, 32, 116, 101, 108, 108, 117, 114, 105, 111, 110, 47, 116, 101, 108, 108, 117, 114, 105, 111, 110, 108, 97, 119, 48, 52, 46, 67, 97, 109, 70, 105, 116, 116, 101, 100, 32, 116, 101, 108, 108, 117, 114, 105, 111, 110, 47, 116, 101, 108, 108, 117, 114, 105, 111, 110, 108, 97, 119, 48, 52, 46, 67, 97, 109, 80, 114, 105, 110, 116, 115, 32, 116, 101, 108, 108, 117, 114, 105, 111, 110, 47, 116, 101, 108, 108, 117, 114, 105, 111, 110, 108, 97, 119, 48, 52, 46, 67, 97, 109, 82, 101, 97, 100, 115, 32, 116, 101, 108, 108, 117, 114, 105, 111, 110, 47, 116, 101, 108, 108, 117, 114, 105, 111, 110, 108, 97, 119, 48, 52, 46, 67, 97, 109, 83, 112, 111, 105, 108, 116]
theorem head_is : Tryz.prog.initOrder = String.ofList (headN.map Char.ofNat) := by kernel_rfl
theorem head_split : headN = headA ++ 32 :: (headB ++ 32 :: (headC ++ 32 :: headR)) := by kernel_rfl
theorem words_cons (r : List Char) : ∀ w : List Char, (∀ c ∈ w, c ≠ Char.ofNat 32) → wordsSigns (w ++ Char.ofNat 32 :: r) = w :: wordsSigns r := by
  intro w
  induction w with
  | nil => intro _; exact rfl
  | cons c w ih =>
    intro h
    have hc : c ≠ Char.ofNat 32 := h c (by simp)
    have e := ih (fun x hx => h x (by simp [hx]))
    rw [List.cons_append, wordsSigns]
    · rw [e]
    · exact hc
theorem no_blank (l : List Nat) (h : l.all (fun n => Char.ofNat n != Char.ofNat 32) = true) : ∀ c ∈ sgs l, c ≠ Char.ofNat 32 := by
  intro c hc
  obtain ⟨n, hn, rfl⟩ := List.mem_map.1 hc
  have := List.all_eq_true.1 h n hn
  simpa using this
theorem head_words : wordsSigns Tryz.prog.initOrder.toList = sgs headA :: sgs headB :: sgs headC :: wordsSigns (sgs headR) := by
  have e : sgs (headA ++ 32 :: (headB ++ 32 :: (headC ++ 32 :: headR))) = sgs headA ++ Char.ofNat 32 :: (sgs headB ++ Char.ofNat 32 :: (sgs headC ++ Char.ofNat 32 :: sgs headR)) := by unfold sgs; simp only [List.map_append, List.map_cons]
  rw [head_is, String.toList_ofList, head_split]
  show wordsSigns (sgs _) = _
  rw [e, words_cons _ _ (no_blank headA (by kernel_rfl)), words_cons _ _ (no_blank headB (by kernel_rfl)), words_cons _ _ (no_blank headC (by kernel_rfl))]
theorem listA : "harness".toList = sgs headA := by rw [show "harness" = String.ofList (sgs headA) by kernel_rfl, String.toList_ofList]
theorem listB : "985ec80ef9f166c509f88728729dbb443cbd59a290a76d8409e815b6bbda0ad3".toList = sgs headB := by rw [show "985ec80ef9f166c509f88728729dbb443cbd59a290a76d8409e815b6bbda0ad3" = String.ofList (sgs headB) by kernel_rfl, String.toList_ofList]
theorem listC : "cut".toList = sgs headC := by rw [show "cut" = String.ofList (sgs headC) by kernel_rfl, String.toList_ofList]
theorem sumB : isSumSigns (sgs headB) = true := by kernel_rfl
theorem main_of (P : Program) (h s : List Char) (r : List (List Char)) (hw : wordsSigns P.initOrder.toList = h :: s :: r) (hs : isSumSigns s = true) (hh : (h == "harness".toList) = true) : P.mainIs = some (true, s) := by
  unfold Program.mainIs
  rw [hw]
  dsimp only
  rw [hs, hh]
  rfl
theorem behind_of (P : Program) (h s : List Char) (r : List (List Char)) (hw : wordsSigns P.initOrder.toList = h :: s :: r) (hs : isSumSigns s = true) (hh : (h == "harness".toList) = true) : behindMainWord (wordsSigns P.initOrder.toList) = r := by
  rw [hw]
  unfold behindMainWord
  dsimp only
  rw [hs, hh]
  rfl
theorem isA : (sgs headA == "harness".toList) = true := by rw [listA]; exact beq_self_eq_true _
theorem tMainIs : Tryz.prog.mainIs = some (true, "985ec80ef9f166c509f88728729dbb443cbd59a290a76d8409e815b6bbda0ad3".toList) := by
  rw [listB]
  exact main_of Tryz.prog _ _ _ head_words sumB isA
theorem tBehind : behindMainWord (wordsSigns Tryz.prog.initOrder.toList) = "cut".toList :: wordsSigns (sgs headR) := by
  rw [listC]
  exact behind_of Tryz.prog _ _ _ head_words sumB isA
theorem strip_none (w : String) (ws : List (List Char)) : ∀ os : List String, w ∉ os → stripLifts os (w.toList :: ws) = ([], w.toList :: ws) := by
  intro os
  induction os with
  | nil => intro _; rfl
  | cons o os ih =>
    intro h
    have h1 : ¬ (w.toList == o.toList) = true := by
      intro e
      have := String.toList_inj.1 (eq_of_beq e)
      exact h (by simp [this])
    rw [stripLifts, if_neg h1]
    exact ih (fun hm => h (by simp [hm]))
theorem tStrip : stripLifts liftWords ("cut".toList :: wordsSigns (sgs headR)) = ([], "cut".toList :: wordsSigns (sgs headR)) := strip_none _ _ _ (by decide)
theorem tLays : Tryz.prog.laysLater = false := by kernel_rfl
theorem tReflect : Tryz.prog.bearsReflect = false := by kernel_rfl
theorem tFits : Tryz.prog.doorFits [] = true := by kernel_rfl
theorem str_ne {a b : String} (h : a ≠ b) : (a.toList == b.toList) = false := beq_eq_false_iff_ne.2 (fun e => h (String.toList_inj.1 e))
theorem enter_of (P : Program) (c : List Char) (r : List (List Char)) (h : behindMainWord (wordsSigns P.initOrder.toList) = c :: r) (hs : stripLifts liftWords (c :: r) = ([], c :: r)) (h1 : (c == "gc".toList) = false) (h2 : (c == "spec".toList) = false)
    (h3 : (c == "carried".toList) = false) (h4 : (some c == some "cut".toList) = true) (l : P.laysLater = false) (m : P.bearsReflect = false) (d : P.doorFits [] = true) : P.mayEnter = true := by
  unfold Program.mayEnter
  rw [h]
  dsimp only
  rw [hs, h1, h2, h3, l, m, d]
  dsimp only
  rw [List.head?_cons, h4]
  rfl
theorem tMayEnter : Tryz.prog.mayEnter = true := enter_of Tryz.prog _ _ tBehind tStrip (str_ne (by decide)) (str_ne (by decide)) (str_ne (by decide)) (beq_self_eq_true _) tLays tReflect tFits
theorem lifts_of (P : Program) (c : List Char) (r : List (List Char)) (h : behindMainWord (wordsSigns P.initOrder.toList) = c :: r) (hs : stripLifts liftWords (c :: r) = ([], c :: r)) : P.headLifts = [] := by
  unfold Program.headLifts
  rw [h]
  dsimp only
  rw [hs]
  split <;> rfl
theorem tHeadLifts : Tryz.prog.headLifts = [] := lifts_of Tryz.prog _ _ tBehind tStrip
theorem final_of (P : Program) (c : List Char) (r : List (List Char)) (h : behindMainWord (wordsSigns P.initOrder.toList) = c :: r) (h3 : (some c == some "carried".toList) = false) (hl : P.headLifts = []) : P.liftsFinal = false := by
  unfold Program.liftsFinal
  rw [h, hl]
  dsimp only
  rw [List.head?_cons, h3]
  rfl
theorem some_ne {a b : List Char} (h : (a == b) = false) : (some a == some b) = false := h
theorem tFinal : Tryz.prog.liftsFinal = false := final_of Tryz.prog _ _ tBehind (some_ne (str_ne (by decide))) tHeadLifts
theorem make_of (P : Program) (c : List Char) (r : List (List Char)) (h : behindMainWord (wordsSigns P.initOrder.toList) = c :: r) (h1 : (c == "gc".toList) = false) (h2 : (c == "spec".toList) = false) (h4 : (c == "cut".toList) = true) : P.make = some .cut := by
  unfold Program.make
  rw [h]
  dsimp only
  rw [h1, h2, h4]
  rfl
theorem tMake : Tryz.prog.make = some .cut := make_of Tryz.prog _ _ tBehind (str_ne (by decide)) (str_ne (by decide)) (beq_self_eq_true _)
theorem tLaidOut : laidOutB Tryz.prog = true := by kernel_rfl
theorem tMaps : mapsRowed Tryz.prog = true := by kernel_rfl
theorem tHeard : Tryz.prog.stopsHeard = true := by kernel_rfl
theorem tLooks : true = Tryz.prog.looks [] := by kernel_rfl
theorem and_t {a b : Bool} (h1 : a = true) (h2 : b = true) : (a && b) = true := by rw [h1, h2]; rfl
theorem eq_t {α : Type} [BEq α] [LawfulBEq α] {a b : α} (h : a = b) : (a == b) = true := by rw [h]; exact beq_self_eq_true b
end Go.Proofs.YtncfgkhbenmpoaaGreatDoor
end
