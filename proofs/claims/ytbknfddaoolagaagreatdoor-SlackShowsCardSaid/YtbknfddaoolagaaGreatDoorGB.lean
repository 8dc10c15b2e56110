/-
  Whether a list holds something that is not as defined: contracts, a copy for each closure (printed by slkfunc.py).
  What is a piece, and plays: contracts (printed by slkc3.py).
-/
import Derived.Test.YtbknfddaoolagaaGreatDoorGA
section
namespace Go.Proofs.YtbknfddaoolagaaGreatDoor
open Go Go.RowKit Go.Proofs
set_option linter.unusedVariables false
attribute [local go_sem] imax2 imin2

set_option maxRecDepth 100000 in
theorem c_readNot (pb nb : Nat) (pv : Option Addr) (cv kk nn : Nat) (a b s o : Int) (w : World) (hk : w.cell? ⟨pb, 1, none⟩ = some (.slice pv kk cv)) (hm : w.cell? ⟨nb, 0, none⟩ = some (.int .i64 (nn : Int))) :
    Calls Tryz.prog 92 #[.agg #[.int .i64 a, .int .i64 b, .int .i64 s, .int .i64 o], .pointer (some ⟨pb, 0, none⟩), .pointer (some ⟨nb, 0, none⟩)] w fun e w' => e = .returned (.bool (!readB nn kk ⟨a, b, s, o⟩)) ∧ Below w.heap.size w w' := by
  obtain ⟨w0, e0, HS, k0, k1, k2, k3, b0⟩ := box4 w (.int .i64 a) (.int .i64 b) (.int .i64 s) (.int .i64 o) 87
  have hk := (b0.cell (lt_of_cellq hk)).trans hk
  have hm := (b0.cell (lt_of_cellq hm)).trans hm
  have HB0 := Lib.hid b0
  clear b0
  rcases h1 : inB a 0 kk with _ | _
  · have H := Lib.hid (show readB nn kk ⟨a, b, s, o⟩ = false by unfold readB; rw [h1]; rfl)
    go_enter Tryz.func92, Tryz.ntmps92
    go_wp2_with (go_at_call 73; refine (c_in _ _ _ _).mono ?_; rintro e w' ⟨rfl, rfl⟩)
    go_ret
    exact ⟨by rw [H.out]; rfl, HB0.out⟩
  rcases h2 : inB b 1 nn with _ | _
  · have H := Lib.hid (show readB nn kk ⟨a, b, s, o⟩ = false by unfold readB; simp [h1, h2])
    go_enter Tryz.func92, Tryz.ntmps92
    go_wp2_with (go_at_call 73; refine (c_in _ _ _ _).mono ?_; rintro e w' ⟨rfl, rfl⟩)
    go_ret
    exact ⟨by rw [H.out]; rfl, HB0.out⟩
  rcases h3 : inB s (-5000) 5000 with _ | _
  · have H := Lib.hid (show readB nn kk ⟨a, b, s, o⟩ = false by unfold readB; simp [h1, h2, h3])
    go_enter Tryz.func92, Tryz.ntmps92
    go_wp2_with (go_at_call 73; refine (c_in _ _ _ _).mono ?_; rintro e w' ⟨rfl, rfl⟩)
    go_ret
    exact ⟨by rw [H.out]; rfl, HB0.out⟩
  · have H := Lib.hid (show readB nn kk ⟨a, b, s, o⟩ = inB o 0 50 by unfold readB; simp [h1, h2, h3])
    go_enter Tryz.func92, Tryz.ntmps92
    go_wp2_with (go_at_call 73; refine (c_in _ _ _ _).mono ?_; rintro e w' ⟨rfl, rfl⟩)
    go_ret
    exact ⟨by rw [H.out]; rfl, HB0.out⟩

def BadAt (n : Nat) (ok : Nat → Bool) (r : Int) : Prop := (r = -1 ∧ ∀ j, j < n → ok j = true) ∨ (0 ≤ r ∧ ∃ j, j < n ∧ ok j = false)
def BadPost (n : Nat) (ok : Nat → Bool) (w : World) (e : Ending) (w' : World) : Prop := ∃ r : Int, BadAt n ok r ∧ e = .returned (.int .i64 r) ∧ Below w.heap.size w w'
theorem all_ok {α : Type} {f : α → Bool} {d : α} {l : List α} (h : ∀ j, j < l.length → f (l.getD j d) = true) : l.all f = true := (all_at d l).2 h
theorem all_bad {α : Type} {f : α → Bool} {d : α} {l : List α} {j : Nat} (hj : j < l.length) (h : f (l.getD j d) = false) : l.all f = false := by
  cases hh : l.all f with
  | false => rfl
  | true => rw [(all_at d l).1 hh j hj] at h; cases h

set_option maxHeartbeats 400000 in
set_option maxRecDepth 100000 in
theorem ix_mesh (p : Option Addr) (cap : Nat) (xs : List (Int × Int)) (w : World) (hx : RdS w p xs) (hl : xs.length ≤ 1000000) :
    Calls Tryz.prog 124 #[.slice p xs.length cap, .func (.func 88) #[] #[]] w (BadPost xs.length (fun j => meshB (gm xs j)) w) := by
  have HX := Lib.hid hx
  clear hx 
  go_enter Tryz.func124, Tryz.ntmps124
  go_wp2
  go_loopw [8] (fun i wr => ∃ k : Nat, k ≤ xs.length ∧ i = .int .i64 k ∧ Hid (∀ j, j < k → meshB (gm xs j) = true) ∧ Below w.heap.size w wr) (fun i _ => xs.length - (intOf i).toNat)
  case atStart => exact ⟨0, by omega, rfl, Lib.hid (by intro j hj; omega), Below.refl _ _⟩
  case round =>
    obtain ⟨k, hk, rfl, HH, hnx⟩ := hrel
    have HN := Lib.hid hnx
    by_cases hlt : k < xs.length
    · obtain ⟨b, off, rfl, hc⟩ := (HX.out.below hnx).at hlt
      obtain ⟨e1, e2⟩ := hc k hlt
      have hcl : Calls Tryz.prog 88 #[.agg #[.int .i64 (gm xs k).1, .int .i64 (gm xs k).2]] wr fun e w' => e = .returned (.bool (!meshB (gm xs k))) ∧ Below wr.heap.size wr w' := c_meshNot (gm xs k).1 (gm xs k).2 wr
      clear hc hnx
      rcases hb : meshB (gm xs k) with _ | _
      · have HB := Lib.hid hb
        rw [hb] at hcl
        clear hb
        go_wp2_with fail
        refine hcl.mono ?_
        rintro e w4 ⟨rfl, b4⟩
        have HN2 := Lib.hid (HN.out.trans (b4.mono HN.out.size))
        clear hcl b4
        go_wp2
        go_ret
        exact ⟨k, .inr ⟨by omega, k, hlt, HB.out⟩, rfl, HN2.out⟩
      · have HB := Lib.hid hb
        rw [hb] at hcl
        clear hb
        go_wp2_with fail
        refine hcl.mono ?_
        rintro e w4 ⟨rfl, b4⟩
        have HN2 := Lib.hid (HN.out.trans (b4.mono HN.out.size))
        clear hcl b4
        go_wp2
        go_roundw
        case rel =>
          refine ⟨k + 1, by omega, by go_num, Lib.hid fun j hj => ?_, HN2.out⟩
          rcases Nat.lt_or_ge j k with h | h
          · exact HH.out j h
          · obtain rfl : j = k := by omega
            exact HB.out
        case measure => simp [intOf]; omega
    · obtain rfl : k = xs.length := by omega
      go_wp2
      go_ret
      exact ⟨-1, .inl ⟨rfl, HH.out⟩, rfl, HN.out⟩
theorem cf_mesh (p : Option Addr) (cap : Nat) (xs : List (Int × Int)) (w : World) (hx : RdS w p xs) (hl : xs.length ≤ 1000000) :
    Calls Tryz.prog 87 #[.slice p xs.length cap, .func (.func 88) #[] #[]] w fun e w' => e = .returned (.bool (!xs.all meshB)) ∧ Below w.heap.size w w' := by
  have h := ix_mesh p cap xs w hx hl 
  clear hx 
  go_enter Tryz.func87, Tryz.ntmps87
  go_wp2_with fail
  refine h.mono ?_
  rintro e w' ⟨r, hr, rfl, hb⟩
  have HB := Lib.hid hb
  clear h hb
  rcases hr with ⟨rfl, hh⟩ | ⟨h0, j, hj, hb⟩
  · have HG := Lib.hid (all_ok (f := meshB) (d := (0, 0)) (l := xs) hh)
    clear hh
    go_wp2
    go_ret
    exact ⟨by rw [HG.out]; rfl, HB.out⟩
  · have HG := Lib.hid (all_bad (f := meshB) (d := (0, 0)) (l := xs) hj hb)
    clear hb
    go_wp2
    go_ret
    exact ⟨by rw [HG.out]; simp, HB.out⟩

set_option maxHeartbeats 400000 in
set_option maxRecDepth 100000 in
theorem ix_move (p : Option Addr) (cap : Nat) (xs : List Int) (w : World) (hx : RdI w p xs) (hl : xs.length ≤ 1000000) :
    Calls Tryz.prog 120 #[.slice p xs.length cap, .func (.func 90) #[] #[]] w (BadPost xs.length (fun j => (fun x => inB x (-300) 300) (gi xs j)) w) := by
  have HX := Lib.hid hx
  clear hx 
  go_enter Tryz.func120, Tryz.ntmps120
  go_wp2
  go_loopw [8] (fun i wr => ∃ k : Nat, k ≤ xs.length ∧ i = .int .i64 k ∧ Hid (∀ j, j < k → (fun x => inB x (-300) 300) (gi xs j) = true) ∧ Below w.heap.size w wr) (fun i _ => xs.length - (intOf i).toNat)
  case atStart => exact ⟨0, by omega, rfl, Lib.hid (by intro j hj; omega), Below.refl _ _⟩
  case round =>
    obtain ⟨k, hk, rfl, HH, hnx⟩ := hrel
    have HN := Lib.hid hnx
    by_cases hlt : k < xs.length
    · obtain ⟨b, off, rfl, hc⟩ := (HX.out.below hnx).at hlt
      obtain e1 := hc k hlt
      have hcl : Calls Tryz.prog 90 #[.int .i64 (gi xs k)] wr fun e w' => e = .returned (.bool (!(fun x => inB x (-300) 300) (gi xs k))) ∧ Below wr.heap.size wr w' := c_moveNot (gi xs k) wr
      clear hc hnx
      rcases hb : (fun x => inB x (-300) 300) (gi xs k) with _ | _
      · have HB := Lib.hid hb
        rw [hb] at hcl
        clear hb
        go_wp2_with fail
        refine hcl.mono ?_
        rintro e w4 ⟨rfl, b4⟩
        have HN2 := Lib.hid (HN.out.trans (b4.mono HN.out.size))
        clear hcl b4
        go_wp2
        go_ret
        exact ⟨k, .inr ⟨by omega, k, hlt, HB.out⟩, rfl, HN2.out⟩
      · have HB := Lib.hid hb
        rw [hb] at hcl
        clear hb
        go_wp2_with fail
        refine hcl.mono ?_
        rintro e w4 ⟨rfl, b4⟩
        have HN2 := Lib.hid (HN.out.trans (b4.mono HN.out.size))
        clear hcl b4
        go_wp2
        go_roundw
        case rel =>
          refine ⟨k + 1, by omega, by go_num, Lib.hid fun j hj => ?_, HN2.out⟩
          rcases Nat.lt_or_ge j k with h | h
          · exact HH.out j h
          · obtain rfl : j = k := by omega
            exact HB.out
        case measure => simp [intOf]; omega
    · obtain rfl : k = xs.length := by omega
      go_wp2
      go_ret
      exact ⟨-1, .inl ⟨rfl, HH.out⟩, rfl, HN.out⟩
theorem cf_move (p : Option Addr) (cap : Nat) (xs : List Int) (w : World) (hx : RdI w p xs) (hl : xs.length ≤ 1000000) :
    Calls Tryz.prog 71 #[.slice p xs.length cap, .func (.func 90) #[] #[]] w fun e w' => e = .returned (.bool (!xs.all (fun x => inB x (-300) 300))) ∧ Below w.heap.size w w' := by
  have h := ix_move p cap xs w hx hl 
  clear hx 
  go_enter Tryz.func71, Tryz.ntmps71
  go_wp2_with fail
  refine h.mono ?_
  rintro e w' ⟨r, hr, rfl, hb⟩
  have HB := Lib.hid hb
  clear h hb
  rcases hr with ⟨rfl, hh⟩ | ⟨h0, j, hj, hb⟩
  · have HG := Lib.hid (all_ok (f := (fun x => inB x (-300) 300)) (d := 0) (l := xs) hh)
    clear hh
    go_wp2
    go_ret
    exact ⟨by rw [HG.out]; rfl, HB.out⟩
  · have HG := Lib.hid (all_bad (f := (fun x => inB x (-300) 300)) (d := 0) (l := xs) hj hb)
    clear hb
    go_wp2
    go_ret
    exact ⟨by rw [HG.out]; simp, HB.out⟩

set_option maxHeartbeats 400000 in
set_option maxRecDepth 100000 in
theorem ix_play (p : Option Addr) (cap : Nat) (xs : List Int) (w : World) (hx : RdI w p xs) (hl : xs.length ≤ 1000000) :
    Calls Tryz.prog 120 #[.slice p xs.length cap, .func (.func 106) #[] #[]] w (BadPost xs.length (fun j => (fun x => inB x 0 100) (gi xs j)) w) := by
  have HX := Lib.hid hx
  clear hx 
  go_enter Tryz.func120, Tryz.ntmps120
  go_wp2
  go_loopw [8] (fun i wr => ∃ k : Nat, k ≤ xs.length ∧ i = .int .i64 k ∧ Hid (∀ j, j < k → (fun x => inB x 0 100) (gi xs j) = true) ∧ Below w.heap.size w wr) (fun i _ => xs.length - (intOf i).toNat)
  case atStart => exact ⟨0, by omega, rfl, Lib.hid (by intro j hj; omega), Below.refl _ _⟩
  case round =>
    obtain ⟨k, hk, rfl, HH, hnx⟩ := hrel
    have HN := Lib.hid hnx
    by_cases hlt : k < xs.length
    · obtain ⟨b, off, rfl, hc⟩ := (HX.out.below hnx).at hlt
      obtain e1 := hc k hlt
      have hcl : Calls Tryz.prog 106 #[.int .i64 (gi xs k)] wr fun e w' => e = .returned (.bool (!(fun x => inB x 0 100) (gi xs k))) ∧ Below wr.heap.size wr w' := c_playNot (gi xs k) wr
      clear hc hnx
      rcases hb : (fun x => inB x 0 100) (gi xs k) with _ | _
      · have HB := Lib.hid hb
        rw [hb] at hcl
        clear hb
        go_wp2_with fail
        refine hcl.mono ?_
        rintro e w4 ⟨rfl, b4⟩
        have HN2 := Lib.hid (HN.out.trans (b4.mono HN.out.size))
        clear hcl b4
        go_wp2
        go_ret
        exact ⟨k, .inr ⟨by omega, k, hlt, HB.out⟩, rfl, HN2.out⟩
      · have HB := Lib.hid hb
        rw [hb] at hcl
        clear hb
        go_wp2_with fail
        refine hcl.mono ?_
        rintro e w4 ⟨rfl, b4⟩
        have HN2 := Lib.hid (HN.out.trans (b4.mono HN.out.size))
        clear hcl b4
        go_wp2
        go_roundw
        case rel =>
          refine ⟨k + 1, by omega, by go_num, Lib.hid fun j hj => ?_, HN2.out⟩
          rcases Nat.lt_or_ge j k with h | h
          · exact HH.out j h
          · obtain rfl : j = k := by omega
            exact HB.out
        case measure => simp [intOf]; omega
    · obtain rfl : k = xs.length := by omega
      go_wp2
      go_ret
      exact ⟨-1, .inl ⟨rfl, HH.out⟩, rfl, HN.out⟩
theorem cf_play (p : Option Addr) (cap : Nat) (xs : List Int) (w : World) (hx : RdI w p xs) (hl : xs.length ≤ 1000000) :
    Calls Tryz.prog 71 #[.slice p xs.length cap, .func (.func 106) #[] #[]] w fun e w' => e = .returned (.bool (!xs.all (fun x => inB x 0 100))) ∧ Below w.heap.size w w' := by
  have h := ix_play p cap xs w hx hl 
  clear hx 
  go_enter Tryz.func71, Tryz.ntmps71
  go_wp2_with fail
  refine h.mono ?_
  rintro e w' ⟨r, hr, rfl, hb⟩
  have HB := Lib.hid hb
  clear h hb
  rcases hr with ⟨rfl, hh⟩ | ⟨h0, j, hj, hb⟩
  · have HG := Lib.hid (all_ok (f := (fun x => inB x 0 100)) (d := 0) (l := xs) hh)
    clear hh
    go_wp2
    go_ret
    exact ⟨by rw [HG.out]; rfl, HB.out⟩
  · have HG := Lib.hid (all_bad (f := (fun x => inB x 0 100)) (d := 0) (l := xs) hj hb)
    clear hb
    go_wp2
    go_ret
    exact ⟨by rw [HG.out]; simp, HB.out⟩

set_option maxHeartbeats 400000 in
set_option maxRecDepth 100000 in
theorem ix_price (p : Option Addr) (cap : Nat) (xs : List Int) (w : World) (hx : RdI w p xs) (hl : xs.length ≤ 1000000) :
    Calls Tryz.prog 120 #[.slice p xs.length cap, .func (.func 72) #[] #[]] w (BadPost xs.length (fun j => (fun x => inB x 0 1000) (gi xs j)) w) := by
  have HX := Lib.hid hx
  clear hx 
  go_enter Tryz.func120, Tryz.ntmps120
  go_wp2
  go_loopw [8] (fun i wr => ∃ k : Nat, k ≤ xs.length ∧ i = .int .i64 k ∧ Hid (∀ j, j < k → (fun x => inB x 0 1000) (gi xs j) = true) ∧ Below w.heap.size w wr) (fun i _ => xs.length - (intOf i).toNat)
  case atStart => exact ⟨0, by omega, rfl, Lib.hid (by intro j hj; omega), Below.refl _ _⟩
  case round =>
    obtain ⟨k, hk, rfl, HH, hnx⟩ := hrel
    have HN := Lib.hid hnx
    by_cases hlt : k < xs.length
    · obtain ⟨b, off, rfl, hc⟩ := (HX.out.below hnx).at hlt
      obtain e1 := hc k hlt
      have hcl : Calls Tryz.prog 72 #[.int .i64 (gi xs k)] wr fun e w' => e = .returned (.bool (!(fun x => inB x 0 1000) (gi xs k))) ∧ Below wr.heap.size wr w' := c_priceNot (gi xs k) wr
      clear hc hnx
      rcases hb : (fun x => inB x 0 1000) (gi xs k) with _ | _
      · have HB := Lib.hid hb
        rw [hb] at hcl
        clear hb
        go_wp2_with fail
        refine hcl.mono ?_
        rintro e w4 ⟨rfl, b4⟩
        have HN2 := Lib.hid (HN.out.trans (b4.mono HN.out.size))
        clear hcl b4
        go_wp2
        go_ret
        exact ⟨k, .inr ⟨by omega, k, hlt, HB.out⟩, rfl, HN2.out⟩
      · have HB := Lib.hid hb
        rw [hb] at hcl
        clear hb
        go_wp2_with fail
        refine hcl.mono ?_
        rintro e w4 ⟨rfl, b4⟩
        have HN2 := Lib.hid (HN.out.trans (b4.mono HN.out.size))
        clear hcl b4
        go_wp2
        go_roundw
        case rel =>
          refine ⟨k + 1, by omega, by go_num, Lib.hid fun j hj => ?_, HN2.out⟩
          rcases Nat.lt_or_ge j k with h | h
          · exact HH.out j h
          · obtain rfl : j = k := by omega
            exact HB.out
        case measure => simp [intOf]; omega
    · obtain rfl : k = xs.length := by omega
      go_wp2
      go_ret
      exact ⟨-1, .inl ⟨rfl, HH.out⟩, rfl, HN.out⟩
theorem cf_price (p : Option Addr) (cap : Nat) (xs : List Int) (w : World) (hx : RdI w p xs) (hl : xs.length ≤ 1000000) :
    Calls Tryz.prog 71 #[.slice p xs.length cap, .func (.func 72) #[] #[]] w fun e w' => e = .returned (.bool (!xs.all (fun x => inB x 0 1000))) ∧ Below w.heap.size w w' := by
  have h := ix_price p cap xs w hx hl 
  clear hx 
  go_enter Tryz.func71, Tryz.ntmps71
  go_wp2_with fail
  refine h.mono ?_
  rintro e w' ⟨r, hr, rfl, hb⟩
  have HB := Lib.hid hb
  clear h hb
  rcases hr with ⟨rfl, hh⟩ | ⟨h0, j, hj, hb⟩
  · have HG := Lib.hid (all_ok (f := (fun x => inB x 0 1000)) (d := 0) (l := xs) hh)
    clear hh
    go_wp2
    go_ret
    exact ⟨by rw [HG.out]; rfl, HB.out⟩
  · have HG := Lib.hid (all_bad (f := (fun x => inB x 0 1000)) (d := 0) (l := xs) hj hb)
    clear hb
    go_wp2
    go_ret
    exact ⟨by rw [HG.out]; simp, HB.out⟩

set_option maxHeartbeats 400000 in
set_option maxRecDepth 100000 in
theorem ix_read (p : Option Addr) (cap : Nat) (xs : List Rd) (pb nb : Nat) (pv : Option Addr) (cv kk nn : Nat) (w : World) (hx : RdR w p xs) (hl : xs.length ≤ 1000000) (hk : w.cell? ⟨pb, 1, none⟩ = some (.slice pv kk cv)) (hm : w.cell? ⟨nb, 0, none⟩ = some (.int .i64 (nn : Int))) :
    Calls Tryz.prog 125 #[.slice p xs.length cap, .func (.func 92) #[] #[.pointer (some ⟨pb, 0, none⟩), .pointer (some ⟨nb, 0, none⟩)]] w (BadPost xs.length (fun j => (readB nn kk) (gr xs j)) w) := by
  have HX := Lib.hid hx
  have HK := Lib.hid hk
  have HM := Lib.hid hm
  clear hx hk hm
  go_enter Tryz.func125, Tryz.ntmps125
  go_wp2
  go_loopw [8] (fun i wr => ∃ k : Nat, k ≤ xs.length ∧ i = .int .i64 k ∧ Hid (∀ j, j < k → (readB nn kk) (gr xs j) = true) ∧ Below w.heap.size w wr) (fun i _ => xs.length - (intOf i).toNat)
  case atStart => exact ⟨0, by omega, rfl, Lib.hid (by intro j hj; omega), Below.refl _ _⟩
  case round =>
    obtain ⟨k, hk, rfl, HH, hnx⟩ := hrel
    have HN := Lib.hid hnx
    by_cases hlt : k < xs.length
    · obtain ⟨b, off, rfl, hc⟩ := (HX.out.below hnx).at hlt
      obtain ⟨e1, e2, e3, e4⟩ := hc k hlt
      have hcl : Calls Tryz.prog 92 #[.agg #[.int .i64 (gr xs k).aft, .int .i64 (gr xs k).arb, .int .i64 (gr xs k).seen, .int .i64 (gr xs k).off], .pointer (some ⟨pb, 0, none⟩), .pointer (some ⟨nb, 0, none⟩)] wr fun e w' => e = .returned (.bool (!(readB nn kk) (gr xs k))) ∧ Below wr.heap.size wr w' := c_readNot pb nb pv cv kk nn (gr xs k).aft (gr xs k).arb (gr xs k).seen (gr xs k).off wr ((hnx.cell (lt_of_cellq HK.out)).trans HK.out) ((hnx.cell (lt_of_cellq HM.out)).trans HM.out)
      clear hc hnx
      rcases hb : (readB nn kk) (gr xs k) with _ | _
      · have HB := Lib.hid hb
        rw [hb] at hcl
        clear hb
        go_wp2_with fail
        refine hcl.mono ?_
        rintro e w4 ⟨rfl, b4⟩
        have HN2 := Lib.hid (HN.out.trans (b4.mono HN.out.size))
        clear hcl b4
        go_wp2
        go_ret
        exact ⟨k, .inr ⟨by omega, k, hlt, HB.out⟩, rfl, HN2.out⟩
      · have HB := Lib.hid hb
        rw [hb] at hcl
        clear hb
        go_wp2_with fail
        refine hcl.mono ?_
        rintro e w4 ⟨rfl, b4⟩
        have HN2 := Lib.hid (HN.out.trans (b4.mono HN.out.size))
        clear hcl b4
        go_wp2
        go_roundw
        case rel =>
          refine ⟨k + 1, by omega, by go_num, Lib.hid fun j hj => ?_, HN2.out⟩
          rcases Nat.lt_or_ge j k with h | h
          · exact HH.out j h
          · obtain rfl : j = k := by omega
            exact HB.out
        case measure => simp [intOf]; omega
    · obtain rfl : k = xs.length := by omega
      go_wp2
      go_ret
      exact ⟨-1, .inl ⟨rfl, HH.out⟩, rfl, HN.out⟩
theorem cf_read (p : Option Addr) (cap : Nat) (xs : List Rd) (pb nb : Nat) (pv : Option Addr) (cv kk nn : Nat) (w : World) (hx : RdR w p xs) (hl : xs.length ≤ 1000000) (hk : w.cell? ⟨pb, 1, none⟩ = some (.slice pv kk cv)) (hm : w.cell? ⟨nb, 0, none⟩ = some (.int .i64 (nn : Int))) :
    Calls Tryz.prog 91 #[.slice p xs.length cap, .func (.func 92) #[] #[.pointer (some ⟨pb, 0, none⟩), .pointer (some ⟨nb, 0, none⟩)]] w fun e w' => e = .returned (.bool (!xs.all (readB nn kk))) ∧ Below w.heap.size w w' := by
  have h := ix_read p cap xs pb nb pv cv kk nn w hx hl hk hm
  clear hx hk hm
  go_enter Tryz.func91, Tryz.ntmps91
  go_wp2_with fail
  refine h.mono ?_
  rintro e w' ⟨r, hr, rfl, hb⟩
  have HB := Lib.hid hb
  clear h hb
  rcases hr with ⟨rfl, hh⟩ | ⟨h0, j, hj, hb⟩
  · have HG := Lib.hid (all_ok (f := (readB nn kk)) (d := rd0) (l := xs) hh)
    clear hh
    go_wp2
    go_ret
    exact ⟨by rw [HG.out]; rfl, HB.out⟩
  · have HG := Lib.hid (all_bad (f := (readB nn kk)) (d := rd0) (l := xs) hj hb)
    clear hb
    go_wp2
    go_ret
    exact ⟨by rw [HG.out]; simp, HB.out⟩

set_option maxHeartbeats 400000 in
set_option maxRecDepth 100000 in
theorem ix_err (p : Option Addr) (cap : Nat) (xs : List (Int × Int)) (w : World) (hx : RdS w p xs) (hl : xs.length ≤ 1000000) :
    Calls Tryz.prog 130 #[.slice p xs.length cap, .func (.func 100) #[] #[]] w (BadPost xs.length (fun j => errB (gm xs j)) w) := by
  have HX := Lib.hid hx
  clear hx 
  go_enter Tryz.func130, Tryz.ntmps130
  go_wp2
  go_loopw [8] (fun i wr => ∃ k : Nat, k ≤ xs.length ∧ i = .int .i64 k ∧ Hid (∀ j, j < k → errB (gm xs j) = true) ∧ Below w.heap.size w wr) (fun i _ => xs.length - (intOf i).toNat)
  case atStart => exact ⟨0, by omega, rfl, Lib.hid (by intro j hj; omega), Below.refl _ _⟩
  case round =>
    obtain ⟨k, hk, rfl, HH, hnx⟩ := hrel
    have HN := Lib.hid hnx
    by_cases hlt : k < xs.length
    · obtain ⟨b, off, rfl, hc⟩ := (HX.out.below hnx).at hlt
      obtain ⟨e1, e2⟩ := hc k hlt
      have hcl : Calls Tryz.prog 100 #[.agg #[.int .i64 (gm xs k).1, .int .i64 (gm xs k).2]] wr fun e w' => e = .returned (.bool (!errB (gm xs k))) ∧ Below wr.heap.size wr w' := c_errNot (gm xs k).1 (gm xs k).2 wr
      clear hc hnx
      rcases hb : errB (gm xs k) with _ | _
      · have HB := Lib.hid hb
        rw [hb] at hcl
        clear hb
        go_wp2_with fail
        refine hcl.mono ?_
        rintro e w4 ⟨rfl, b4⟩
        have HN2 := Lib.hid (HN.out.trans (b4.mono HN.out.size))
        clear hcl b4
        go_wp2
        go_ret
        exact ⟨k, .inr ⟨by omega, k, hlt, HB.out⟩, rfl, HN2.out⟩
      · have HB := Lib.hid hb
        rw [hb] at hcl
        clear hb
        go_wp2_with fail
        refine hcl.mono ?_
        rintro e w4 ⟨rfl, b4⟩
        have HN2 := Lib.hid (HN.out.trans (b4.mono HN.out.size))
        clear hcl b4
        go_wp2
        go_roundw
        case rel =>
          refine ⟨k + 1, by omega, by go_num, Lib.hid fun j hj => ?_, HN2.out⟩
          rcases Nat.lt_or_ge j k with h | h
          · exact HH.out j h
          · obtain rfl : j = k := by omega
            exact HB.out
        case measure => simp [intOf]; omega
    · obtain rfl : k = xs.length := by omega
      go_wp2
      go_ret
      exact ⟨-1, .inl ⟨rfl, HH.out⟩, rfl, HN.out⟩
theorem cf_err (p : Option Addr) (cap : Nat) (xs : List (Int × Int)) (w : World) (hx : RdS w p xs) (hl : xs.length ≤ 1000000) :
    Calls Tryz.prog 99 #[.slice p xs.length cap, .func (.func 100) #[] #[]] w fun e w' => e = .returned (.bool (!xs.all errB)) ∧ Below w.heap.size w w' := by
  have h := ix_err p cap xs w hx hl 
  clear hx 
  go_enter Tryz.func99, Tryz.ntmps99
  go_wp2_with fail
  refine h.mono ?_
  rintro e w' ⟨r, hr, rfl, hb⟩
  have HB := Lib.hid hb
  clear h hb
  rcases hr with ⟨rfl, hh⟩ | ⟨h0, j, hj, hb⟩
  · have HG := Lib.hid (all_ok (f := errB) (d := (0, 0)) (l := xs) hh)
    clear hh
    go_wp2
    go_ret
    exact ⟨by rw [HG.out]; rfl, HB.out⟩
  · have HG := Lib.hid (all_bad (f := errB) (d := (0, 0)) (l := xs) hj hb)
    clear hb
    go_wp2
    go_ret
    exact ⟨by rw [HG.out]; simp, HB.out⟩
end Go.Proofs.YtbknfddaoolagaaGreatDoor
end

section
namespace Go.Proofs.YtbknfddaoolagaaGreatDoor
open Go Go.RowKit Go.Proofs
set_option linter.unusedVariables false
attribute [local go_sem] imax2 imin2

structure LenOk (p : Pc) : Prop where
  ms : p.ms.length ≤ 1000000
  mv : p.mv.length ≤ 1000000
  rs : p.rs.length ≤ 1000000
theorem pieceB_parts (p : Pc) : pieceB p = (inB (p.ms.length : Int) 1 4 && decide ((p.mv.length : Int) ≤ 8) && decide ((p.rs.length : Int) ≤ 6) && p.ms.all meshB && p.mv.all (fun x => inB x (-300) 300) && p.rs.all (readB p.ms.length p.mv.length)) := by
  have e : sizesB p = (inB (p.ms.length : Int) 1 4 && decide ((p.mv.length : Int) ≤ 8) && decide ((p.rs.length : Int) ≤ 6)) := by
    unfold sizesB inB; rw [Bool.eq_iff_iff]; simp only [Bool.and_eq_true, decide_eq_true_eq]; omega
  unfold pieceB; rw [e]

set_option maxHeartbeats 800000 in
set_option maxRecDepth 100000 in
theorem c_isPiece (pm pv pr : Option Addr) (cm cv cr : Nat) (p : Pc) (w : World) (hp : RdP w pm pv pr p) (hl : LenOk p) :
    Calls Tryz.prog 41 #[.agg #[.slice pm p.ms.length cm, .slice pv p.mv.length cv, .slice pr p.rs.length cr]] w fun e w' => e = .returned (.bool (pieceB p)) ∧ Below w.heap.size w w' := by
  obtain ⟨hl1, hl2, hl3⟩ := hl; obtain ⟨w0, e0, HS0, k0, k1, k2, b0⟩ := box3 w (.slice pm p.ms.length cm) (.slice pv p.mv.length cv) (.slice pr p.rs.length cr) 27; obtain ⟨w1, e1, HS1, n0, _, b1⟩ := box1 w0 (.int .i64 p.ms.length) 3; have HP := Lib.hid ((hp.below b0).below b1); have HB := Lib.hid (b0.trans (b1.mono b0.size)); have k0 := (b1.cell (lt_of_cellq k0)).trans k0; have k1 := (b1.cell (lt_of_cellq k1)).trans k1; have k2 := (b1.cell (lt_of_cellq k2)).trans k2; have HQ := Lib.hid (pieceB_parts p); clear b0 b1 hp
  rcases h1 : inB (p.ms.length : Int) 1 4 with _ | _
  · have H := Lib.hid (show pieceB p = false by rw [HQ.out]; simp [h1])
    go_enter Tryz.func41, Tryz.ntmps41
    go_wp2_with fail; refine (c_in _ _ _ _).mono ?_; rw [h1]; rintro e wn ⟨rfl, rfl⟩; clear e0 e1; go_wp2; go_ret; exact ⟨by rw [H.out]; rfl, HB.out⟩
  by_cases h2 : (p.mv.length : Int) ≤ 8
  case neg =>
    have H := Lib.hid (show pieceB p = false by rw [HQ.out]; simp [h1, h2])
    go_enter Tryz.func41, Tryz.ntmps41
    go_wp2_with fail; refine (c_in _ _ _ _).mono ?_; rw [h1]; rintro e wn ⟨rfl, rfl⟩; clear e0 e1; go_wp2; go_ret; exact ⟨by rw [H.out]; rfl, HB.out⟩
  by_cases h3 : (p.rs.length : Int) ≤ 6
  case neg =>
    have H := Lib.hid (show pieceB p = false by rw [HQ.out]; simp [h1, h2, h3])
    go_enter Tryz.func41, Tryz.ntmps41
    go_wp2_with fail; refine (c_in _ _ _ _).mono ?_; rw [h1]; rintro e wn ⟨rfl, rfl⟩; clear e0 e1; go_wp2; go_ret; exact ⟨by rw [H.out]; rfl, HB.out⟩
  rcases h4 : p.ms.all meshB with _ | _
  · have H := Lib.hid (show pieceB p = false by rw [HQ.out]; simp [h1, h2, h3, h4])
    go_enter Tryz.func41, Tryz.ntmps41
    go_wp2_with fail; refine (c_in _ _ _ _).mono ?_; rw [h1]; rintro e wn ⟨rfl, rfl⟩; clear e0 e1; go_wp2_with fail; refine (cf_mesh pm cm p.ms _ HP.out.ms hl1).mono ?_; rw [h4]; rintro e wn ⟨rfl, bq⟩; replace HB := Lib.hid (HB.out.trans (bq.mono HB.out.size)); replace HP := Lib.hid (HP.out.below bq); have k0 := (bq.cell (lt_of_cellq k0)).trans k0; have k1 := (bq.cell (lt_of_cellq k1)).trans k1; have k2 := (bq.cell (lt_of_cellq k2)).trans k2; have n0 := (bq.cell (lt_of_cellq n0)).trans n0; clear bq; go_wp2; go_ret; exact ⟨by rw [H.out]; rfl, HB.out⟩
  rcases h5 : p.mv.all (fun x => inB x (-300) 300) with _ | _
  · have H := Lib.hid (show pieceB p = false by rw [HQ.out]; simp [h1, h2, h3, h4, h5])
    go_enter Tryz.func41, Tryz.ntmps41
    go_wp2_with fail; refine (c_in _ _ _ _).mono ?_; rw [h1]; rintro e wn ⟨rfl, rfl⟩; clear e0 e1; go_wp2_with fail; refine (cf_mesh pm cm p.ms _ HP.out.ms hl1).mono ?_; rw [h4]; rintro e wn ⟨rfl, bq⟩; replace HB := Lib.hid (HB.out.trans (bq.mono HB.out.size)); replace HP := Lib.hid (HP.out.below bq); have k0 := (bq.cell (lt_of_cellq k0)).trans k0; have k1 := (bq.cell (lt_of_cellq k1)).trans k1; have k2 := (bq.cell (lt_of_cellq k2)).trans k2; have n0 := (bq.cell (lt_of_cellq n0)).trans n0; clear bq; go_wp2_with fail; refine (cf_move pv cv p.mv _ HP.out.mv hl2).mono ?_; rw [h5]; rintro e wn ⟨rfl, bq⟩; replace HB := Lib.hid (HB.out.trans (bq.mono HB.out.size)); replace HP := Lib.hid (HP.out.below bq); have k0 := (bq.cell (lt_of_cellq k0)).trans k0; have k1 := (bq.cell (lt_of_cellq k1)).trans k1; have k2 := (bq.cell (lt_of_cellq k2)).trans k2; have n0 := (bq.cell (lt_of_cellq n0)).trans n0; clear bq
    go_wp2; go_ret; exact ⟨by rw [H.out]; rfl, HB.out⟩
  · have H := Lib.hid (show pieceB p = (p.rs.all (readB p.ms.length p.mv.length)) by rw [HQ.out]; simp [h1, h2, h3, h4, h5])
    go_enter Tryz.func41, Tryz.ntmps41
    go_wp2_with fail; refine (c_in _ _ _ _).mono ?_; rw [h1]; rintro e wn ⟨rfl, rfl⟩; clear e0 e1; go_wp2_with fail; refine (cf_mesh pm cm p.ms _ HP.out.ms hl1).mono ?_; rw [h4]; rintro e wn ⟨rfl, bq⟩; replace HB := Lib.hid (HB.out.trans (bq.mono HB.out.size)); replace HP := Lib.hid (HP.out.below bq); have k0 := (bq.cell (lt_of_cellq k0)).trans k0; have k1 := (bq.cell (lt_of_cellq k1)).trans k1; have k2 := (bq.cell (lt_of_cellq k2)).trans k2; have n0 := (bq.cell (lt_of_cellq n0)).trans n0; clear bq; go_wp2_with fail; refine (cf_move pv cv p.mv _ HP.out.mv hl2).mono ?_; rw [h5]; rintro e wn ⟨rfl, bq⟩; replace HB := Lib.hid (HB.out.trans (bq.mono HB.out.size)); replace HP := Lib.hid (HP.out.below bq); have k0 := (bq.cell (lt_of_cellq k0)).trans k0; have k1 := (bq.cell (lt_of_cellq k1)).trans k1; have k2 := (bq.cell (lt_of_cellq k2)).trans k2; have n0 := (bq.cell (lt_of_cellq n0)).trans n0; clear bq
    go_wp2_with fail; refine (cf_read pr cr p.rs _ _ pv cv p.mv.length p.ms.length _ HP.out.rs hl3 k1 n0).mono ?_; rintro e wn ⟨rfl, bq⟩; replace HB := Lib.hid (HB.out.trans (bq.mono HB.out.size)); replace HP := Lib.hid (HP.out.below bq); have k0 := (bq.cell (lt_of_cellq k0)).trans k0; have k1 := (bq.cell (lt_of_cellq k1)).trans k1; have k2 := (bq.cell (lt_of_cellq k2)).trans k2; have n0 := (bq.cell (lt_of_cellq n0)).trans n0; clear bq; go_wp2; go_ret; exact ⟨by rw [H.out]; simp, HB.out⟩


theorem c_arePlays (pm pv pr : Option Addr) (cm cv cr : Nat) (p : Pc) (q : Option Addr) (cq : Nat) (l : List Int) (w : World) (hq : RdI w q l) (hl : l.length ≤ 1000000) :
    Calls Tryz.prog 59 #[.agg #[.slice pm p.ms.length cm, .slice pv p.mv.length cv, .slice pr p.rs.length cr], .slice q l.length cq] w fun e w' => e = .returned (.bool (playsB p l)) ∧ Below w.heap.size w w' := by
  obtain ⟨w0, e0, HS0, k0, k1, k2, b0⟩ := box3 w (.slice pm p.ms.length cm) (.slice pv p.mv.length cv) (.slice pr p.rs.length cr) 27; have HP := Lib.hid (hq.below b0); have HB := Lib.hid b0; clear b0 hq
  by_cases h1 : l.length = p.ms.length
  · have h1' : ((l.length : Int) == (p.ms.length : Int)) = true := by simp [h1]
    have H := Lib.hid (show playsB p l = l.all (fun n => inB n 0 100) by unfold playsB; rw [decide_eq_true h1]; rfl); clear h1
    go_enter Tryz.func59, Tryz.ntmps59
    go_wp2_with fail; refine (cf_play q cq l _ HP.out hl).mono ?_; rintro e wn ⟨rfl, bq⟩; replace HB := Lib.hid (HB.out.trans (bq.mono HB.out.size)); clear bq e0; go_wp2; go_ret; exact ⟨by rw [H.out]; simp, HB.out⟩
  · have h1' : ((l.length : Int) == (p.ms.length : Int)) = false := by simp; omega
    have H := Lib.hid (show playsB p l = false by unfold playsB; rw [decide_eq_false h1]; rfl); clear h1
    go_enter Tryz.func59, Tryz.ntmps59
    go_wp2; go_ret; exact ⟨by rw [H.out]; rfl, HB.out⟩

theorem c_meshed1 (x lo hi : Int) (w : World) :
    Calls Tryz.prog 108 #[.int .i64 x, .agg #[.int .i64 lo, .int .i64 hi]] w fun e w' => e = .returned (.bool (inB x lo hi)) ∧ Below w.heap.size w w' := by
  obtain ⟨w0, e0, HS0, k0, k1, b0⟩ := box2 w (.int .i64 lo) (.int .i64 hi) 78; have HB := Lib.hid b0; have h := c_within x lo hi w0; clear b0
  go_enter Tryz.func108, Tryz.ntmps108
  go_wp2_with fail; refine h.mono ?_; rintro e wn ⟨rfl, bq⟩; replace HB := Lib.hid (HB.out.trans (bq.mono HB.out.size)); clear bq e0; go_wp2; go_ret; exact ⟨rfl, HB.out⟩
theorem withinB_bad {p : Pc} {l : List Int} {j : Nat} (hj : j < l.length) (h : inB (gi l j) (gm p.ms j).1 (gm p.ms j).2 = false) : withinB p l = false := by
  cases hh : withinB p l with
  | false => rfl
  | true =>
    have := (withinB_iff.1 hh) j hj; rw [inB_iff.2 this] at h; cases h
set_option maxHeartbeats 400000 in
set_option maxRecDepth 100000 in
theorem c_equalF (pm : Option Addr) (cm : Nat) (p : Pc) (q : Option Addr) (cq : Nat) (l : List Int) (w : World) (hp : RdS w pm p.ms) (hq : RdI w q l) (he : l.length = p.ms.length) (hl : l.length ≤ 1000000) :
    Calls Tryz.prog 107 #[.slice q l.length cq, .slice pm p.ms.length cm, .func (.func 108) #[] #[]] w fun e w' => e = .returned (.bool (withinB p l)) ∧ Below w.heap.size w w' := by
  have HP := Lib.hid hp; have HQ := Lib.hid hq; have HE := Lib.hid he; have he' : ((l.length : Int) != (p.ms.length : Int)) = false := by simp [he]
  clear hp hq he
  go_enter Tryz.func107, Tryz.ntmps107
  go_wp2
  go_loopw [17] (fun i wr => ∃ k : Nat, k ≤ l.length ∧ i = .int .i64 k ∧ Hid (∀ j, j < k → inB (gi l j) (gm p.ms j).1 (gm p.ms j).2 = true) ∧ Below w.heap.size w wr) (fun i _ => l.length - (intOf i).toNat)
  case atStart => exact ⟨0, by omega, rfl, Lib.hid (by intro j hj; omega), Below.refl _ _⟩
  case round =>
    obtain ⟨k, hk, rfl, HH, hnx⟩ := hrel; have HN := Lib.hid hnx
    by_cases hlt : k < l.length
    · obtain ⟨b, off, rfl, hc⟩ := (HQ.out.below hnx).at hlt
      have hlt2 : k < p.ms.length := by rw [← HE.out]; exact hlt
      obtain ⟨b2, off2, rfl, hc2⟩ := (HP.out.below hnx).at hlt2; have e1 := hc k hlt; obtain ⟨f1, f2⟩ := hc2 k hlt2; obtain ⟨w4, e4, HS4, m0, m1, b4⟩ := box2 wr (.int .i64 (gm p.ms k).1) (.int .i64 (gm p.ms k).2) 78; have hcl := c_meshed1 (gi l k) (gm p.ms k).1 (gm p.ms k).2 w4; have HN4 := Lib.hid (HN.out.trans (b4.mono HN.out.size)); clear hc hc2 hnx b4
      rcases hb : inB (gi l k) (gm p.ms k).1 (gm p.ms k).2 with _ | _
      · have HB := Lib.hid (withinB_bad hlt hb)
        rw [hb] at hcl; clear hb; go_wp2_with fail; refine hcl.mono ?_; rintro e w5 ⟨rfl, b5⟩; have HN2 := Lib.hid (HN4.out.trans (b5.mono HN4.out.size)); clear hcl b5 e4; go_wp2; go_ret; exact ⟨by rw [HB.out]; rfl, HN2.out⟩
      · have HB := Lib.hid hb
        rw [hb] at hcl; clear hb; go_wp2_with fail; refine hcl.mono ?_; rintro e w5 ⟨rfl, b5⟩; have HN2 := Lib.hid (HN4.out.trans (b5.mono HN4.out.size)); clear hcl b5 e4; go_wp2; go_roundw
        case rel =>
          refine ⟨k + 1, by omega, by go_num, Lib.hid fun j hj => ?_, HN2.out⟩
          rcases Nat.lt_or_ge j k with h | h
          · exact HH.out j h
          · obtain rfl : j = k := by omega
            exact HB.out
        case measure => simp [intOf]; omega
    · obtain rfl : k = l.length := by omega
      have HB := Lib.hid (show withinB p l = true from withinB_iff.2 fun i hi => inB_iff.1 (HH.out i hi)); go_wp2; go_ret; exact ⟨by rw [HB.out]; rfl, HN.out⟩
theorem c_meshed (pm pv pr : Option Addr) (cm cv cr : Nat) (p : Pc) (q : Option Addr) (cq : Nat) (l : List Int) (w : World) (hp : RdS w pm p.ms) (hq : RdI w q l) (he : l.length = p.ms.length) (hl : l.length ≤ 1000000) :
    Calls Tryz.prog 60 #[.agg #[.slice pm p.ms.length cm, .slice pv p.mv.length cv, .slice pr p.rs.length cr], .slice q l.length cq] w fun e w' => e = .returned (.bool (withinB p l)) ∧ Below w.heap.size w w' := by
  obtain ⟨w0, e0, HS0, k0, k1, k2, b0⟩ := box3 w (.slice pm p.ms.length cm) (.slice pv p.mv.length cv) (.slice pr p.rs.length cr) 27; have h := c_equalF pm cm p q cq l w0 (hp.below b0) (hq.below b0) he hl; have HB := Lib.hid b0; clear b0 hp hq he
  go_enter Tryz.func60, Tryz.ntmps60
  go_wp2_with fail; refine h.mono ?_; rintro e wn ⟨rfl, bq⟩; replace HB := Lib.hid (HB.out.trans (bq.mono HB.out.size)); clear bq e0; go_wp2; go_ret; exact ⟨rfl, HB.out⟩
end Go.Proofs.YtbknfddaoolagaaGreatDoor
end
