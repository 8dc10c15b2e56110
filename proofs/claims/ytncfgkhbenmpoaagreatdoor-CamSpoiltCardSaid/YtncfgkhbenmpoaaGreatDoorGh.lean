/-
  A book of cams: how it lies, and whether it is one.
  A row of the book: its word, its numbers.
  The text of a book: its rows, its sum, plain.
  The text of a book: the walk.
  The chapter's examples, in plain words: what each of them comes to.
  The examples' rules, want and motion; Print; short lists.
  The chapter's examples come true.
-/
import Derived.Test.YtncfgkhbenmpoaaGreatDoorGg
import Derived.Test.YtncfgkhbenmpoaaGreatDoorGa
section
namespace Go.Proofs.YtncfgkhbenmpoaaGreatDoor
open Go Go.RowKit Go.Proofs Go.Shelf
set_option linter.unusedVariables false

def gl (css : List (List Int)) (i : Nat) : List Int := css.getD i []
/-- a slice of slices of numbers reads so -/
def RdC (w : World) (p : Option Addr) (css : List (List Int)) : Prop :=
  css.length = 0 ∨ ∃ b off, p = some ⟨b, off, none⟩ ∧ ∀ i, i < css.length → ∃ a c, w.cell? ⟨b, off + i, none⟩ = some (.slice a (gl css i).length c) ∧ RdI w a (gl css i)
theorem RdC.at {w : World} {p : Option Addr} {css : List (List Int)} (h : RdC w p css) {i : Nat} (hi : i < css.length) :
    ∃ b off, p = some ⟨b, off, none⟩ ∧ ∀ i, i < css.length → ∃ a c, w.cell? ⟨b, off + i, none⟩ = some (.slice a (gl css i).length c) ∧ RdI w a (gl css i) := by
  rcases h with h | h
  · omega
  · exact h
theorem RdC.below {w w' : World} {p : Option Addr} {css : List (List Int)} (h : RdC w p css) (hb : Below w.heap.size w w') : RdC w' p css := by
  rcases h with h | ⟨b, off, rfl, hc⟩
  · exact .inl h
  · refine .inr ⟨b, off, rfl, fun i hi => ?_⟩
    obtain ⟨a, c, h1, h2⟩ := hc i hi
    exact ⟨a, c, (hb.cell (lt_of_cellq h1)).trans h1, h2.below hb⟩
/-- every slice of numbers is short enough to be walked -/
def LenC (css : List (List Int)) : Prop := css.length ≤ 17592186044416 ∧ ∀ i, i < css.length → (gl css i).length ≤ 17592186044416
def camsB (css : List (List Int)) : Bool := css.all camB && decide (css.length ≤ 4)
def CamsTo (css : List (List Int)) (k : Nat) : Prop := ∀ i, i < k → camB (gl css i) = true
theorem camsTo_all (css : List (List Int)) : CamsTo css css.length ↔ css.all camB = true := by
  rw [List.all_eq_true]
  constructor
  · intro h x hx
    obtain ⟨i, hi, rfl⟩ := List.mem_iff_getElem.1 hx
    have := h i hi
    unfold gl at this
    rwa [List.getD_eq_getElem?_getD, List.getElem?_eq_getElem hi] at this
  · intro h i hi
    apply h
    unfold gl
    rw [List.getD_eq_getElem?_getD, List.getElem?_eq_getElem hi]
    exact List.getElem_mem _
theorem camsB_bad {css : List (List Int)} {k : Nat} (hk : k < css.length) (h : camB (gl css k) = false) : camsB css = false := by
  cases hb : css.all camB with
  | false => unfold camsB; rw [hb]; rfl
  | true => have := (camsTo_all css).2 hb k hk; rw [h] at this; cases this
theorem camsB_all {css : List (List Int)} (h : CamsTo css css.length) : camsB css = decide (css.length ≤ 4) := by
  unfold camsB; rw [(camsTo_all css).1 h]; rfl

set_option maxRecDepth 100000 in
theorem c118 (p : Option Addr) (cap : Nat) (css : List (List Int)) (w : World) (hx : RdC w p css) (hl : LenC css) :
    Calls Tryz.prog 118 #[.slice p css.length cap] w fun e w' => e = .returned (.bool (camsB css)) ∧ w = w' := by
  have HL := Lib.hid hl
  have HX := Lib.hid hx
  have hl1 := hl.1
  clear hl hx
  go_enter Tryz.func118, Tryz.ntmps118
  go_wp2
  go_loop [7] (fun i => ∃ k : Nat, k ≤ css.length ∧ i = .int .i64 k ∧ Hid (CamsTo css k)) (fun i => css.length - (intOf i).toNat)
  case atStart => exact ⟨0, Nat.zero_le _, rfl, Lib.hid (fun i h => by omega)⟩
  case round =>
    obtain ⟨k, hk, rfl, HC⟩ := hrel
    by_cases hlt : k < css.length
    · obtain ⟨b, off, rfl, hcc⟩ := HX.out.at hlt
      obtain ⟨a, c, e1, hr⟩ := hcc k hlt
      have h83 := c83 a c (gl css k) w hr (HL.out.2 k hlt)
      have hltI : decide ((k : Int) < (css.length : Int)) = true := by simp; omega
      clear hcc hr
      cases hc : camB (gl css k) with
      | false =>
        rw [hc] at h83
        have HB := Lib.hid (camsB_bad hlt hc)
        go_wp2_with fail
        refine h83.mono ?_
        rintro e w' ⟨rfl, rfl⟩
        go_wp2
        go_ret
        exact ⟨by rw [HB.out]; rfl, rfl⟩
      | true =>
        rw [hc] at h83
        go_wp2_with fail
        refine h83.mono ?_
        rintro e w' ⟨rfl, rfl⟩
        go_wp2
        go_round
        case rel => exact ⟨k + 1, by omega, by go_num, Lib.hid fun i hi => by
          rcases Nat.lt_or_ge i k with h | h
          · exact HC.out i h
          · obtain rfl : i = k := by omega
            exact hc⟩
        case measure => simp [intOf]; omega
    · obtain rfl : k = css.length := by omega
      have HB := Lib.hid (camsB_all HC.out)
      go_wp2
      go_ret
      refine ⟨?_, rfl⟩
      rw [HB.out]
      show Ending.returned (Value.bool (decide ((css.length : Int) ≤ 4))) = _
      congr 2
      exact decide_eq_decide.2 (by omega)
end Go.Proofs.YtncfgkhbenmpoaaGreatDoor
end

section
namespace Go.Proofs.YtncfgkhbenmpoaaGreatDoor
open Go Go.RowKit Go.Proofs Go.Shelf
set_option linter.unusedVariables false

def rowT (word : ByteArray) (xs : List Int) (k : Nat) : ByteArray := (xs.take k).foldl (fun acc x => acc ++ (⟨#[32]⟩ ++ ⟨(Lib.decDigits x.toNat).toArray⟩)) word
theorem rowT_step (word : ByteArray) (xs : List Int) (k : Nat) (hk : k < xs.length) : rowT word xs (k + 1) = rowT word xs k ++ (⟨#[32]⟩ ++ ⟨(Lib.decDigits (gi xs k).toNat).toArray⟩) := by
  unfold rowT
  rw [List.take_succ_eq_append_getElem hk, List.foldl_append]
  unfold gi
  rw [List.getD_eq_getElem?_getD, List.getElem?_eq_getElem hk]; rfl
theorem dec_len : ∀ x, x < 100 → (Lib.decDigits x).length ≤ 2 := by decide +kernel
theorem dec_len3 : ∀ x, x < 1000 → (Lib.decDigits x).length ≤ 3 := by decide +kernel
def SmallN (N : Nat) (xs : List Int) : Prop := ∀ i, i < xs.length → 0 ≤ gi xs i ∧ gi xs i < N
/-- strconv.Itoa serves for all numbers below N, in whatever world comes behind this one -/
def ItoaR (N : Nat) (w : World) : Prop := ∀ w', Below w.heap.size w w' → ∀ i : Nat, i < N → Calls Tryz.prog 145 #[.int .i64 i] w' fun e w'' => e = .returned (.string ⟨(Lib.decDigits i).toArray⟩) ∧ Below w'.heap.size w' w''
theorem itoaR_small (w : World) : ItoaR 100 w := fun w' _ i hi => (Tryz.strconv_Itoa_small i hi w').mono fun e w'' ⟨h1, h2⟩ => ⟨h1, by subst h2; exact Below.refl _ _⟩
theorem ItoaR.below {N : Nat} {w w1 : World} (h : ItoaR N w) (hb : Below w.heap.size w w1) : ItoaR N w1 := fun w' hb' i hi => h w' (hb.trans (hb'.mono hb.size)) i hi
theorem rowT_size {N : Nat} (hN : N ≤ 1000) (word : ByteArray) (xs : List Int) (hs : SmallN N xs) : ∀ k, k ≤ xs.length → (rowT word xs k).size ≤ word.size + 4 * k := by
  intro k
  induction k with
  | zero => intro _; simp [rowT]
  | succ k ih =>
    intro hk
    have := ih (by omega)
    have h2 := dec_len3 (gi xs k).toNat (by have := hs k hk; omega)
    rw [rowT_step word xs k hk, ByteArray.size_append, ByteArray.size_append]
    have e1 : (⟨#[32]⟩ : ByteArray).size = 1 := rfl
    have e2 : (⟨(Lib.decDigits (gi xs k).toNat).toArray⟩ : ByteArray).size = (Lib.decDigits (gi xs k).toNat).length := rfl
    rw [e1, e2]; omega
def bookW : ByteArray := ⟨#[98, 111, 111, 107]⟩
def camW : ByteArray := ⟨#[99, 97, 109]⟩

theorem c157 (w : World) : Calls Tryz.prog 157 #[] w fun e w' => e = .returned (.agg #[.string bookW, .string camW]) ∧ Below w.heap.size w w' := by
  go_enter Tryz.func157, Tryz.ntmps157
  go_wp2
  refine bodyPost_ret (v := .agg #[.string bookW, .string camW]) ?_ rfl ⟨rfl, below_alloc1 _ _⟩
  have r0 : (w.alloc (.cells #[.string ⟨#[98, 111, 111, 107]⟩, .string ⟨#[99, 97, 109]⟩] 181)).cell? ⟨w.heap.size, 0, none⟩ = some (.string bookW) := by rw [at_new]; rfl
  have r1 : (w.alloc (.cells #[.string ⟨#[98, 111, 111, 107]⟩, .string ⟨#[99, 97, 109]⟩] 181)).cell? ⟨w.heap.size, 1, none⟩ = some (.string camW) := by rw [at_new]; rfl
  simp [results, Tryz.results157, go_sem, r0, r1]

set_option maxRecDepth 100000 in
theorem c212 (lo hi sl ch : Int) (w : World) : Calls Tryz.prog 212 #[.agg #[.int .i64 lo, .int .i64 hi, .int .i64 sl, .int .i64 ch]] w fun e w' =>
    ∃ p, e = .returned (.slice p 4 4) ∧ RdI w' p [lo, hi, sl, ch] ∧ Below w.heap.size w w' := by
  go_enter Tryz.func212, Tryz.ntmps212
  go_wp2
  refine bodyPost_ret (v := .slice (some ⟨w.heap.size + 1, 0, none⟩) 4 4) (by simp [results, Tryz.results212, go_sem]) rfl ?_
  have hb1 := below_alloc1 w (.cells #[.int .i64 lo, .int .i64 hi, .int .i64 sl, .int .i64 ch] 163)
  have hs : (w.alloc (.cells #[.int .i64 lo, .int .i64 hi, .int .i64 sl, .int .i64 ch] 163)).heap.size = w.heap.size + 1 := by simp
  generalize w.alloc (.cells #[.int .i64 lo, .int .i64 hi, .int .i64 sl, .int .i64 ch] 163) = w1 at *
  refine ⟨some ⟨w.heap.size + 1, 0, none⟩, rfl, .inr ⟨w.heap.size + 1, 0, rfl, fun i hi' => ?_⟩, hb1.trans ((below_alloc1 w1 _).mono hb1.size)⟩
  rw [← hs, Nat.zero_add, at_new]
  have hi4 : i < 4 := hi'
  match i, hi4 with
  | 0, _ => rfl
  | 1, _ => rfl
  | 2, _ => rfl
  | 3, _ => rfl

theorem c213 (p : Option Addr) (n c : Nat) (w : World) : Calls Tryz.prog 213 #[.slice p n c] w fun e w' => e = .returned (.slice p n c) ∧ w = w' := by
  go_enter Tryz.func213, Tryz.ntmps213
  go_wp2
  go_ret
  exact ⟨rfl, rfl⟩

theorem as163_164 (v : Value) (w : World) : (Instr.typeAssert (.iface 163 v) 180 164 true).run Tryz.prog w = .ok (.tuple #[.slice none 0 0, .bool false]) w := by kernel_rfl
theorem as164_164 (v : Value) (w : World) : (Instr.typeAssert (.iface 164 v) 180 164 true).run Tryz.prog w = .ok (.tuple #[v, .bool true]) w := by kernel_rfl

theorem ix181_0 (a b : Value) (w : World) : (Instr.index 181 (.agg #[a, b]) (.int .i64 0)).run Tryz.prog w = .ok a w := by kernel_rfl
theorem ix181_1 (a b : Value) (w : World) : (Instr.index 181 (.agg #[a, b]) (.int .i64 1)).run Tryz.prog w = .ok b w := by kernel_rfl

set_option maxRecDepth 100000 in
set_option maxHeartbeats 1000000 in
theorem c144_own {N : Nat} (hN : N ≤ 1000) (p : Option Addr) (cap : Nat) (xs : List Int) (w : World) (hx : RdI w p xs) (hl : xs.length ≤ 1000) (hs : SmallN N xs) (hI : ItoaR N w) :
    Calls Tryz.prog 144 #[.iface 164 (.slice p xs.length cap)] w fun e w' => e = .returned (.string (rowT camW xs xs.length)) ∧ Below w.heap.size w w' := by
  have ha := as164_164 (.slice p xs.length cap)
  have hix := ix181_1 (.string bookW) (.string camW)
  have h157 := c157 w
  have HX := Lib.hid hx
  have HS := Lib.hid hs
  have HI := Lib.hid hI
  have HN := Lib.hid hN
  clear hx hs hI hN
  go_enter Tryz.func144, Tryz.ntmps144
  go_wp2_with fail
  refine h157.mono ?_
  rintro e w1 ⟨rfl, hb1⟩
  have HBA := Lib.hid hb1
  clear hb1
  have h213 := c213 p xs.length cap w1
  go_wp2_with fail
  refine h213.mono ?_
  rintro e w' ⟨rfl, rfl⟩
  go_wp2
  go_loopw [4, 17] (fun s i wr => ∃ k : Nat, k ≤ xs.length ∧ i = .int .i64 k ∧ s = .string (rowT camW xs k) ∧ Hid (Below w1.heap.size w1 wr)) (fun _ i _ => xs.length - (intOf i).toNat)
  case atStart => exact ⟨0, Nat.zero_le _, rfl, rfl, Lib.hid (Below.refl _ _)⟩
  case round =>
    obtain ⟨k, hk, rfl, rfl, HB1⟩ := hrel
    by_cases hlt : k < xs.length
    · have hltI : decide ((k : Int) < (xs.length : Int)) = true := by simp; omega
      obtain ⟨b, off, rfl, hc⟩ := ((HX.out.below HBA.out).below HB1.out).at hlt
      have e1 := hc k hlt
      obtain ⟨x, hxe⟩ : ∃ x : Nat, gi xs k = x := ⟨(gi xs k).toNat, by have := HS.out k hlt; omega⟩
      have hx100 : x < N := by have := HS.out k hlt; omega
      have HST := Lib.hid (rowT_step camW xs k hlt)
      rw [hxe] at e1
      have HXE := Lib.hid hxe
      have h145 := HI.out.below HBA.out wr HB1.out x hx100
      clear hc hxe h157 h213 ha hix
      go_wp2_with fail
      refine h145.mono ?_
      rintro e w' ⟨rfl, hb⟩
      have HB2 := Lib.hid (HB1.out.trans (hb.mono HB1.out.size))
      clear hb
      have hd1 := dec_len3 x (by have := HN.out; omega)
      have hd2 : (rowT camW xs k).size ≤ 4 + 4 * k := Nat.le_trans (rowT_size HN.out camW xs HS.out k (by omega)) (by have : camW.size = 3 := rfl; omega)
      have hd3 : ¬ 9223372036854775807 < 1 + (Lib.decDigits x).length := by omega
      have hd4 : ¬ 9223372036854775807 < (rowT camW xs k).size + (1 + (Lib.decDigits x).length) := by omega
      go_wp2
      go_roundw
      case rel => exact ⟨k + 1, by omega, by go_num, by rw [HST.out, HXE.out]; rfl, HB2⟩
      case measure => simp [intOf]; omega
    · obtain rfl : k = xs.length := by omega
      have hltI : decide ((xs.length : Int) < (xs.length : Int)) = false := by simp
      go_wp2
      go_ret
      exact ⟨rfl, HBA.out.trans (HB1.out.mono HBA.out.size)⟩
set_option maxRecDepth 100000 in
set_option maxHeartbeats 1000000 in
theorem c144_head {N : Nat} (hN : N ≤ 1000) (lo hi sl ch : Int) (w : World) (hs : SmallN N [lo, hi, sl, ch]) (hI : ItoaR N w) :
    Calls Tryz.prog 144 #[.iface 163 (.agg #[.int .i64 lo, .int .i64 hi, .int .i64 sl, .int .i64 ch])] w fun e w' => e = .returned (.string (rowT bookW [lo, hi, sl, ch] 4)) ∧ Below w.heap.size w w' := by
  obtain ⟨xs, hxs⟩ : ∃ xs, [lo, hi, sl, ch] = xs := ⟨_, rfl⟩
  have hlx : xs.length = 4 := by rw [← hxs]; rfl
  rw [hxs] at hs ⊢
  have HLX := Lib.hid hlx
  have HXS := Lib.hid hxs
  clear hlx hxs
  have ha := as163_164 (.agg #[.int .i64 lo, .int .i64 hi, .int .i64 sl, .int .i64 ch])
  have hix := ix181_0 (.string bookW) (.string camW)
  have h157 := c157 w
  have HS := Lib.hid hs
  have HI := Lib.hid hI
  have HN := Lib.hid hN
  clear hs hI hN
  go_enter Tryz.func144, Tryz.ntmps144
  go_wp2_with fail
  refine h157.mono ?_
  rintro e w1 ⟨rfl, hb1⟩
  have h212 := c212 lo hi sl ch w1
  go_wp2_with fail
  refine h212.mono ?_
  rintro e w2 ⟨p, rfl, hrd, hb2⟩
  rw [HXS.out] at hrd
  have HX := Lib.hid hrd
  have HB := Lib.hid (hb1.trans (hb2.mono hb1.size))
  clear hrd hb1 hb2
  go_wp2
  go_loopw [4, 17] (fun s i wr => ∃ k : Nat, k ≤ 4 ∧ i = .int .i64 k ∧ s = .string (rowT bookW xs k) ∧ Hid (Below w2.heap.size w2 wr)) (fun _ i _ => 4 - (intOf i).toNat)
  case atStart => exact ⟨0, Nat.zero_le _, rfl, rfl, Lib.hid (Below.refl _ _)⟩
  case round =>
    obtain ⟨k, hk, rfl, rfl, HB1⟩ := hrel
    by_cases hlt : k < 4
    · have hltI : decide ((k : Int) < 4) = true := by simp; omega
      obtain ⟨b, off, rfl, hc⟩ := (HX.out.below HB1.out).at (i := k) (by have := HLX.out; omega)
      have e1 := hc k (by have := HLX.out; omega)
      obtain ⟨x, hxe⟩ : ∃ x : Nat, gi xs k = x := ⟨(gi xs k).toNat, by have := HS.out k (by have := HLX.out; omega); omega⟩
      have hx100 : x < N := by have := HS.out k (by have := HLX.out; omega); omega
      have HST := Lib.hid (rowT_step bookW xs k (by have := HLX.out; omega))
      rw [hxe] at e1
      have HXE := Lib.hid hxe
      have h145 := HI.out.below HB.out wr HB1.out x hx100
      clear hc hxe h157 h212 ha hix
      go_wp2_with fail
      refine h145.mono ?_
      rintro e w' ⟨rfl, hb⟩
      have HB2 := Lib.hid (HB1.out.trans (hb.mono HB1.out.size))
      clear hb
      have hd1 := dec_len3 x (by have := HN.out; omega)
      have hd2 : (rowT bookW xs k).size ≤ 4 + 4 * k := Nat.le_trans (rowT_size HN.out bookW xs HS.out k (by have := HLX.out; omega)) (by have : bookW.size = 4 := rfl; omega)
      have hd3 : ¬ 9223372036854775807 < 1 + (Lib.decDigits x).length := by omega
      have hd4 : ¬ 9223372036854775807 < (rowT bookW xs k).size + (1 + (Lib.decDigits x).length) := by omega
      go_wp2
      go_roundw
      case rel => exact ⟨k + 1, by omega, by go_num, by rw [HST.out, HXE.out]; rfl, HB2⟩
      case measure => simp [intOf]; omega
    · obtain rfl : k = 4 := by omega
      have hltI : decide ((4 : Int) < 4) = false := by simp
      go_wp2
      go_ret
      exact ⟨rfl, HB.out.trans (HB1.out.mono HB.out.size)⟩
end Go.Proofs.YtncfgkhbenmpoaaGreatDoor
end

section
namespace Go.Proofs.YtncfgkhbenmpoaaGreatDoor
open Go Go.RowKit Go.Proofs Go.Shelf
set_option linter.unusedVariables false

/-- the rows of a book, up to so many cams -/
def linesF (lo hi sl ch : Int) (css : List (List Int)) (k : Nat) : List ByteArray := rowT bookW [lo, hi, sl, ch] 4 :: (css.take k).map fun c => rowT camW c c.length
theorem linesF_length (lo hi sl ch : Int) (css : List (List Int)) (k : Nat) (hk : k ≤ css.length) : (linesF lo hi sl ch css k).length = k + 1 := by unfold linesF; simp; omega
theorem linesF_step (lo hi sl ch : Int) (css : List (List Int)) (k : Nat) (hk : k < css.length) : linesF lo hi sl ch css (k + 1) = linesF lo hi sl ch css k ++ [rowT camW (gl css k) (gl css k).length] := by
  unfold linesF
  rw [List.take_succ_eq_append_getElem hk, List.map_append]
  unfold gl
  rw [List.getD_eq_getElem?_getD, List.getElem?_eq_getElem hk]; rfl
def stV (ls : List ByteArray) : List Value := ls.map .string
theorem stV_append (a b : List ByteArray) : stV (a ++ b) = stV a ++ stV b := by simp [stV]
theorem stV_get (ls : List ByteArray) (i : Nat) (hi : i < ls.length) : (stV ls)[i]? = some (.string (ls.getD i ByteArray.empty)) := by unfold stV; simp [hi]
/-- a slice of strings reads so -/
def RdT (w : World) (p : Option Addr) (ls : List ByteArray) : Prop := ∃ b, p = some ⟨b, 0, none⟩ ∧ ∀ i, i < ls.length → w.cell? ⟨b, i, none⟩ = some (.string (ls.getD i ByteArray.empty))

/-- the sum of a row up to so many signs, and of the rows -/
def byteAt (l : ByteArray) (j : Nat) : Int := ((l.data.getD j 0).toNat : Int)
def rowSum (i : Nat) (l : ByteArray) : Nat → Int
  | 0 => 0
  | j + 1 => rowSum i l j + byteAt l j * ((j : Int) + 1) * ((i : Int) + 1)
def sumRows (ls : List ByteArray) : Nat → Int
  | 0 => 0
  | i + 1 => sumRows ls i + rowSum i (ls.getD i ByteArray.empty) (ls.getD i ByteArray.empty).size
theorem byteAt_range (l : ByteArray) (j : Nat) : 0 ≤ byteAt l j ∧ byteAt l j ≤ 255 := by
  unfold byteAt
  have : (l.data.getD j 0).toNat < 256 := (l.data.getD j 0).toNat_lt
  omega
theorem rowSum_range (i : Nat) (hi : i < 1000) (l : ByteArray) : ∀ j, j ≤ 2500 → 0 ≤ rowSum i l j ∧ rowSum i l j ≤ (j : Int) * 700000000 := by
  intro j
  induction j with
  | zero => intro _; simp [rowSum]
  | succ j ih =>
    intro hj
    have h1 := ih (by omega)
    have h2 := byteAt_range l j
    simp only [rowSum]
    have h3 : 0 ≤ byteAt l j * ((j : Int) + 1) := Int.mul_nonneg h2.1 (by omega)
    have h4 : byteAt l j * ((j : Int) + 1) ≤ 255 * 2501 := Int.mul_le_mul h2.2 (by omega) (by omega) (by omega)
    have h5 : 0 ≤ byteAt l j * ((j : Int) + 1) * ((i : Int) + 1) := Int.mul_nonneg h3 (by omega)
    have h6 : byteAt l j * ((j : Int) + 1) * ((i : Int) + 1) ≤ (255 * 2501) * 1001 := Int.mul_le_mul h4 (by omega) (by omega) (by omega)
    omega
theorem sumRows_range (ls : List ByteArray) (hs : ∀ i, i < ls.length → (ls.getD i ByteArray.empty).size ≤ 2500) (hl : ls.length ≤ 1000) : ∀ i, i ≤ ls.length → 0 ≤ sumRows ls i ∧ sumRows ls i ≤ (i : Int) * 1750000000000 := by
  intro i
  induction i with
  | zero => intro _; simp [sumRows]
  | succ i ih =>
    intro hi
    have h1 := ih (by omega)
    have h2 := hs i (by omega)
    have h3 := rowSum_range i (by omega) (ls.getD i ByteArray.empty) (ls.getD i ByteArray.empty).size h2
    simp only [sumRows]
    omega

def decA (n : Int) : ByteArray := ⟨(Lib.decDigits n.toNat).toArray⟩
def endF (s : Int) : ByteArray := ⟨#[101, 110, 100, 32]⟩ ++ decA (s % 137 / 100) ++ decA (s % 137 / 10 % 10) ++ decA (s % 137 % 10)
def allF (lo hi sl ch : Int) (css : List (List Int)) : List ByteArray := linesF lo hi sl ch css css.length ++ [endF (sumRows (linesF lo hi sl ch css css.length) (css.length + 1))]
def textF (lo hi sl ch : Int) (css : List (List Int)) : ByteArray := ⟨(Lib.join ((allF lo hi sl ch css).map (·.data.toList)) [10]).toArray⟩ ++ ⟨#[10]⟩

/-- the rows are short -/
def BookOk (N : Nat) (lo hi sl ch : Int) (css : List (List Int)) : Prop := SmallN N [lo, hi, sl, ch] ∧ css.length ≤ 500 ∧ ∀ i, i < css.length → SmallN N (gl css i) ∧ (gl css i).length ≤ 500
theorem cam_small {xs : List Int} (h : camB xs = true) : SmallN 100 xs ∧ xs.length ≤ 24 := by
  refine ⟨fun i hi => ?_, (camB_parts h).2.1⟩
  have := camB_at h hi
  omega
theorem rule_small {lo hi sl ch : Int} (h : ruleB lo hi sl ch = true) : SmallN 100 [lo, hi, sl, ch] := by
  unfold ruleB inB at h
  simp only [Bool.and_eq_true, decide_eq_true_eq] at h
  intro i hi'
  have hi4 : i < 4 := hi'
  match i, hi4 with
  | 0, _ => show 0 ≤ lo ∧ lo < (100 : Nat); omega
  | 1, _ => show 0 ≤ hi ∧ hi < (100 : Nat); omega
  | 2, _ => show 0 ≤ sl ∧ sl < (100 : Nat); omega
  | 3, _ => show 0 ≤ ch ∧ ch < (100 : Nat); omega
theorem camsB_parts {css : List (List Int)} (h : camsB css = true) : css.length ≤ 4 ∧ ∀ i, i < css.length → camB (gl css i) = true := by
  unfold camsB at h
  simp only [Bool.and_eq_true, decide_eq_true_eq] at h
  exact ⟨h.2, (camsTo_all css).2 h.1⟩
theorem bookOk_of {lo hi sl ch : Int} {css : List (List Int)} (hr : ruleB lo hi sl ch = true) (hc : camsB css = true) : BookOk 100 lo hi sl ch css := by
  have h := camsB_parts hc
  refine ⟨rule_small hr, by omega, fun i hi' => ?_⟩
  have := cam_small (h.2 i hi')
  exact ⟨this.1, by omega⟩
theorem lines_size {N : Nat} (hN : N ≤ 1000) {lo hi sl ch : Int} {css : List (List Int)} (hb : BookOk N lo hi sl ch css) (k : Nat) (hk : k ≤ css.length) : ∀ i, i < (linesF lo hi sl ch css k).length → ((linesF lo hi sl ch css k).getD i ByteArray.empty).size ≤ 2500 := by
  intro i hi'
  rw [linesF_length _ _ _ _ _ _ hk] at hi'
  cases i with
  | zero =>
    have := rowT_size hN bookW [lo, hi, sl, ch] hb.1 4 (by simp)
    have h4 : bookW.size = 4 := rfl
    show (rowT bookW [lo, hi, sl, ch] 4).size ≤ 2500
    omega
  | succ i =>
    have h1 := hb.2.2 i (by omega)
    have h2 := rowT_size hN camW (gl css i) h1.1 (gl css i).length (Nat.le_refl _)
    have h3 : camW.size = 3 := rfl
    have e : (linesF lo hi sl ch css k).getD (i + 1) ByteArray.empty = rowT camW (gl css i) (gl css i).length := by
      unfold linesF gl
      rw [List.getD_eq_getElem?_getD, List.getElem?_cons_succ, List.getElem?_map, List.getElem?_take, if_pos (by omega), List.getD_eq_getElem?_getD, List.getElem?_eq_getElem (by omega : i < css.length)]
      rfl
    rw [e]; have := h1.2; omega
/-- all rows joined: how long -/
theorem join_le (B : Nat) (sep : List UInt8) : ∀ xs : List (List UInt8), (∀ x ∈ xs, x.length ≤ B) → (Lib.join xs sep).length ≤ xs.length * (B + sep.length) := by
  intro xs h
  cases xs with
  | nil => simp [Lib.join_nil]
  | cons x r =>
    rw [Lib.join_length]
    have hl : ∀ ys : List (List UInt8), (∀ y ∈ ys, y.length ≤ B) → Lib.lens ys ≤ ys.length * B := by
      intro ys
      induction ys with
      | nil => intro _; simp [Lib.lens]
      | cons y ys ih =>
        intro hy
        have h1 := hy y (by simp)
        have h2 := ih (fun z hz => hy z (by simp [hz]))
        simp only [Lib.lens, List.map_cons, List.sum_cons, List.length_cons, Nat.succ_mul] at *
        omega
    have := hl (x :: r) h
    simp only [List.length_cons] at *
    rw [Nat.mul_add, Nat.succ_mul r.length sep.length, Nat.mul_comm sep.length]
    omega
theorem endF_size (s : Int) : (endF s).size ≤ 2500 := by
  unfold endF decA
  rw [ByteArray.size_append, ByteArray.size_append, ByteArray.size_append]
  have h1 := dec_len3 (s % 137 / 100).toNat (by omega)
  have h2 := dec_len3 (s % 137 / 10 % 10).toNat (by omega)
  have h3 := dec_len3 (s % 137 % 10).toNat (by omega)
  show 4 + (Lib.decDigits _).length + (Lib.decDigits _).length + (Lib.decDigits _).length ≤ 2500
  omega
theorem text_len {ls : List ByteArray} (s : Int) (hs : ∀ i, i < ls.length → (ls.getD i ByteArray.empty).size ≤ 2500) (hl : ls.length ≤ 1000) : (Lib.join ((ls ++ [endF s]).map (·.data.toList)) [10]).length ≤ 2600000 := by
  refine Nat.le_trans (join_le 2500 [10] _ ?_) ?_
  · intro x hx
    obtain ⟨y, hy, rfl⟩ := List.mem_map.1 hx
    show y.data.toList.length ≤ 2500
    rw [Array.length_toList]
    show y.size ≤ 2500
    rcases List.mem_append.1 hy with h | h
    · obtain ⟨i, hi, rfl⟩ := List.mem_iff_getElem.1 h
      have := hs i hi
      rwa [List.getD_eq_getElem?_getD, List.getElem?_eq_getElem hi] at this
    · simp at h; subst h; exact endF_size s
  · simp
    omega
theorem own_cap {w : World} {base : Nat} {e : TypeId} {size n g cap : Nat} {xs : List Value} (h : w.ownsRow base e size (.slice (some ⟨g, 0, none⟩) n cap) n xs) : n ≤ cap := by
  rcases h.2 with ⟨h0, _⟩ | ⟨g', c', cur, h0, _, _, h1, _⟩
  · cases h0
  · cases h0; exact h1
end Go.Proofs.YtncfgkhbenmpoaaGreatDoor
end

section
namespace Go.Proofs.YtncfgkhbenmpoaaGreatDoor
open Go Go.RowKit Go.Proofs Go.Shelf
set_option linter.unusedVariables false

theorem info9 : (Tryz.prog.info? 9).map (fun i => (i.zero, i.size, i.bytes)) = some (some (.string ByteArray.empty), 1, 16) := by kernel_rfl
theorem one_own (w : World) (base : Nat) (hb : base ≤ w.heap.size) (l : ByteArray) : (w.alloc (.cells #[.string l] 9)).ownsRow base 9 1 (.slice (some ⟨w.heap.size, 0, none⟩) 1 1) 1 [.string l] :=
  ⟨by simp, .inr ⟨w.heap.size, 1, #[.string l], rfl, hb, alloc_new w _, Nat.le_refl _, by unfold maxLen; omega, rfl, rfl⟩⟩

theorem ix_byte (l : ByteArray) (j : Nat) (hj : j < l.size) (w : World) : (Instr.index 9 (.string l) (.int .i64 (j : Int))).run Tryz.prog w = .ok (.int .u8 (byteAt l j)) w := by
  rw [run_index_string (P := Tryz.prog) w 9 l .i64 j Tryz.underlying9, dif_pos ⟨by omega, by omega⟩]
  unfold byteAt
  have e : l.data.getD j 0 = l[j] := by
    unfold Array.getD
    rw [dif_pos (show j < l.data.size from hj)]; rfl
  rw [e]; rfl

theorem tmodN (s n t : Nat) (h : s % n = t) : Int.tmod (s : Int) (n : Int) = (t : Int) := by rw [← h]; exact Int.tmod_eq_emod_of_nonneg (by omega)
theorem tdivN (s n t : Nat) (h : s / n = t) : Int.tdiv (s : Int) (n : Int) = (t : Int) := by rw [← h]; exact Int.tdiv_eq_ediv_of_nonneg (by omega)

theorem wrapN (a : Nat) (h : a < 1000) : wrap64 (a : Int) = (a : Int) := by unfold wrap64; omega
theorem wdivN (s n t : Nat) (h : s / n = t) (h2 : t < 1000) : wrap64 (Int.tdiv (s : Int) (n : Int)) = (t : Int) := by rw [tdivN s n t h]; exact wrapN t h2

theorem endN (s tt a e b c : Nat) (htt : s % 137 = tt) (ha : tt / 100 = a) (he : tt / 10 = e) (hb : e % 10 = b) (hc : tt % 10 = c) :
    endF (s : Int) = ⟨#[101, 110, 100, 32]⟩ ++ ⟨(Lib.decDigits a).toArray⟩ ++ ⟨(Lib.decDigits b).toArray⟩ ++ ⟨(Lib.decDigits c).toArray⟩ := by
  have e1 : ((s : Int) % 137 / 100).toNat = a := by omega
  have e2 : ((s : Int) % 137 / 10 % 10).toNat = b := by omega
  have e3 : ((s : Int) % 137 % 10).toNat = c := by omega
  unfold endF decA
  rw [e1, e2, e3]

def TextPost (lo hi sl ch : Int) (css : List (List Int)) (w : World) (e : Ending) (w' : World) : Prop := e = .returned (.string (textF lo hi sl ch css)) ∧ Below w.heap.size w w'

set_option maxRecDepth 100000 in
set_option maxHeartbeats 2000000 in
theorem c119 (lo hi sl ch : Int) (p : Option Addr) (cap : Nat) (css : List (List Int)) (w : World) (hx : RdC w p css) {N : Nat} (hN : N ≤ 1000) (hb : BookOk N lo hi sl ch css) (hI : ItoaR N w) :
    Calls Tryz.prog 119 #[.agg #[.int .i64 lo, .int .i64 hi, .int .i64 sl, .int .i64 ch], .slice p css.length cap] w (TextPost lo hi sl ch css w) := by
  obtain ⟨w0, e0, HS0, k0, k1, k2, k3, b0⟩ := box4 w (.int .i64 lo) (.int .i64 hi) (.int .i64 sl) (.int .i64 ch) 23
  have HX := Lib.hid (hx.below b0)
  have HB0 := Lib.hid b0
  have HC := Lib.hid hb
  have HNN := Lib.hid hN
  have HI := Lib.hid hI
  have hcl := hb.2.1
  have hh := c144_head hN lo hi sl ch w0 hb.1 (hI.below b0)
  obtain ⟨i0, hi0, hy0, hy1, hy2⟩ := info_parts info9
  clear hx hb hN hI b0
  go_enter Tryz.func119, Tryz.ntmps119
  go_wp2_with fail
  refine hh.mono ?_
  rintro e w1 ⟨rfl, hb1⟩
  have HB1 := Lib.hid hb1
  clear hh hb1 k0 k1 k2 k3 e0
  go_wp2
  have hown0 := one_own w1 w1.heap.size (Nat.le_refl _) (rowT bookW [lo, hi, sl, ch] 4)
  have HO0 := Lib.hid hown0
  have hbel0 := below_alloc1 w1 (.cells #[.string (rowT bookW [lo, hi, sl, ch] 4)] 9)
  have HBE0 := Lib.hid hbel0
  clear hown0 hbel0
  go_loopw [5, 19] (fun v i wr => ∃ k : Nat, k ≤ css.length ∧ i = .int .i64 k ∧ Hid (wr.ownsRow w1.heap.size 9 1 v (k + 1) (stV (linesF lo hi sl ch css k))) ∧ Hid (Below w1.heap.size w1 wr)) (fun _ i _ => css.length - (intOf i).toNat)
  case atStart => exact ⟨0, Nat.zero_le _, rfl, HO0, HBE0⟩
  case round =>
    obtain ⟨k, hk, rfl, HO, HB⟩ := hrel
    by_cases hlt : k < css.length
    · have hltI : decide ((k : Int) < (css.length : Int)) = true := by simp; omega
      obtain ⟨b, off, rfl, hcc⟩ := ((HX.out.below HB1.out).below HB.out).at hlt
      obtain ⟨a, c, e1, hrd⟩ := hcc k hlt
      have hck := HC.out.2.2 k hlt
      have ho := c144_own HNN.out a c (gl css k) wr hrd (by have := hck.2; omega) hck.1 (((HI.out.below HB0.out).below HB1.out).below HB.out)
      have HST := Lib.hid (linesF_step lo hi sl ch css k hlt)
      clear hcc hrd hck
      go_wp2_with fail
      refine ho.mono ?_
      rintro e w2 ⟨rfl, hb2⟩
      have HB2 := Lib.hid hb2
      clear ho hb2 e1
      have HO2 := Lib.hid (own_kept HO.out HB2.out)
      have HBW := Lib.hid (HB.out.trans (HB2.out.mono HB.out.size))
      go_wp2_with (at_builtin; refine wpList_append_own _ rfl _ _ 138 rfl w1.heap.size 9 i0 _ 1 16 Tryz.underlying138 hi0 hy0 hy1 hy2 rfl (by decide) _ _ _ rfl (HO2.out.alloc _) ⟨w2.heap.size, 0, none⟩ 1 1 [.string (rowT camW (gl css k) (gl css k).length)] rfl rfl ?c1 ?c2 ?c3 ?c4 ?c5 ?_)
      case c1 => exact news_of _ _ _
      case c2 => intro u hu; simp at hu; subst hu; rfl
      case c3 => unfold maxLen; omega
      case c4 => omega
      case c5 => have := HBW.out.size; simp; omega
      intro v' w3 hown' hgrow _
      have hlt' := HO2.out.lt
      have HB3 := Lib.hid (HBW.out.trans (((Below.refl w1.heap.size w2).alloc HBW.out.size _).grown hgrow (by have := HBW.out.size; simp; omega) (fun j hj => (hlt' j hj).1)))
      have HO3 := Lib.hid hown'
      clear hown' hgrow hlt'
      go_wp2
      go_roundw
      case rel => exact ⟨k + 1, by omega, by go_num, Lib.hid (by rw [HST.out, stV_append]; exact HO3.out), HB3⟩
      case measure => simp [intOf]; omega
    · obtain rfl : k = css.length := by omega
      have hltI : decide ((css.length : Int) < (css.length : Int)) = false := by simp
      obtain ⟨g, cap5, hv⟩ := ownsRow_succ HO.out
      subst hv
      have hcells : ∀ i, i < (linesF lo hi sl ch css css.length).length → wr.cell? ⟨g, i, none⟩ = some (.string ((linesF lo hi sl ch css css.length).getD i ByteArray.empty)) := fun i hi' => by
        have h := HO.out.cells (g := g) rfl i _ (stV_get _ i hi')
        rwa [add_new] at h
      have hsz := lines_size HNN.out HC.out css.length (Nat.le_refl _)
      obtain ⟨n, hn⟩ : ∃ n, css.length + 1 = n := ⟨_, rfl⟩
      have HN := Lib.hid hn
      have HLL := Lib.hid (show (linesF lo hi sl ch css css.length).length = n by rw [linesF_length _ _ _ _ _ _ (Nat.le_refl _), hn])
      have hn5 : n ≤ 501 := by omega
      rw [HLL.out] at hcells hsz
      rw [hn] at HO ⊢
      have HCE := Lib.hid hcells
      have HSZ := Lib.hid hsz
      obtain ⟨ls, hls⟩ : ∃ ls, linesF lo hi sl ch css css.length = ls := ⟨_, rfl⟩
      rw [hls] at HCE HSZ HLL
      have HLS := Lib.hid hls
      clear hn hcells hsz hls
      go_wp2
      go_loopw [32, 8] (fun i s w4 => ∃ k : Nat, k ≤ n ∧ i = .int .i64 k ∧ s = .int .i64 (sumRows ls k) ∧ w4 = wr) (fun i _ _ => n - (intOf i).toNat)
      case atStart => exact ⟨0, Nat.zero_le _, rfl, rfl, rfl⟩
      case round =>
        rename_i w3
        obtain ⟨k, hk, rfl, rfl, rfl⟩ := hrel
        by_cases hlt : k < n
        · have hltI : decide ((k : Int) < (n : Int)) = true := by simp; omega
          have e1 := HCE.out k hlt
          have hsk := HSZ.out k hlt
          obtain ⟨l, hl⟩ : ∃ l, ls.getD k ByteArray.empty = l := ⟨_, rfl⟩
          rw [hl] at e1 hsk
          have HST := Lib.hid (show sumRows ls (k + 1) = sumRows ls k + rowSum k l l.size by simp only [sumRows]; rw [hl])
          have hsr := sumRows_range ls (fun i hi' => by have := HSZ.out i (by rw [HLL.out] at hi'; exact hi'); exact this) (by rw [HLL.out]; omega) k (by rw [HLL.out]; omega)
          have HSR := Lib.hid (show 0 ≤ sumRows ls k ∧ sumRows ls k ≤ 1000000000000000 by omega)
          obtain ⟨S, hS⟩ : ∃ S, sumRows ls k = S := ⟨_, rfl⟩
          rw [hS] at HST HSR ⊢
          clear hl hsr hS
          go_wp2
          go_loopw [39, 8] (fun i s w5 => ∃ j : Nat, j ≤ l.size ∧ i = .int .i64 j ∧ s = .int .i64 (S + rowSum k l j) ∧ w5 = wr) (fun i _ _ => l.size - (intOf i).toNat)
          case atStart => exact ⟨0, Nat.zero_le _, rfl, by simp [rowSum], rfl⟩
          case round =>
            obtain ⟨j, hj, rfl, rfl, rfl⟩ := hrel
            by_cases hjl : j < l.size
            · have hjlI : decide ((j : Int) < (l.size : Int)) = true := by simp; omega
              have hix := ix_byte l j hjl
              have hby := byteAt_range l j
              have hrs := rowSum_range k (by omega) l j (by omega)
              have hSR := HSR.out
              have HRS := Lib.hid (show rowSum k l (j + 1) = rowSum k l j + byteAt l j * ((j : Int) + 1) * ((k : Int) + 1) from rfl)
              have hrs1 := rowSum_range k (by omega) l (j + 1) (by omega)
              rw [HRS.out] at hrs1
              obtain ⟨B, hB⟩ : ∃ B, byteAt l j = B := ⟨_, rfl⟩
              obtain ⟨R, hR⟩ : ∃ R, rowSum k l j = R := ⟨_, rfl⟩
              rw [hB] at hix hby hrs1 HRS
              rw [hR] at hrs hrs1 HRS
              have hm1 : 0 ≤ B * ((j : Int) + 1) ∧ B * ((j : Int) + 1) ≤ 255 * 2501 := ⟨Int.mul_nonneg hby.1 (by omega), Int.mul_le_mul hby.2 (by omega) (by omega) (by omega)⟩
              have hm2 : 0 ≤ B * ((j : Int) + 1) * ((k : Int) + 1) ∧ B * ((j : Int) + 1) * ((k : Int) + 1) ≤ (255 * 2501) * 1001 := ⟨Int.mul_nonneg hm1.1 (by omega), Int.mul_le_mul hm1.2 (by omega) (by omega) (by omega)⟩
              have hw0 : IntKind.i64.wrap B = B := w64 _ (by omega) (by omega)
              have hw1 : IntKind.i64.wrap (B * ((j : Int) + 1)) = B * ((j : Int) + 1) := w64 _ (by omega) (by omega)
              have hw2 : IntKind.i64.wrap (B * ((j : Int) + 1) * ((k : Int) + 1)) = B * ((j : Int) + 1) * ((k : Int) + 1) := w64 _ (by omega) (by omega)
              have hw3 : IntKind.i64.wrap (S + R + B * ((j : Int) + 1) * ((k : Int) + 1)) = S + R + B * ((j : Int) + 1) * ((k : Int) + 1) := w64 _ (by omega) (by omega)
              rw [hR]
              go_wp2
              go_roundw
              case rel => exact ⟨j + 1, by omega, by go_num, by rw [HRS.out, Int.add_assoc], trivial⟩
              case measure => simp [intOf]; omega
            · obtain rfl : j = l.size := by omega
              have hjlI : decide ((l.size : Int) < (l.size : Int)) = false := by simp
              go_wp2
              go_roundw
              case rel => exact ⟨k + 1, by omega, by go_num, by rw [HST.out], trivial⟩
              case measure => simp [intOf]; omega
        · obtain rfl : k = n := by omega
          have hltI : decide ((k : Int) < (k : Int)) = false := by simp
          have hsr := sumRows_range ls (fun i hi' => by have := HSZ.out i (by rw [HLL.out] at hi'; exact hi'); exact this) (by rw [HLL.out]; omega) k (by rw [HLL.out]; omega)
          obtain ⟨S, hS⟩ : ∃ S, sumRows ls k = S := ⟨_, rfl⟩
          rw [hS] at hsr ⊢
          have HS := Lib.hid hS
          have HSR := Lib.hid (show 0 ≤ S ∧ S ≤ 1000000000000000 by omega)
          clear hS hsr
          obtain ⟨s, hs⟩ : ∃ s : Nat, S = s := ⟨S.toNat, by have := HSR.out; omega⟩
          subst hs
          obtain ⟨tt, htt⟩ : ∃ tt : Nat, s % 137 = tt := ⟨_, rfl⟩
          obtain ⟨a, ha⟩ : ∃ a : Nat, tt / 100 = a := ⟨_, rfl⟩
          obtain ⟨e, he⟩ : ∃ e : Nat, tt / 10 = e := ⟨_, rfl⟩
          obtain ⟨b, hb⟩ : ∃ b : Nat, e % 10 = b := ⟨_, rfl⟩
          obtain ⟨c, hc⟩ : ∃ c : Nat, tt % 10 = c := ⟨_, rfl⟩
          have htt2 : tt < 137 := by omega
          have ba : a < 100 := by omega
          have be : e < 100 := by omega
          have bb : b < 100 := by omega
          have bc : c < 100 := by omega
          have ba' : a < 1000 := by omega
          have be' : e < 1000 := by omega
          have hd1 := dec_len a ba
          have hd2 := dec_len b bb
          have hd3 := dec_len c bc
          have hl1 : ¬ 9223372036854775807 < 4 + (Lib.decDigits a).length := by omega
          have hl2 : ¬ 9223372036854775807 < 4 + (Lib.decDigits a).length + (Lib.decDigits b).length := by omega
          have hl3 : ¬ 9223372036854775807 < 4 + (Lib.decDigits a).length + (Lib.decDigits b).length + (Lib.decDigits c).length := by omega
          have hr1 : (tt : Int) / 100 = (a : Int) := by omega
          have hr2 : (tt : Int) / 10 = (e : Int) := by omega
          have hr3 : (e : Int) % 10 = (b : Int) := by omega
          have hr4 : (tt : Int) % 10 = (c : Int) := by omega
          have hr0 : (s : Int) % 137 = (tt : Int) := by omega
          have hq0 : Int.tmod (s : Int) 137 = (tt : Int) := tmodN s 137 tt htt
          have hq1 : wrap64 (Int.tdiv (tt : Int) 100) = (a : Int) := wdivN tt 100 a ha ba'
          have hq2 : wrap64 (Int.tdiv (tt : Int) 10) = (e : Int) := wdivN tt 10 e he be'
          have hq3 : Int.tmod (e : Int) 10 = (b : Int) := tmodN e 10 b hb
          have hq4 : Int.tmod (tt : Int) 10 = (c : Int) := tmodN tt 10 c hc
          have h1 := Tryz.strconv_Itoa_small a ba wr
          have h2 := Tryz.strconv_Itoa_small b bb wr
          have h3 := Tryz.strconv_Itoa_small c bc wr
          have HEND := Lib.hid (endN s tt a e b c htt ha he hb hc)
          clear htt ha he hb hc
          clear hq1 hq2 hq3 hq4
          go_wp2_with fail
          refine h1.mono ?_
          rintro e1 w' ⟨rfl, rfl⟩
          go_wp2_with fail
          refine h2.mono ?_
          rintro e1 w' ⟨rfl, rfl⟩
          go_wp2_with fail
          refine h3.mono ?_
          rintro e1 w' ⟨rfl, rfl⟩
          have HOw := Lib.hid (show w'.ownsRow w1.heap.size 9 1 (.slice (some ⟨g, 0, none⟩) k cap5) k (stV ls) from by have := HO.out; rwa [HLS.out] at this)
          clear h1 h2 h3
          go_wp2_with (at_builtin; refine wpList_append_own _ rfl _ _ 138 rfl w1.heap.size 9 i0 _ 1 16 Tryz.underlying138 hi0 hy0 hy1 hy2 rfl (by decide) _ _ _ rfl (HOw.out.alloc _) ⟨w'.heap.size, 0, none⟩ 1 1 [.string (endF (s : Int))] rfl (by rw [HEND.out]; rfl) ?c1 ?c2 ?c3 ?c4 ?c5 ?_)
          case c1 => rw [HEND.out]; exact news_of _ _ _
          case c2 => intro u hu; simp at hu; subst hu; rfl
          case c3 => unfold maxLen; omega
          case c4 => omega
          case c5 => have := HB.out.size; simp; omega
          intro v' w3 hown' hgrow _
          have hlt' := HOw.out.lt
          have HB3 := Lib.hid (HB.out.trans (((Below.refl w1.heap.size w').alloc HB.out.size _).grown hgrow (by have := HB.out.size; simp; omega) (fun j hj => (hlt' j hj).1)))
          have HO3 := Lib.hid (show w3.ownsRow w1.heap.size 9 1 v' (k + 1) (stV (ls ++ [endF (s : Int)])) by rw [stV_append]; exact hown')
          clear hown' hgrow hlt'
          obtain ⟨g3, cap3, hv3⟩ := ownsRow_succ HO3.out
          subst hv3
          have hall : allF lo hi sl ch css = ls ++ [endF (s : Int)] := by
            unfold allF
            rw [HLS.out, HN.out, HS.out]
          have HALL := Lib.hid hall
          clear hall
          have hal : (ls ++ [endF (s : Int)]).length = k + 1 := by rw [List.length_append, ← HLL.out]; rfl
          have hjoin := Tryz.strings_Join g3 0 cap3 (ls ++ [endF (s : Int)]) ⟨#[10]⟩ w3 (fun j x hj => by
            have h := HO3.out.cells (g := g3) rfl j (.string x) (by unfold stV; rw [List.getElem?_map, hj]; rfl)
            rw [add_new] at h
            rw [Nat.zero_add]; exact h) (by have h := HO3.out.lt g3 rfl; exact h.2) (by omega) (by rw [hal]; exact own_cap HO3.out) (Nat.le_trans (text_len (s : Int) (fun i hi' => HSZ.out i (by rw [HLL.out] at hi'; exact hi')) (by rw [HLL.out]; omega)) (by omega))
          rw [hal] at hjoin
          have hlen := text_len (s : Int) (fun i hi' => HSZ.out i (by rw [HLL.out] at hi'; exact hi')) (by rw [HLL.out]; omega)
          obtain ⟨J, hJ⟩ : ∃ J, Lib.join ((ls ++ [endF (s : Int)]).map (·.data.toList)) [10] = J := ⟨_, rfl⟩
          have hjoin2 : Calls Tryz.prog 146 #[.slice (some ⟨g3, 0, none⟩) (k + 1) cap3, .string ⟨#[10]⟩] w3 fun e w' => e = .returned (.string ⟨J.toArray⟩) ∧ Below w3.heap.size w3 w' := by rw [← hJ]; exact hjoin
          rw [hJ] at hlen
          have HJ := Lib.hid hJ
          clear hjoin hJ
          have hl4 : ¬ 9223372036854775807 < J.length + 1 := by omega
          have HB5 := Lib.hid (HB0.out.trans ((HB1.out.trans (HB3.out.mono HB1.out.size)).mono HB0.out.size))
          clear hl1 hl2 hl3 hlen hal
          go_wp2_with fail
          refine hjoin2.mono ?_
          rintro e5 w5 ⟨rfl, hb5⟩
          have HB6 := Lib.hid (HB5.out.trans (hb5.mono HB5.out.size))
          clear hb5 hjoin2
          go_wp2
          go_ret
          refine ⟨?_, HB6.out⟩
          unfold textF
          rw [HALL.out, HJ.out]
          rfl
end Go.Proofs.YtncfgkhbenmpoaaGreatDoor
end

section
namespace Go.Proofs.YtncfgkhbenmpoaaGreatDoor
open Go Go.RowKit Go.Proofs Go.Shelf
set_option linter.unusedVariables false

def exV : List Int := [1, 2, 8, 9, 8, 2]
def exO : List Int := [0, 15, 0, -15]
def exG : List Gau := [⟨0, 1, 1⟩, ⟨2, 6, 0⟩]
def exS : List (Int × Int) := [(0, 2), (0, 10), (6, 6), (0, 10)]
theorem ex_near1 : nearestF 0 10 2 24 [0, 0, 9, 0] = ([1, 3, 5, 3], 4) := by kernel_rfl
theorem ex_near2 : nearestF 0 10 10 2 exV = ([1, 1, 8, 8, 8, 1], 1) := by kernel_rfl
theorem ex_follow : followF exV 1 = [2, 8, 9, 9, 9, 8] := by kernel_rfl
theorem ex_carve0 : carveOk exV 1 0 = false := by kernel_rfl
theorem ex_carve1 : carveOk exV 1 1 = true := by kernel_rfl
theorem ex_carve : carveAt exV 1 1 = [2, 2, 3, 9, 3, 2] := by kernel_rfl
theorem ex_shift : bestTo (shiftF [1, 2, 8, 9] [8, 9, 1, 2]) 4 = (0, 11) := by kernel_rfl
theorem ex_sta : staF 10 exO 0 9 = [1, 3, 5, 7] := by kernel_rfl
theorem ex_ret : retTo 10 exO [1, 3, 5, 7] 3 = ⟨2, 2, 10⟩ := by kernel_rfl
theorem ex_pass : passF 10 exO 20 9 = [0, 2, 3] := by kernel_rfl
def bookT : ByteArray := ⟨#[98, 111, 111, 107, 32, 48, 32, 49, 48, 32, 50, 32, 50, 52, 10, 99, 97, 109, 32, 49, 32, 51, 32, 53, 32, 51, 10, 101, 110, 100, 32, 48, 49, 51, 10]⟩
theorem ex_text : textF 0 10 2 24 [[1, 3, 5, 3]] = bookT := by kernel_rfl
theorem ex_gaTo : gaTo 0 10 4 exG 2 = exS := by kernel_rfl
theorem ex_gaOk : GaOk 0 10 4 exG 2 := by
  intro j hj
  have : j = 0 ∨ j = 1 := by omega
  rcases this with rfl | rfl
  · show ((0 : Int) ≤ 2); decide
  · show ((6 : Int) ≤ 6); decide
theorem ex_fit {xs : List Int} (h : FitS 2 24 exS xs) : gi xs 0 = 2 ∧ gi xs 1 = 4 ∧ gi xs 2 = 6 ∧ gi xs 3 = 4 := by
  have hl : xs.length = 4 := h.len
  have i0 : (0 : Int) ≤ gi xs 0 ∧ gi xs 0 ≤ 2 := h.ins 0 (by omega)
  have i2 : (6 : Int) ≤ gi xs 2 ∧ gi xs 2 ≤ 6 := h.ins 2 (by omega)
  have n0 := h.near 0 (by omega)
  have n1 := h.near 1 (by omega)
  have n2 := h.near 2 (by omega)
  have n3 := h.near 3 (by omega)
  rw [hl] at n0 n1 n2 n3
  simp only [Nat.reduceAdd, Nat.reduceMod] at n0 n1 n2 n3
  omega
theorem ex_is (i : Nat) (hi : i < 4) (h : Int) : Is 2 24 exS i h ↔ h = gi [2, 4, 6, 4] i := by
  have hcs : ∀ i, i < exS.length → 0 ≤ (spn exS i).1 ∧ (spn exS i).2 ≤ 30 := by decide
  rw [is_fit (by decide) hcs (by decide) (show i < exS.length from hi) h]
  constructor
  · rintro ⟨xs, hf, rfl⟩
    have := ex_fit hf
    match i, hi with
    | 0, _ => exact this.1
    | 1, _ => exact this.2.1
    | 2, _ => exact this.2.2.1
    | 3, _ => exact this.2.2.2
  · rintro rfl
    exact ⟨[2, 4, 6, 4], ⟨rfl, by decide, by decide, by decide⟩, rfl⟩
theorem ex_bnd (i : Nat) (hi : i < 4) : boundF 2 24 exS i = (gi [2, 4, 6, 4] i, gi [2, 4, 6, 4] i) := by
  rcases seen_F 2 24 exS i with ⟨_, hn⟩ | ⟨_, h2, h3, _⟩
  · exact absurd ((ex_is i hi _).2 rfl) (hn _)
  · exact Prod.ext ((ex_is i hi _).1 h2) ((ex_is i hi _).1 h3)
theorem ex_bound : boundL 2 24 exS = [(2, 2), (4, 4), (6, 6), (4, 4)] := by
  show [boundF 2 24 exS 0, boundF 2 24 exS 1, boundF 2 24 exS 2, boundF 2 24 exS 3] = _
  rw [ex_bnd 0 (by decide), ex_bnd 1 (by decide), ex_bnd 2 (by decide), ex_bnd 3 (by decide)]
  rfl
theorem ex_knownOk : KnownOk 0 10 2 24 4 exG := by
  refine ⟨ex_gaOk, ?_⟩
  show (spn (boundL 2 24 (gaTo 0 10 4 exG 2)) 0).1 ≤ (spn (boundL 2 24 (gaTo 0 10 4 exG 2)) 0).2
  rw [ex_gaTo, ex_bound]
  decide
theorem ex_rule : ruleB 0 10 2 24 = true := by decide
theorem ex_rule2 : ruleB 0 10 10 2 = true := by decide
end Go.Proofs.YtncfgkhbenmpoaaGreatDoor
end

section
namespace Go.Proofs.YtncfgkhbenmpoaaGreatDoor
open Go Go.RowKit Go.Proofs Go.Shelf
set_option linter.unusedVariables false

theorem c78 (w : World) : Calls Tryz.prog 78 #[] w fun e w' => e = .returned (.agg #[.int .i64 0, .int .i64 10, .int .i64 2, .int .i64 24]) ∧ Below w.heap.size w w' := by
  go_enter Tryz.func78, Tryz.ntmps78
  go_wp2
  refine bodyPost_ret (v := .agg #[.int .i64 0, .int .i64 10, .int .i64 2, .int .i64 24]) ?_ rfl ⟨rfl, below_alloc1 _ _⟩
  have r : ∀ j, (w.alloc (.cells #[.int .i64 0, .int .i64 10, .int .i64 2, .int .i64 24] 23)).cell? ⟨w.heap.size, j, none⟩ = (#[.int .i64 0, .int .i64 10, .int .i64 2, .int .i64 24] : Array Value)[j]? := fun j => at_new _ _ _ _
  simp [results, Tryz.results78, go_sem, r]
theorem c79 (w : World) : Calls Tryz.prog 79 #[] w fun e w' => e = .returned (.agg #[.int .i64 0, .int .i64 10, .int .i64 10, .int .i64 2]) ∧ Below w.heap.size w w' := by
  go_enter Tryz.func79, Tryz.ntmps79
  go_wp2
  refine bodyPost_ret (v := .agg #[.int .i64 0, .int .i64 10, .int .i64 10, .int .i64 2]) ?_ rfl ⟨rfl, below_alloc1 _ _⟩
  have r : ∀ j, (w.alloc (.cells #[.int .i64 0, .int .i64 10, .int .i64 10, .int .i64 2] 23)).cell? ⟨w.heap.size, j, none⟩ = (#[.int .i64 0, .int .i64 10, .int .i64 10, .int .i64 2] : Array Value)[j]? := fun j => at_new _ _ _ _
  simp [results, Tryz.results79, go_sem, r]
/-- a list that is laid at once -/
theorem rd_lit (w : World) (xs : List Int) (t : TypeId) : RdI (w.alloc (.cells (inV xs).toArray t)) (some ⟨w.heap.size, 0, none⟩) xs := by
  refine .inr ⟨w.heap.size, 0, rfl, fun i hi => ?_⟩
  rw [Nat.zero_add, at_new]
  rw [List.getElem?_toArray]
  exact inV_get xs i hi
theorem c80 (w : World) : Calls Tryz.prog 80 #[] w fun e w' => (∃ p, e = .returned (.slice p 6 6) ∧ RdI w' p exV) ∧ Below w.heap.size w w' := by
  go_enter Tryz.func80, Tryz.ntmps80
  go_wp2
  go_ret
  exact ⟨⟨_, rfl, rd_lit w exV 3⟩, below_alloc1 _ _⟩
theorem c81 (w : World) : Calls Tryz.prog 81 #[] w fun e w' => (∃ p, e = .returned (.agg #[.int .i64 10, .slice p 4 4]) ∧ RdI w' p exO) ∧ Below w.heap.size w w' := by
  go_enter Tryz.func81, Tryz.ntmps81
  go_wp2
  obtain ⟨w1, e1, HS1, k0, k1, b1⟩ := box2 w (.int .i64 10) (.slice (some ⟨w.heap.size + 1, 0, none⟩) 4 4) 61
  rw [e1]
  have b2 := below_alloc1 w1 (.cells #[.int .i64 0, .int .i64 15, .int .i64 0, .int .i64 (-15)] 3)
  have r0 := (b2.cell (lt_of_cellq k0)).trans k0
  have r1 := (b2.cell (lt_of_cellq k1)).trans k1
  refine bodyPost_ret (v := .agg #[.int .i64 10, .slice (some ⟨w.heap.size + 1, 0, none⟩) 4 4]) ?_ rfl ⟨⟨_, rfl, ?_⟩, b1.trans (b2.mono b1.size)⟩
  · simp [results, Tryz.results81, go_sem, r0, r1]
  · have := rd_lit w1 exO 3
    rw [HS1.out] at this
    exact this
set_option maxRecDepth 100000 in
theorem c24 (p : Option Addr) (n cap : Nat) (w : World) : Calls Tryz.prog 24 #[.slice p n cap] w fun e w' => e = .returned (.bool (decide (n ≤ 27))) ∧ w = w' := by
  go_enter Tryz.func24, Tryz.ntmps24
  go_wp2
  go_ret
  refine ⟨?_, rfl⟩
  show Ending.returned (Value.bool (decide ((n : Int) ≤ 27))) = _
  congr 2
  exact decide_eq_decide.2 (by omega)
def PrintPost (lo hi sl ch : Int) (css : List (List Int)) (w : World) (e : Ending) (w' : World) : Prop :=
  (∃ t er, e = .returned (.tuple #[.string t, .int .i64 er]) ∧ t = (if (ruleB lo hi sl ch && camsB css) = true then textF lo hi sl ch css else ⟨#[]⟩) ∧ er = (if (ruleB lo hi sl ch && camsB css) = true then 0 else 2)) ∧ Below w.heap.size w w'
set_option maxRecDepth 100000 in
set_option maxHeartbeats 400000 in
theorem c72 (lo hi sl ch : Int) (p : Option Addr) (cap : Nat) (css : List (List Int)) (w : World) (hx : RdC w p css) (hl : LenC css) :
    Calls Tryz.prog 72 #[.agg #[.int .i64 lo, .int .i64 hi, .int .i64 sl, .int .i64 ch], .slice p css.length cap] w (PrintPost lo hi sl ch css w) := by
  obtain ⟨w0, e0, HS0, k0, k1, k2, k3, b0⟩ := box4 w (.int .i64 lo) (.int .i64 hi) (.int .i64 sl) (.int .i64 ch) 23
  have HX := Lib.hid (hx.below b0)
  have HB0 := Lib.hid b0
  have HL := Lib.hid hl
  have h82 := c82 lo hi sl ch w0
  clear hx hl b0
  cases hr : ruleB lo hi sl ch with
  | false =>
    rw [hr] at h82
    have HR := Lib.hid hr
    clear hr
    go_enter Tryz.func72, Tryz.ntmps72
    go_wp2_with fail
    refine h82.mono ?_
    rintro e w1 ⟨rfl, b1⟩
    have HB1 := Lib.hid (HB0.out.trans (b1.mono HB0.out.size))
    clear h82 b1 k0 k1 k2 k3 e0
    go_wp2
    go_ret2
    exact ⟨⟨_, _, rfl, by rw [HR.out]; rfl, by rw [HR.out]; rfl⟩, HB1.out⟩
  | true =>
    rw [hr] at h82
    have HR := Lib.hid hr
    clear hr
    go_enter Tryz.func72, Tryz.ntmps72
    go_wp2_with fail
    refine h82.mono ?_
    rintro e w1 ⟨rfl, b1⟩
    have HB1 := Lib.hid (HB0.out.trans (b1.mono HB0.out.size))
    have HX1 := Lib.hid (HX.out.below b1)
    have h118 := c118 p cap css w1 HX1.out HL.out
    have j0 := (b1.cell (lt_of_cellq k0)).trans k0
    have j1 := (b1.cell (lt_of_cellq k1)).trans k1
    have j2 := (b1.cell (lt_of_cellq k2)).trans k2
    have j3 := (b1.cell (lt_of_cellq k3)).trans k3
    clear h82 b1 k0 k1 k2 k3 e0
    cases hc : camsB css with
    | false =>
      rw [hc] at h118
      have HC := Lib.hid hc
      clear hc
      go_wp2_with fail
      refine h118.mono ?_
      rintro e w' ⟨rfl, rfl⟩
      go_wp2
      go_ret2
      exact ⟨⟨_, _, rfl, by rw [HR.out, HC.out]; rfl, by rw [HR.out, HC.out]; rfl⟩, HB1.out⟩
    | true =>
      rw [hc] at h118
      have HC := Lib.hid hc
      clear hc
      have h119 := c119 lo hi sl ch p cap css w1 HX1.out (N := 100) (by omega) (bookOk_of HR.out HC.out) (itoaR_small w1)
      go_wp2_with fail
      refine h118.mono ?_
      rintro e w' ⟨rfl, rfl⟩
      go_wp2_with fail
      refine h119.mono ?_
      rintro e w2 ⟨rfl, b2⟩
      have HB2 := Lib.hid (HB1.out.trans (b2.mono HB1.out.size))
      clear h118 h119 b2 j0 j1 j2 j3
      go_wp2
      go_ret2
      exact ⟨⟨_, _, rfl, by rw [HR.out, HC.out]; rfl, by rw [HR.out, HC.out]; rfl⟩, HB2.out⟩
end Go.Proofs.YtncfgkhbenmpoaaGreatDoor
end

section
namespace Go.Proofs.YtncfgkhbenmpoaaGreatDoor
open Go Go.RowKit Go.Proofs Go.Shelf
set_option linter.unusedVariables false
theorem rdg_lit (w : World) : RdG (w.alloc (.cells #[.int .i64 0, .int .i64 1, .int .i64 1, .int .i64 2, .int .i64 6, .int .i64 0] 47)) (some ⟨w.heap.size, 0, none⟩) exG := by
  refine .inr ⟨w.heap.size, 0, rfl, fun i hi => ?_⟩
  have hi2 : i < 2 := hi
  match i, hi2 with
  | 0, _ => exact ⟨by rw [at_new]; rfl, by rw [at_new]; rfl, by rw [at_new]; rfl⟩
  | 1, _ => exact ⟨by rw [at_new]; rfl, by rw [at_new]; rfl, by rw [at_new]; rfl⟩
theorem below_al {w w2 : World} {o : Obj} (h : Below (w.alloc o).heap.size (w.alloc o) w2) : Below w.heap.size w w2 := (below_alloc1 w o).trans (h.mono (below_alloc1 w o).size)
theorem below_t {a b c : World} (h : Below a.heap.size a b) (k : Below b.heap.size b c) : Below a.heap.size a c := h.trans (k.mono h.size)
theorem ex_camV : camB exV = true := by decide
theorem ex_mot : motB 10 exO = true := by decide
theorem rdc_lit (w : World) (c : Nat) : RdC ((w.alloc (.cells #[.int .i64 1, .int .i64 3, .int .i64 5, .int .i64 3] 3)).alloc (.cells #[.slice (some ⟨w.heap.size, 0, none⟩) 4 4] 24)) (some ⟨w.heap.size + 1, 0, none⟩) [[1, 3, 5, 3]] := by
  refine .inr ⟨w.heap.size + 1, 0, rfl, fun i hi => ?_⟩
  have hi0 : i = 0 := by simpa using hi
  subst hi0
  refine ⟨some ⟨w.heap.size, 0, none⟩, 4, ?_, (rd_lit w [1, 3, 5, 3] 3).below (below_alloc1 _ _)⟩
  have hs : (w.alloc (.cells #[.int .i64 1, .int .i64 3, .int .i64 5, .int .i64 3] 3)).heap.size = w.heap.size + 1 := by simp
  rw [← hs, Nat.zero_add, at_new]; rfl

theorem same_lit (p : Option Addr) (c : Nat) (xs : List Int) (w : World) (hx : RdI w p xs) (hl : xs.length ≤ 1000) :
    Calls Tryz.prog 30 #[.slice p xs.length c, .slice (some ⟨w.heap.size, 0, none⟩) xs.length xs.length] (w.alloc (.cells (inV xs).toArray 3)) fun e w' => e = .returned (.bool true) ∧ Below w.heap.size w w' := by
  refine (c30 p c xs (some ⟨w.heap.size, 0, none⟩) xs.length xs _ (hx.below (below_alloc1 _ _)) (rd_lit w xs 3) (by omega)).mono ?_
  rintro e w' ⟨rfl, n, rfl⟩
  exact ⟨by rw [decide_eq_true rfl], below_drewN (below_alloc1 _ _) n⟩
theorem rds_lit (w : World) (ss : List (Int × Int)) : RdS (w.alloc (.cells (spV ss).toArray 50)) (some ⟨w.heap.size, 0, none⟩) ss := by
  refine .inr ⟨w.heap.size, 0, rfl, fun i hi => ?_⟩
  obtain ⟨e1, e2⟩ := spV_get ss i hi
  rw [Nat.zero_add, at_new, at_new, List.getElem?_toArray, List.getElem?_toArray]
  exact ⟨e1, e2⟩
theorem same_spans (p : Option Addr) (c : Nat) (ss : List (Int × Int)) (w : World) (hx : RdS w p ss) (hl : ss.length ≤ 1000) :
    Calls Tryz.prog 36 #[.slice p ss.length c, .slice (some ⟨w.heap.size, 0, none⟩) ss.length ss.length] (w.alloc (.cells (spV ss).toArray 50)) fun e w' => e = .returned (.bool true) ∧ Below w.heap.size w w' := by
  refine (c36 p c ss (some ⟨w.heap.size, 0, none⟩) ss.length ss _ (hx.below (below_alloc1 _ _)) (rds_lit w ss) (by omega)).mono ?_
  rintro e w' ⟨rfl, n, rfl⟩
  exact ⟨by rw [decide_eq_true rfl], below_drewN (below_alloc1 _ _) n⟩
theorem book_eq : (bookT.toList == [98, 111, 111, 107, 32, 48, 32, 49, 48, 32, 50, 32, 50, 52, 10, 99, 97, 109, 32, 49, 32, 51, 32, 53, 32, 51, 10, 101, 110, 100, 32, 48, 49, 51, 10]) = true := by kernel_rfl

set_option maxRecDepth 100000 in
set_option maxHeartbeats 4000000 in
theorem c25 (w : World) : Calls Tryz.prog 25 #[] w fun e w' => e = .returned (.bool true) ∧ Below w.heap.size w w' := by
  go_enter Tryz.func25, Tryz.ntmps25
  go_wp2_with fail
  refine (c78 w).mono ?_
  rintro e w1 ⟨rfl, b⟩
  have B1 := Lib.hid b
  clear b
  have h : Calls Tryz.prog 26 #[.agg #[.int .i64 0, .int .i64 10, .int .i64 2, .int .i64 24], .slice (some ⟨w1.heap.size, 0, none⟩) 4 4] (w1.alloc (.cells #[.int .i64 0, .int .i64 0, .int .i64 9, .int .i64 0] 3)) _ :=
    c26_ok 0 10 2 24 (some ⟨w1.heap.size, 0, none⟩) 4 [0, 0, 9, 0] _ (rd_lit w1 [0, 0, 9, 0] 3) ex_rule (by decide)
  go_wp2_with fail
  refine (h).mono ?_
  rintro e w2 ⟨⟨p1, c1, he, hr⟩, b⟩
  rw [ex_near1] at he hr
  replace he : e = .returned (.tuple #[.slice p1 4 c1, .int .i64 4, .int .i64 0]) := he
  subst he
  have R1 := Lib.hid (show RdI w2 p1 [1, 3, 5, 3] from hr)
  have B2 := Lib.hid (below_t B1.out (below_al b))
  clear h hr b
  go_wp2_with fail
  refine (c79 w2).mono ?_
  rintro e w3 ⟨rfl, b3⟩
  go_wp2_with fail
  refine (c80 w3).mono ?_
  rintro e w4 ⟨⟨p4, rfl, hr4⟩, b4⟩
  have h : Calls Tryz.prog 26 #[.agg #[.int .i64 0, .int .i64 10, .int .i64 10, .int .i64 2], .slice p4 6 6] w4 _ := c26_ok 0 10 10 2 p4 6 exV w4 hr4 ex_rule2 ex_camV
  go_wp2_with fail
  refine (h).mono ?_
  rintro e w5 ⟨⟨p2, c2, he, hr⟩, b⟩
  rw [ex_near2] at he hr
  replace he : e = .returned (.tuple #[.slice p2 6 c2, .int .i64 1, .int .i64 0]) := he
  subst he
  have R2 := Lib.hid (show RdI w5 p2 [1, 1, 8, 8, 8, 1] from hr)
  have D := below_t (below_t b3 b4) b
  have R1 := Lib.hid (R1.out.below D)
  have B5 := Lib.hid (below_t B2.out D)
  clear h hr b b3 b4 hr4 D
  go_wp2_with fail
  refine (c78 w5).mono ?_
  rintro e w6 ⟨rfl, b6⟩
  have h : Calls Tryz.prog 32 #[.agg #[.int .i64 0, .int .i64 10, .int .i64 2, .int .i64 24], .int .i64 4, .slice (some ⟨w6.heap.size, 0, none⟩) 2 2] (w6.alloc (.cells #[.int .i64 0, .int .i64 1, .int .i64 1, .int .i64 2, .int .i64 6, .int .i64 0] 47)) _ :=
    c32 0 10 2 24 4 (some ⟨w6.heap.size, 0, none⟩) 2 exG _ (rdg_lit w6) (by decide)
  go_wp2_with fail
  refine (h).mono ?_
  rintro e w7 ⟨he, b⟩
  obtain ⟨g3, rfl, hr⟩ : ∃ g, e = .returned (.tuple #[.slice (some ⟨g, 0, none⟩) 4 4, .int .i64 0]) ∧ RowS w7 g [(2, 2), (4, 4), (6, 6), (4, 4)] := by
    rcases he with ⟨h1, _⟩ | ⟨_, _, g, h3, _, h5⟩ | ⟨_, h2, _⟩
    · exact absurd h1 (by decide)
    · refine ⟨g, h3, ?_⟩
      have e1 : gaTo 0 10 (4 : Int).toNat exG exG.length = exS := ex_gaTo
      rw [e1, ex_bound] at h5
      exact h5
    · exact absurd ex_knownOk h2
  have R3 := Lib.hid hr.rd
  have D := below_t b6 (below_al b)
  have R1 := Lib.hid (R1.out.below D)
  have R2 := Lib.hid (R2.out.below D)
  have B7 := Lib.hid (below_t B5.out D)
  clear h hr b b6 D he
  go_wp2_with fail
  refine (c80 w7).mono ?_
  rintro e w8 ⟨⟨p8, rfl, hr8⟩, b8⟩
  have h : Calls Tryz.prog 38 #[.slice p8 6 6, .int .i64 1] w8 _ := c38 p8 6 exV 1 w8 hr8 (by decide)
  go_wp2_with fail
  refine (h).mono ?_
  rintro e w9 ⟨b, he⟩
  rw [if_pos (by decide)] at he
  obtain ⟨p5, c5, he, hr⟩ := he
  have e1 : followF exV (1 : Int).toNat = [2, 8, 9, 9, 9, 8] := ex_follow
  rw [e1] at hr
  replace he : e = .returned (.tuple #[.slice p5 6 c5, .int .i64 0]) := he
  subst he
  have R5 := Lib.hid hr
  have D := below_t b8 b
  have R1 := Lib.hid (R1.out.below D)
  have R2 := Lib.hid (R2.out.below D)
  have R3 := Lib.hid (R3.out.below D)
  have B9 := Lib.hid (below_t B7.out D)
  clear h hr b b8 hr8 D e1
  go_wp2_with fail
  refine (c80 w9).mono ?_
  rintro e w10 ⟨⟨p10, rfl, hr10⟩, b10⟩
  have h : Calls Tryz.prog 39 #[.slice p10 6 6, .int .i64 1] w10 _ := c39 p10 6 exV 1 w10 hr10 (by decide)
  go_wp2_with fail
  refine (h).mono ?_
  rintro e w11 ⟨b, he⟩
  rw [if_pos (by decide)] at he
  obtain ⟨p6, c6, er, her, hok, hno, he, hr⟩ := he
  obtain rfl : er = 1 := by
    rcases Nat.lt_trichotomy er 1 with h1 | h1 | h1
    · obtain rfl : er = 0 := by omega
      have : carveOk exV 1 0 = true := hok
      rw [ex_carve0] at this; cases this
    · exact h1
    · have : carveOk exV 1 1 = false := hno 1 h1
      rw [ex_carve1] at this; cases this
  have e1 : carveAt exV (1 : Int).toNat ((1 : Nat) : Int) = [2, 2, 3, 9, 3, 2] := ex_carve
  rw [e1] at hr
  replace he : e = .returned (.tuple #[.slice p6 6 c6, .int .i64 1, .int .i64 0]) := he
  subst he
  have R6 := Lib.hid hr
  have D := below_t b10 b
  have R1 := Lib.hid (R1.out.below D)
  have R2 := Lib.hid (R2.out.below D)
  have R3 := Lib.hid (R3.out.below D)
  have R5 := Lib.hid (R5.out.below D)
  have B11 := Lib.hid (below_t B9.out D)
  clear h hr b b10 hr10 D e1 hok hno her
  have h : Calls Tryz.prog 59 #[.slice (some ⟨w11.heap.size, 0, none⟩) 4 4, .slice (some ⟨w11.heap.size + 1, 0, none⟩) 4 4] ((w11.alloc (.cells #[.int .i64 1, .int .i64 2, .int .i64 8, .int .i64 9] 3)).alloc (.cells #[.int .i64 8, .int .i64 9, .int .i64 1, .int .i64 2] 3)) _ :=
    c59_ok (some ⟨w11.heap.size, 0, none⟩) 4 [1, 2, 8, 9] (some ⟨w11.heap.size + 1, 0, none⟩) 4 [8, 9, 1, 2] _ ((rd_lit w11 [1, 2, 8, 9] 3).below (below_alloc1 _ _)) (by
      have := rd_lit (w11.alloc (.cells #[.int .i64 1, .int .i64 2, .int .i64 8, .int .i64 9] 3)) [8, 9, 1, 2] 3
      rw [show (w11.alloc (.cells #[.int .i64 1, .int .i64 2, .int .i64 8, .int .i64 9] 3)).heap.size = w11.heap.size + 1 by simp] at this
      exact this) (by decide) (by decide) rfl
  go_wp2_with fail
  refine (h).mono ?_
  rintro e w12 ⟨he, b⟩
  replace he : e = .returned (.tuple #[.int .i64 (bestTo (shiftF [1, 2, 8, 9] [8, 9, 1, 2]) 4).1, .int .i64 (bestTo (shiftF [1, 2, 8, 9] [8, 9, 1, 2]) 4).2, .int .i64 0]) := he
  rw [ex_shift] at he
  replace he : e = .returned (.tuple #[.int .i64 0, .int .i64 11, .int .i64 0]) := he
  subst he
  have D := below_al (below_al b)
  have R1 := Lib.hid (R1.out.below D)
  have R2 := Lib.hid (R2.out.below D)
  have R3 := Lib.hid (R3.out.below D)
  have R5 := Lib.hid (R5.out.below D)
  have R6 := Lib.hid (R6.out.below D)
  have B12 := Lib.hid (below_t B11.out D)
  clear h b D
  go_wp2_with fail
  refine (c81 w12).mono ?_
  rintro e w13 ⟨⟨p13, rfl, hr13⟩, b13⟩
  have h : Calls Tryz.prog 47 #[.agg #[.int .i64 10, .slice p13 4 4], .int .i64 0, .int .i64 8] w13 _ := c47_ok 10 p13 4 exO 0 8 w13 hr13 ex_mot (by decide) (by decide) (by decide)
  go_wp2_with fail
  refine (h).mono ?_
  rintro e w14 ⟨⟨p7, c7, he, hr⟩, b⟩
  have e1 : staF 10 exO 0 ((8 : Int) - 0 + 1).toNat = [1, 3, 5, 7] := ex_sta
  rw [e1] at he hr
  replace he : e = .returned (.tuple #[.slice p7 4 c7, .int .i64 0]) := he
  subst he
  have R7 := Lib.hid hr
  have D := below_t b13 b
  have R1 := Lib.hid (R1.out.below D)
  have R2 := Lib.hid (R2.out.below D)
  have R3 := Lib.hid (R3.out.below D)
  have R5 := Lib.hid (R5.out.below D)
  have R6 := Lib.hid (R6.out.below D)
  have B14 := Lib.hid (below_t B12.out D)
  clear h hr b b13 hr13 D e1
  go_wp2_with fail
  refine (c81 w14).mono ?_
  rintro e w15 ⟨⟨p15, rfl, hr15⟩, b15⟩
  have h : Calls Tryz.prog 51 #[.agg #[.int .i64 10, .slice p15 4 4], .int .i64 8] w15 _ := c51_ok 10 p15 4 exO 8 w15 hr15 ex_mot (by decide)
  go_wp2_with fail
  refine (h).mono ?_
  rintro e w16 ⟨he, b⟩
  have e1 : staF 10 exO 0 (8 + 1) = [1, 3, 5, 7] := ex_sta
  rw [e1] at he
  have e2 : retTo 10 exO [1, 3, 5, 7] (([1, 3, 5, 7] : List Int).length - 1) = ⟨2, 2, 10⟩ := ex_ret
  rw [e2] at he
  replace he : e = .returned (.tuple #[.int .i64 2, .int .i64 2, .int .i64 10, .int .i64 0]) := he
  subst he
  have D := below_t b15 b
  have R1 := Lib.hid (R1.out.below D)
  have R2 := Lib.hid (R2.out.below D)
  have R3 := Lib.hid (R3.out.below D)
  have R5 := Lib.hid (R5.out.below D)
  have R6 := Lib.hid (R6.out.below D)
  have R7 := Lib.hid (R7.out.below D)
  have B16 := Lib.hid (below_t B14.out D)
  clear h b b15 hr15 D e1 e2
  go_wp2_with fail
  refine (c81 w16).mono ?_
  rintro e w17 ⟨⟨p17, rfl, hr17⟩, b17⟩
  have h : Calls Tryz.prog 54 #[.agg #[.int .i64 10, .slice p17 4 4], .int .i64 20, .int .i64 8] w17 _ := c54_ok 10 p17 4 exO 20 8 w17 hr17 ex_mot (by decide) (by decide)
  go_wp2_with fail
  refine (h).mono ?_
  rintro e w18 ⟨⟨p9, c9, he, hr⟩, b⟩
  have e1 : passF 10 exO 20 (8 + 1) = [0, 2, 3] := ex_pass
  rw [e1] at he hr
  replace he : e = .returned (.tuple #[.slice p9 3 c9, .int .i64 0]) := he
  subst he
  have R9 := Lib.hid hr
  have D := below_t b17 b
  have R1 := Lib.hid (R1.out.below D)
  have R2 := Lib.hid (R2.out.below D)
  have R3 := Lib.hid (R3.out.below D)
  have R5 := Lib.hid (R5.out.below D)
  have R6 := Lib.hid (R6.out.below D)
  have R7 := Lib.hid (R7.out.below D)
  have B18 := Lib.hid (below_t B16.out D)
  clear h hr b b17 hr17 D e1
  go_wp2_with fail
  refine (c78 w18).mono ?_
  rintro e w19 ⟨rfl, b19⟩
  have h : Calls Tryz.prog 72 #[.agg #[.int .i64 0, .int .i64 10, .int .i64 2, .int .i64 24], .slice (some ⟨w19.heap.size + 1, 0, none⟩) 1 1] ((w19.alloc (.cells #[.int .i64 1, .int .i64 3, .int .i64 5, .int .i64 3] 3)).alloc (.cells #[.slice (some ⟨w19.heap.size, 0, none⟩) 4 4] 24)) _ :=
    c72 0 10 2 24 (some ⟨w19.heap.size + 1, 0, none⟩) 1 [[1, 3, 5, 3]] _ (rdc_lit w19 4) ⟨by decide, by decide⟩
  go_wp2_with fail
  refine (h).mono ?_
  rintro e w20 ⟨⟨tx, er, he, htx, her⟩, b⟩
  rw [if_pos (by decide)] at htx her
  rw [ex_text] at htx
  subst htx her he
  have D := below_t b19 (below_al (below_al b))
  have R1 := Lib.hid (R1.out.below D)
  have R2 := Lib.hid (R2.out.below D)
  have R3 := Lib.hid (R3.out.below D)
  have R5 := Lib.hid (R5.out.below D)
  have R6 := Lib.hid (R6.out.below D)
  have R7 := Lib.hid (R7.out.below D)
  have R9 := Lib.hid (R9.out.below D)
  have B20 := Lib.hid (below_t B18.out D)
  clear h b b19 D
  have h : Calls Tryz.prog 30 #[.slice p1 4 c1, .slice (some ⟨w20.heap.size, 0, none⟩) 4 4] (w20.alloc (.cells #[.int .i64 1, .int .i64 3, .int .i64 5, .int .i64 3] 3)) _ := same_lit p1 c1 [1, 3, 5, 3] w20 R1.out (by decide)
  go_wp2_with fail
  refine (h).mono ?_
  rintro e w21 ⟨rfl, D⟩
  have R2 := Lib.hid (R2.out.below D)
  have R3 := Lib.hid (R3.out.below D)
  have R5 := Lib.hid (R5.out.below D)
  have R6 := Lib.hid (R6.out.below D)
  have R7 := Lib.hid (R7.out.below D)
  have R9 := Lib.hid (R9.out.below D)
  have B21 := Lib.hid (below_t B20.out D)
  clear h D
  have h : Calls Tryz.prog 30 #[.slice p2 6 c2, .slice (some ⟨w21.heap.size, 0, none⟩) 6 6] (w21.alloc (.cells #[.int .i64 1, .int .i64 1, .int .i64 8, .int .i64 8, .int .i64 8, .int .i64 1] 3)) _ := same_lit p2 c2 [1, 1, 8, 8, 8, 1] w21 R2.out (by decide)
  go_wp2_with fail
  refine (h).mono ?_
  rintro e w22 ⟨rfl, D⟩
  have R3 := Lib.hid (R3.out.below D)
  have R5 := Lib.hid (R5.out.below D)
  have R6 := Lib.hid (R6.out.below D)
  have R7 := Lib.hid (R7.out.below D)
  have R9 := Lib.hid (R9.out.below D)
  have B22 := Lib.hid (below_t B21.out D)
  clear h D
  have h : Calls Tryz.prog 36 #[.slice (some ⟨g3, 0, none⟩) 4 4, .slice (some ⟨w22.heap.size, 0, none⟩) 4 4] (w22.alloc (.cells #[.int .i64 2, .int .i64 2, .int .i64 4, .int .i64 4, .int .i64 6, .int .i64 6, .int .i64 4, .int .i64 4] 50)) _ := same_spans (some ⟨g3, 0, none⟩) 4 [(2, 2), (4, 4), (6, 6), (4, 4)] w22 R3.out (by decide)
  go_wp2_with fail
  refine (h).mono ?_
  rintro e w23 ⟨rfl, D⟩
  have R5 := Lib.hid (R5.out.below D)
  have R6 := Lib.hid (R6.out.below D)
  have R7 := Lib.hid (R7.out.below D)
  have R9 := Lib.hid (R9.out.below D)
  have B23 := Lib.hid (below_t B22.out D)
  clear h D
  have h : Calls Tryz.prog 30 #[.slice p5 6 c5, .slice (some ⟨w23.heap.size, 0, none⟩) 6 6] (w23.alloc (.cells #[.int .i64 2, .int .i64 8, .int .i64 9, .int .i64 9, .int .i64 9, .int .i64 8] 3)) _ := same_lit p5 c5 [2, 8, 9, 9, 9, 8] w23 R5.out (by decide)
  go_wp2_with fail
  refine (h).mono ?_
  rintro e w24 ⟨rfl, D⟩
  have R6 := Lib.hid (R6.out.below D)
  have R7 := Lib.hid (R7.out.below D)
  have R9 := Lib.hid (R9.out.below D)
  have B24 := Lib.hid (below_t B23.out D)
  clear h D
  have h : Calls Tryz.prog 30 #[.slice p6 6 c6, .slice (some ⟨w24.heap.size, 0, none⟩) 6 6] (w24.alloc (.cells #[.int .i64 2, .int .i64 2, .int .i64 3, .int .i64 9, .int .i64 3, .int .i64 2] 3)) _ := same_lit p6 c6 [2, 2, 3, 9, 3, 2] w24 R6.out (by decide)
  go_wp2_with fail
  refine (h).mono ?_
  rintro e w25 ⟨rfl, D⟩
  have R7 := Lib.hid (R7.out.below D)
  have R9 := Lib.hid (R9.out.below D)
  have B25 := Lib.hid (below_t B24.out D)
  clear h D
  have h : Calls Tryz.prog 30 #[.slice p7 4 c7, .slice (some ⟨w25.heap.size, 0, none⟩) 4 4] (w25.alloc (.cells #[.int .i64 1, .int .i64 3, .int .i64 5, .int .i64 7] 3)) _ := same_lit p7 c7 [1, 3, 5, 7] w25 R7.out (by decide)
  go_wp2_with fail
  refine (h).mono ?_
  rintro e w26 ⟨rfl, D⟩
  have R9 := Lib.hid (R9.out.below D)
  have B26 := Lib.hid (below_t B25.out D)
  clear h D
  have h : Calls Tryz.prog 30 #[.slice p9 3 c9, .slice (some ⟨w26.heap.size, 0, none⟩) 3 3] (w26.alloc (.cells #[.int .i64 0, .int .i64 2, .int .i64 3] 3)) _ := same_lit p9 c9 [0, 2, 3] w26 R9.out (by decide)
  go_wp2_with fail
  refine (h).mono ?_
  rintro e w27 ⟨rfl, D⟩
  have B27 := Lib.hid (below_t B26.out D)
  clear h D
  go_wp2
  go_ret
  refine ⟨?_, B27.out⟩
  show Ending.returned (Value.bool (bookT.toList == [98, 111, 111, 107, 32, 48, 32, 49, 48, 32, 50, 32, 50, 52, 10, 99, 97, 109, 32, 49, 32, 51, 32, 53, 32, 51, 10, 101, 110, 100, 32, 48, 49, 51, 10])) = _
  rw [book_eq]
end Go.Proofs.YtncfgkhbenmpoaaGreatDoor
end
