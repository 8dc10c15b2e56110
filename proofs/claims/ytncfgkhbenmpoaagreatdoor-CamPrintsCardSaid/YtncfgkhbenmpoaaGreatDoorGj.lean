/-
  What the arguments of the laws read as; the frame that all claims of this seat share.
-/
import Derived.Test.YtncfgkhbenmpoaaGreatDoorGh
import Derived.Test.YtncfgkhbenmpoaaGreatDoorTie
import Derived.ProofKit
import Derived.OpenShut
import Derived.ShutString
import Derived.ChangeOld
import Derived.Lay
import Derived.SevenTiedAt
import Derived.Lib.SmallJoins
import Derived.Deep.Slices
import Derived.Deep.Matrix
section
namespace Go.Proofs.YtncfgkhbenmpoaaGreatDoor
open Go Go.ChangeShapes Go.WideShapes Go.ChangeAt Go.RowKit Go.Proofs
open Go.ChangeMaps (open_string shut_string)
set_option linter.unusedVariables false

theorem ownT : ownKnob Tryz.prog.godebug = none := by kernel_rfl
theorem laidOutT : laidOutB Tryz.prog = true := by kernel_rfl
def lay3 : List (String × DataW Unit) := [("math/bits.deBruijn32tab", Rows.laid_math_bits_deBruijn32tab), ("math/bits.deBruijn64tab", Rows.laid_math_bits_deBruijn64tab), ("internal/strconv.uint64pow10", Rows.laid_internal_strconv_uint64pow10)]
def LawPost (w : World) (e : Ending) (w' : World) : Prop := e = .returned (.bool true) ∧ Below w.heap.size w w'
theorem cells3 : Tryz.prog.cellsOf 3 = 1 := by kernel_rfl
theorem add_plain (b off i : Nat) : (⟨b, off, none⟩ : Addr).add i = ⟨b, off + i, none⟩ := by unfold Addr.add; split <;> simp_all
section
variable {H : Type} {enc : TypeId × Value → H} {W : World}
/-- a slice of numbers, out of its cells -/
theorem rd_ints {fuel : Nat} {cs : List Value} {x : DataW H × List MemPlace} (h : DataW.trod enc Tryz.prog W 0 (fun _ => true) true fuel 24 cs = some x) :
    ∃ p cap xs, cs = [.slice p (List.length xs) cap] ∧ RdI W p xs ∧ xs.length ≤ maxLen := by
  rcases open_ints Tryz.underlying24 Tryz.underlying3 cells3 h with ⟨hcs, _⟩ | ⟨a, l, c, zs, hcs, _, hl, hm, hz, _, hcell, _⟩
  · exact ⟨none, 0, [], hcs, .inl rfl, by simp⟩
  · have hzl : zs.length = c := by simpa using hz
    have hxl : (zs.take l).length = l := by rw [List.length_take]; omega
    refine ⟨some a, c, zs.take l, by rw [hxl]; exact hcs, ?_, by omega⟩
    rcases Nat.eq_zero_or_pos l with h0 | h0
    · left; rw [h0]; rfl
    · obtain ⟨b, off, spot⟩ := a
      have hc := hcell 0 (by omega)
      have hspot : spot = none := by simpa [Addr.add] using World.cell?_spot hc
      subst hspot
      refine .inr ⟨b, off, rfl, fun i hi => ?_⟩
      rw [hxl] at hi
      have := hcell i (by omega)
      rw [add_plain] at this
      rw [this]
      unfold gi
      rw [List.getD_eq_getElem?_getD, List.getD_eq_getElem?_getD, List.getElem?_take, if_pos hi]
set_option maxRecDepth 100000 in
theorem op24 {base : Nat} {v : Value} {d : DataW H} {ps : List MemPlace} (hv : Value.okWide Tryz.prog W .any base 24 v) (h : DataW.Trod enc Tryz.prog W 0 (fun _ => true) true 24 v d ps) :
    ∃ p cap xs, v = .slice p (List.length xs) cap ∧ RdI W p xs ∧ xs.length ≤ maxLen := by
  obtain ⟨a0, len, cap, rfl⟩ := okWide_slice Tryz.underlying24 hv
  obtain ⟨fuel, hf⟩ := h
  obtain ⟨p, c, xs, hcs, hr, hl⟩ := rd_ints hf
  simp [Value.cells] at hcs
  obtain ⟨rfl, rfl, rfl⟩ := hcs
  exact ⟨_, _, xs, rfl, hr, hl⟩
set_option maxRecDepth 100000 in
theorem op3 {base : Nat} {v : Value} {d : DataW H} {ps : List MemPlace} (hv : Value.okWide Tryz.prog W .any base 3 v) (h : DataW.Trod enc Tryz.prog W 0 (fun _ => true) true 3 v d ps) :
    ∃ x : Int, v = .int .i64 x ∧ -9223372036854775808 ≤ x ∧ x ≤ 9223372036854775807 := by
  obtain ⟨x, rfl, rfl, rfl, wx⟩ := open_int Tryz.underlying3 hv h
  exact ⟨x, rfl, bounds_i64 wx⟩
set_option maxRecDepth 100000 in
theorem op9 {base : Nat} {v : Value} {d : DataW H} {ps : List MemPlace} (hv : Value.okWide Tryz.prog W .any base 9 v) (h : DataW.Trod enc Tryz.prog W 0 (fun _ => true) true 9 v d ps) :
    ∃ s : ByteArray, v = .string s ∧ s.size ≤ maxLen := by
  obtain ⟨s, rfl, _, _, hs⟩ := open_string Tryz.underlying9 hv h
  exact ⟨s, rfl, hs⟩
theorem int_of {fuel : Nat} {v : Value} {x : DataW H × List MemPlace} (h : DataW.trod enc Tryz.prog W 0 (fun _ => true) true fuel 3 [v] = some x) : ∃ n : Int, v = .int .i64 n ∧ -9223372036854775808 ≤ n ∧ n ≤ 9223372036854775807 := by
  obtain ⟨n, hc, _, wn⟩ := DataW.trod_int Tryz.underlying3 h
  exact ⟨n, by simpa using hc, bounds_i64 wn⟩
theorem cells23 : Tryz.prog.cellsOf 23 = 4 := by kernel_rfl
theorem cells61 : Tryz.prog.cellsOf 61 = 2 := by kernel_rfl
theorem cells47 : Tryz.prog.cellsOf 47 = 3 := by kernel_rfl
theorem cells24 : Tryz.prog.cellsOf 24 = 1 := by kernel_rfl
set_option maxRecDepth 100000 in
theorem op23 {base : Nat} {v : Value} {d : DataW H} {ps : List MemPlace} (hv : Value.okWide Tryz.prog W .any base 23 v) (h : DataW.Trod enc Tryz.prog W 0 (fun _ => true) true 23 v d ps) :
    ∃ lo hi sl ch : Int, v = .agg #[.int .i64 lo, .int .i64 hi, .int .i64 sl, .int .i64 ch] := by
  obtain ⟨v0, v1, v2, v3, y0, y1, y2, y3, n, rfl, _, _, h0, h1, h2, h3⟩ := Joins.open_agg4 Tryz.underlying23 (by kernel_rfl) cells23 hv h
  obtain ⟨a, rfl, _⟩ := int_of h0
  obtain ⟨b, rfl, _⟩ := int_of h1
  obtain ⟨c, rfl, _⟩ := int_of h2
  obtain ⟨d, rfl, _⟩ := int_of h3
  exact ⟨a, b, c, d, rfl⟩
set_option maxRecDepth 100000 in
theorem op61 {base : Nat} {v : Value} {d : DataW H} {ps : List MemPlace} (hv : Value.okWide Tryz.prog W .any base 61 v) (h : DataW.Trod enc Tryz.prog W 0 (fun _ => true) true 61 v d ps) :
    ∃ (u : Int) (p : Option Addr) (cap : Nat) (o : List Int), v = .agg #[.int .i64 u, .slice p o.length cap] ∧ RdI W p o ∧ o.length ≤ maxLen := by
  obtain ⟨v0, v1, y0, y1, n, rfl, _, _, h0, h1⟩ := Joins.open_agg2 Tryz.underlying61 (by kernel_rfl) cells61 hv h
  obtain ⟨a, rfl, _⟩ := int_of h0
  obtain ⟨p, c, xs, hcs, hr, hl⟩ := rd_ints h1
  obtain rfl : v1 = .slice p xs.length c := by simpa using hcs
  exact ⟨a, p, c, xs, rfl, hr, hl⟩
set_option maxRecDepth 100000 in
theorem op47 {base : Nat} {v : Value} {d : DataW H} {ps : List MemPlace} (hv : Value.okWide Tryz.prog W .any base 47 v) (h : DataW.Trod enc Tryz.prog W 0 (fun _ => true) true 47 v d ps) :
    ∃ g : Gau, v = .agg #[.int .i64 g.step, .int .i64 g.height, .int .i64 g.off] := by
  obtain ⟨v0, v1, v2, y0, y1, y2, n, rfl, _, _, h0, h1, h2⟩ := Joins.open_agg3 Tryz.underlying47 (by kernel_rfl) cells47 hv h
  obtain ⟨a, rfl, _⟩ := int_of h0
  obtain ⟨b, rfl, _⟩ := int_of h1
  obtain ⟨c, rfl, _⟩ := int_of h2
  exact ⟨⟨a, b, c⟩, rfl⟩
set_option maxRecDepth 100000 in
theorem op35 {base : Nat} {v : Value} {d : DataW H} {ps : List MemPlace} (hv : Value.okWide Tryz.prog W .any base 35 v) (h : DataW.Trod enc Tryz.prog W 0 (fun _ => true) true 35 v d ps) :
    ∃ (p : Option Addr) (cap : Nat) (gs : List Gau), v = .slice p gs.length cap ∧ RdG W p gs ∧ gs.length ≤ maxLen := by
  obtain ⟨a0, len, cap, rfl⟩ := okWide_slice Tryz.underlying35 hv
  obtain ⟨fuel, hf⟩ := h
  rcases Deep.open_slice Tryz.underlying35 hf with ⟨hcs, _⟩ | ⟨a, l, c, m, n, D, Pl, hcs, _, hl, hm, hmm, _, hx⟩
  · simp [Value.cells] at hcs
    obtain ⟨rfl, rfl, rfl⟩ := hcs
    exact ⟨none, 0, [], rfl, .inl rfl, by simp⟩
  · simp [Value.cells] at hcs
    obtain ⟨rfl, rfl, rfl⟩ := hcs
    simp only [if_true] at hmm
    subst hmm
    rw [cells47] at hx
    have each : ∀ i, i < len → ∃ g : Gau, W.cell? (a.add (i * 3)) = some (.int .i64 g.step) ∧ W.cell? ((a.add (i * 3)).add 1) = some (.int .i64 g.height) ∧ W.cell? ((a.add (i * 3)).add 2) = some (.int .i64 g.off) := by
      intro i hi
      obtain ⟨cs', h1, h2⟩ := hx i (by omega)
      obtain ⟨_, hlen, hcell⟩ := World.cells?_some h1
      obtain ⟨y0, y1, y2, k, _, _, t0, t1, t2⟩ := Deep.trod_struct3 Tryz.underlying47 h2
      match cs', hlen with
      | [c0, c1, c2], _ =>
        simp only [cells3] at t0 t1 t2
        obtain ⟨x0, rfl, _⟩ := int_of (v := c0) t0
        obtain ⟨x1, rfl, _⟩ := int_of (v := c1) t1
        obtain ⟨x2, rfl, _⟩ := int_of (v := c2) t2
        refine ⟨⟨x0, x1, x2⟩, ?_, ?_, ?_⟩
        · have := hcell 0 (by omega)
          simpa [Addr.add] using this
        · exact hcell 1 (by omega)
        · exact hcell 2 (by omega)
    have hex : ∀ n, n ≤ len → ∃ gs : List Gau, gs.length = n ∧ ∀ i, i < n → W.cell? (a.add (i * 3)) = some (.int .i64 (gg gs i).step) ∧ W.cell? ((a.add (i * 3)).add 1) = some (.int .i64 (gg gs i).height) ∧ W.cell? ((a.add (i * 3)).add 2) = some (.int .i64 (gg gs i).off) := by
      intro n
      induction n with
      | zero => intro _; exact ⟨[], rfl, fun i hi => by omega⟩
      | succ n ih =>
        intro hn
        obtain ⟨gs, h1, h2⟩ := ih (by omega)
        obtain ⟨g, hg⟩ := each n (by omega)
        refine ⟨gs ++ [g], by simp [h1], fun i hi => ?_⟩
        rcases Nat.lt_or_ge i n with h | h
        · have e : gg (gs ++ [g]) i = gg gs i := by unfold gg; rw [List.getD_eq_getElem?_getD, List.getElem?_append_left (by omega), ← List.getD_eq_getElem?_getD]
          rw [e]; exact h2 i h
        · obtain rfl : i = n := by omega
          have e : gg (gs ++ [g]) i = g := by unfold gg; rw [List.getD_eq_getElem?_getD, List.getElem?_append_right (by omega), h1, Nat.sub_self]; rfl
          rw [e]; exact hg
    obtain ⟨gs, h1, h2⟩ := hex len (Nat.le_refl _)
    refine ⟨some a, _, gs, by rw [h1], ?_, by omega⟩
    rcases Nat.eq_zero_or_pos len with h0 | h0
    · left; exact List.length_eq_zero_iff.1 (by omega)
    · obtain ⟨b, off, spot⟩ := a
      have hc := (h2 0 h0).1
      have hspot : spot = none := by simpa [Addr.add] using World.cell?_spot hc
      subst hspot
      refine .inr ⟨b, off, rfl, fun i hi => ?_⟩
      have := h2 i (by omega)
      rw [add_plain, add_plain, add_plain] at this
      exact this
set_option maxRecDepth 100000 in
theorem op90 {base : Nat} {v : Value} {d : DataW H} {ps : List MemPlace} (hv : Value.okWide Tryz.prog W .any base 90 v) (h : DataW.Trod enc Tryz.prog W 0 (fun _ => true) true 90 v d ps) :
    ∃ (p : Option Addr) (cap : Nat) (css : List (List Int)), v = .slice p css.length cap ∧ RdC W p css ∧ css.length ≤ maxLen ∧ ∀ i, i < css.length → (gl css i).length ≤ maxLen := by
  obtain ⟨a0, len, cap, rfl⟩ := okWide_slice Tryz.underlying90 hv
  obtain ⟨fuel, hf⟩ := h
  rcases Deep.open_slice1 Tryz.underlying90 cells24 hf with ⟨hcs, _⟩ | ⟨a, l, c, m, n, V, D, Pl, hcs, _, hl, hm, hmm, _, hx⟩
  · simp [Value.cells] at hcs
    obtain ⟨rfl, rfl, rfl⟩ := hcs
    exact ⟨none, 0, [], rfl, .inl rfl, by simp, fun i hi => by simp at hi⟩
  · simp [Value.cells] at hcs
    obtain ⟨rfl, rfl, rfl⟩ := hcs
    simp only [if_true] at hmm
    subst hmm
    have each : ∀ i, i < len → ∃ (xs : List Int) (p : Option Addr) (k : Nat), W.cell? (a.add i) = some (.slice p xs.length k) ∧ RdI W p xs ∧ xs.length ≤ maxLen := by
      intro i hi
      obtain ⟨h1, h2⟩ := hx i (by omega)
      obtain ⟨p, k, xs, hcs, hr, hl⟩ := rd_ints h2
      have e : V i = .slice p xs.length k := by simpa using hcs
      exact ⟨xs, p, k, by rw [h1, e], hr, hl⟩
    have hex : ∀ n, n ≤ len → ∃ css : List (List Int), css.length = n ∧ ∀ i, i < n → ∃ (p : Option Addr) (k : Nat), W.cell? (a.add i) = some (.slice p (gl css i).length k) ∧ RdI W p (gl css i) ∧ (gl css i).length ≤ maxLen := by
      intro n
      induction n with
      | zero => intro _; exact ⟨[], rfl, fun i hi => by omega⟩
      | succ n ih =>
        intro hn
        obtain ⟨css, h1, h2⟩ := ih (by omega)
        obtain ⟨xs, hxs⟩ := each n (by omega)
        refine ⟨css ++ [xs], by simp [h1], fun i hi => ?_⟩
        rcases Nat.lt_or_ge i n with h | h
        · have e : gl (css ++ [xs]) i = gl css i := by unfold gl; rw [List.getD_eq_getElem?_getD, List.getElem?_append_left (by omega), ← List.getD_eq_getElem?_getD]
          rw [e]; exact h2 i h
        · obtain rfl : i = n := by omega
          have e : gl (css ++ [xs]) i = xs := by unfold gl; rw [List.getD_eq_getElem?_getD, List.getElem?_append_right (by omega), h1, Nat.sub_self]; rfl
          rw [e]; exact hxs
    obtain ⟨css, h1, h2⟩ := hex len (Nat.le_refl _)
    refine ⟨some a, _, css, by rw [h1], ?_, by omega, fun i hi => (h2 i (by omega)).elim fun p hp => hp.elim fun k hk => hk.2.2⟩
    rcases Nat.eq_zero_or_pos len with h0 | h0
    · left; omega
    · obtain ⟨b, off, spot⟩ := a
      obtain ⟨p, k, hc, _⟩ := h2 0 h0
      have hspot : spot = none := by simpa [Addr.add] using World.cell?_spot hc
      subst hspot
      refine .inr ⟨b, off, rfl, fun i hi => ?_⟩
      obtain ⟨p, k, hc, hr, _⟩ := h2 i (by omega)
      rw [add_plain] at hc
      exact ⟨p, k, hc, hr⟩
theorem trod_lt {t : TypeId} {v : Value} {d : DataW H} {ps : List MemPlace} (h : DataW.Trod enc Tryz.prog W 0 (fun _ => true) true t v d ps) : ∀ x ∈ ps, x.block < W.heap.size := by
  obtain ⟨m, hm⟩ := h
  exact DataW.trod_lt m _ _ _ hm
end
end Go.Proofs.YtncfgkhbenmpoaaGreatDoor
end
