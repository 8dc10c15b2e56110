/-
  The door of the panics, for texts: what is behind it, the door, and Read itself.
  Read (the walk).
  A text read as a book by the document (the walk).
  Books: how long they are, and what reading one answers (plain).
-/
import Derived.Test.YtncfgkhbenmpoaaGreatDoorGz
import Derived.Test.YtncfgkhbenmpoaaGreatDoorGg
import Derived.StillTailTactics
import Derived.Test.YtncfgkhbenmpoaaGreatDoorGj
section
namespace Go.Proofs.YtncfgkhbenmpoaaGreatDoor
open Go Go.RowKit Go.Proofs Go.Shelf
set_option linter.unusedVariables false

theorem as153_151 (v : Value) (w : World) : (Instr.typeAssert (.iface 153 v) 20 151 true).run Tryz.prog w = .ok (.tuple #[.agg #[.int .i64 0], .bool false]) w := by kernel_rfl
theorem as153 (v : Value) (w : World) : (Instr.typeAssert (.iface 153 v) 20 153 true).run Tryz.prog w = .ok (.tuple #[v, .bool true]) w := by kernel_rfl
theorem rep14 : Array.replicate 14 undef = #[undef, undef, undef, undef, undef, undef, undef, undef, undef, undef, undef, undef, undef, undef] := by rfl
set_option maxRecDepth 100000 in
set_option maxHeartbeats 1000000 in
theorem catch_none (p : Addr) (v0 : Value) (s : ByteArray) (older : List PanicEntry) (w : World) (hc : w.cell? p = some v0) (hz : w.frozen? p = false) :
    CallsD Tryz.prog 134 #[.pointer (some p)] (.panicking ({ v := .iface 153 (.agg #[.string s]), recovered := false } :: older)) w fun e u' w' =>
      e = .returned (.tuple #[]) ∧ u' = .panicking ({ v := .iface 153 (.agg #[.string s]), recovered := true } :: older) ∧ w' = (w.alloc (.cells #[.string s] 153)).setCell p (.int .i64 4) := by
  have hlt := lt_of_cellq hc
  have hne : p.block ≠ w.heap.size := by omega
  have ha := as153_151 (.agg #[.string s]) w
  have ha2 := as153 (.agg #[.string s]) w
  have hc2 := ((below_alloc1 w (.cells #[.string s] 153)).cell hlt).trans hc
  have hz2 := ((below_alloc1 w (.cells #[.string s] 153)).frozen hlt).trans hz
  refine callsD_of_wpS Tryz.func134 rfl fun c₀ cs hu => ?_
  apply wpS_seq
  apply wpS_region
  simp [wpOpsS, go_sem, recoverD, hu, Tryz.ntmps134, Exit.thenS, replicate13]
  refine wpS_of_wp ?_
  go_wp2
  simp [bodyPostS, results, Tryz.results134]

/-- what the function behind the door leaves -/
def InnerT (s : ByteArray) (Br Bc : Nat) (w : World) (e : Ending) (w' : World) : Prop :=
  ((∃ lo hi sl ch css p c hs, Bk s lo hi sl ch css ∧ e = .returned (.tuple #[]) ∧ w'.heap[Br]? = some (.cells #[.int .i64 lo, .int .i64 hi, .int .i64 sl, .int .i64 ch] 23) ∧ w'.cell? ⟨Bc, 0, none⟩ = some (.slice p css.length c) ∧ w'.ownsRow w.heap.size 24 1 (.slice p css.length c) css.length hs ∧ ElC w' w.heap.size css hs ∧ css.length ≤ 500 ∧ ∀ i, i < css.length → (gl css i).length ≤ 500) ∨
   ((∀ lo hi sl ch css, ¬ Bk s lo hi sl ch css) ∧ ∃ x, e = noneE x)) ∧ BelX (fun k => k = Br ∨ k = Bc) w.heap.size w w'

set_option maxRecDepth 100000 in
set_option maxHeartbeats 2000000 in
theorem c120 (s : ByteArray) (m : Int) (Bs Br Bc : Nat) (w : World) (hs : s.size ≤ 500) (hm : w.cell? ⟨1, 0, none⟩ = some (.int .i64 m)) (hI : ItoaR 1000 w)
    (ks : w.cell? ⟨Bs, 0, none⟩ = some (.string s)) (hr : w.heap[Br]? = some (.cells #[.int .i64 0, .int .i64 0, .int .i64 0, .int .i64 0] 23)) (hc : w.heap[Bc]? = some (.cells #[.slice none 0 0] 90)) (hne : Br ≠ Bc) :
    Calls Tryz.prog 120 #[.pointer (some ⟨Bs, 0, none⟩), .pointer (some ⟨Br, 0, none⟩), .pointer (some ⟨Bc, 0, none⟩)] w (InnerT s Br Bc w) := by
  have h121 := c121 s m w hs hm hI
  have HR := Lib.hid hr
  have HC := Lib.hid hc
  have HN := Lib.hid hne
  clear hs hm hI hr hc hne
  go_enter Tryz.func120, Tryz.ntmps120
  go_wp2_with fail
  refine h121.mono ?_
  rintro e w1 ⟨⟨lo, hi, sl, ch, css, p, c, hs, hb, rfl, ho, he, hl1, hl2⟩ | ⟨hno, x, he⟩, b1⟩
  · have hbr : Br < w.heap.size := (Array.getElem?_eq_some_iff.1 HR.out).1
    have hbc : Bc < w.heap.size := (Array.getElem?_eq_some_iff.1 HC.out).1
    have hr1 := (b1.block Br hbr).trans HR.out
    have hc1 := (b1.block Bc hbc).trans HC.out
    obtain ⟨x1, x2, x3, x4, s1, s2, s3, s4, ⟨c0, f0⟩, ⟨c1, f1⟩, ⟨c2, f2⟩, ⟨c3, f3⟩, hx4, hxk, hxz, hxb⟩ := set4 w1 Br 23 _ _ _ _ (.int .i64 lo) (.int .i64 hi) (.int .i64 sl) (.int .i64 ch) hr1
    have hc4 := (hxk Bc HN.out.symm).trans hc1
    have g0 : x4.cell? ⟨Bc, 0, none⟩ = some (.slice none 0 0) := by rw [cell_of_row _ _ _ _ _ _ hc4]; rfl
    have g1 : x4.frozen? ⟨Bc, 0, none⟩ = false := frozen_of_row _ _ _ _ _ hc4
    obtain ⟨x5, hx5⟩ : ∃ x5, x4.setCell ⟨Bc, 0, none⟩ (.slice p css.length c) = x5 := ⟨_, rfl⟩
    have HOUT := Lib.hid (show x5.heap[Br]? = some (.cells #[.int .i64 lo, .int .i64 hi, .int .i64 sl, .int .i64 ch] 23) ∧ x5.cell? ⟨Bc, 0, none⟩ = some (.slice p css.length c) ∧ (x5.ownsRow w.heap.size 24 1 (.slice p css.length c) css.length hs ∧ ElC x5 w.heap.size css hs) ∧ BelX (fun k => k = Br ∨ k = Bc) w.heap.size w x5 by
      have ho2 := own_set (own_set (own_set (own_set (own_set ho (p := ⟨Br, 0, none⟩) hbr (.int .i64 lo)) (p := ⟨Br, 1, none⟩) hbr (.int .i64 hi)) (p := ⟨Br, 2, none⟩) hbr (.int .i64 sl)) (p := ⟨Br, 3, none⟩) hbr (.int .i64 ch)) (p := ⟨Bc, 0, none⟩) hbc (.slice p css.length c)
      have he2 := ((((he.set (p := ⟨Br, 0, none⟩) hbr (.int .i64 lo)).set (p := ⟨Br, 1, none⟩) hbr (.int .i64 hi)).set (p := ⟨Br, 2, none⟩) hbr (.int .i64 sl)).set (p := ⟨Br, 3, none⟩) hbr (.int .i64 ch)).set (p := ⟨Bc, 0, none⟩) hbc (.slice p css.length c)
      rw [s1, s2, s3, s4, hx5] at ho2 he2
      refine ⟨?_, ?_, ⟨ho2, he2⟩, ?_⟩
      · rw [← hx5, Below.heap_setCell _ _ _ _ HN.out]; exact hx4
      · rw [← hx5]; exact World.cell?_setCell_same' _ _ _ (by rw [g0]; rfl)
      · rw [← hx5, ← s4, ← s3, ← s2, ← s1]
        exact (((((belX_of b1).setCell (p := ⟨Br, 0, none⟩) (.inl (.inl rfl)) _).setCell (p := ⟨Br, 1, none⟩) (.inl (.inl rfl)) _).setCell (p := ⟨Br, 2, none⟩) (.inl (.inl rfl)) _).setCell (p := ⟨Br, 3, none⟩) (.inl (.inl rfl)) _).setCell (p := ⟨Bc, 0, none⟩) (.inl (.inr rfl)) _)
    have HB := Lib.hid hb
    have HL := Lib.hid (And.intro hl1 hl2)
    clear h121 ho he hl1 hl2 hb b1 hr1 hc1 hx4 hxk hxz hxb hc4
    go_wp2
    refine bodyPost_end (results_none rfl _ _ _) rfl ?_
    exact ⟨.inl ⟨lo, hi, sl, ch, css, p, c, hs, HB.out, rfl, HOUT.out.1, HOUT.out.2.1, HOUT.out.2.2.1.1, HOUT.out.2.2.1.2, HL.out.1, HL.out.2⟩, HOUT.out.2.2.2⟩
  · unfold noneE at he
    subst he
    have HB := Lib.hid b1
    clear h121 b1
    go_wp2
    exact ⟨rfl, .inr ⟨hno, _, rfl⟩, belX_of HB.out⟩

def TriedT (s : ByteArray) (Br Bc : Nat) (w : World) (e : Ending) (w' : World) : Prop :=
  ((∃ lo hi sl ch css p c hs, Bk s lo hi sl ch css ∧ e = .returned (.int .i64 0) ∧ w'.heap[Br]? = some (.cells #[.int .i64 lo, .int .i64 hi, .int .i64 sl, .int .i64 ch] 23) ∧ w'.cell? ⟨Bc, 0, none⟩ = some (.slice p css.length c) ∧ w'.ownsRow w.heap.size 24 1 (.slice p css.length c) css.length hs ∧ ElC w' w.heap.size css hs ∧ css.length ≤ 500 ∧ ∀ i, i < css.length → (gl css i).length ≤ 500) ∨
   ((∀ lo hi sl ch css, ¬ Bk s lo hi sl ch css) ∧ e = .returned (.int .i64 4))) ∧ BelX (fun k => k = Br ∨ k = Bc) w.heap.size w w'
set_option maxRecDepth 100000 in
set_option maxHeartbeats 2000000 in
theorem c94t (s : ByteArray) (m : Int) (Bs Br Bc : Nat) (w : World) (hs : s.size ≤ 500) (hm : w.cell? ⟨1, 0, none⟩ = some (.int .i64 m)) (hI : ItoaR 1000 w)
    (ks : w.cell? ⟨Bs, 0, none⟩ = some (.string s)) (hr : w.heap[Br]? = some (.cells #[.int .i64 0, .int .i64 0, .int .i64 0, .int .i64 0] 23)) (hc : w.heap[Bc]? = some (.cells #[.slice none 0 0] 90)) (hne : Br ≠ Bc) :
    Calls Tryz.prog 94 #[.func (.func 120) #[] #[.pointer (some ⟨Bs, 0, none⟩), .pointer (some ⟨Br, 0, none⟩), .pointer (some ⟨Bc, 0, none⟩)]] w (TriedT s Br Bc w) := by
  have hmf : ∀ (fn : Fn) (first cap : Array Value) (w : World), (Instr.makeFunc fn first cap).run Tryz.prog w = .ok (.func fn first cap) w := fun _ _ _ _ => rfl
  obtain ⟨w0, e0, HS0, t0, F0, b0⟩ := box1 w (.int .i64 0) 27
  have hbr : Br < w.heap.size := (Array.getElem?_eq_some_iff.1 hr).1
  have hbc : Bc < w.heap.size := (Array.getElem?_eq_some_iff.1 hc).1
  have h120 := c120 s m Bs Br Bc w0 hs ((b0.cell (lt_of_cellq hm)).trans hm) (hI.below b0) ((b0.cell (lt_of_cellq ks)).trans ks) ((b0.block Br hbr).trans hr) ((b0.block Bc hbc).trans hc) hne
  have HBR := Lib.hid (And.intro hbr hbc)
  clear hs hm hI ks hr hc hne hbr hbc
  go_enter_defers Tryz.func94, Tryz.ntmps94
  go_wp2_with fail
  refine h120.mono ?_
  rintro e w1 ⟨⟨lo, hi, sl, ch, css, p, c, hs, hb, rfl, hr1, hc1, ho, he, hl1, hl2⟩ | ⟨hno, x, he⟩, b1⟩
  · have hs0 := HS0.out
    obtain ⟨hbr, hbc⟩ := HBR.out
    have t1 := (b1.cell (lt_of_cellq t0) (by show ¬ (w.heap.size = Br ∨ w.heap.size = Bc); omega)).trans t0
    have f1 := (b1.frozen (p := ⟨w.heap.size, 0, none⟩) (lt_of_cellq t0) (by show ¬ (w.heap.size = Br ∨ w.heap.size = Bc); omega)).trans F0.out
    clear hs0 hbr hbc
    go_wp2
    have hs0 := HS0.out
    obtain ⟨hbr, hbc⟩ := HBR.out
    have hB : BelX (fun k => k = Br ∨ k = Bc) w.heap.size w (w1.setCell ⟨w.heap.size, 0, none⟩ (.int .i64 0)) :=
      ((belX_of b0).trans (b1.mono (by omega))).setCell (p := ⟨w.heap.size, 0, none⟩) (.inr (Nat.le_refl _)) _
    have hq1 : (w1.setCell ⟨w.heap.size, 0, none⟩ (.int .i64 0)).cell? ⟨w.heap.size, 0, none⟩ = some (.int .i64 0) := World.cell?_setCell_same' _ _ _ (by rw [t1]; rfl)
    have hq2 : (w1.setCell ⟨w.heap.size, 0, none⟩ (.int .i64 0)).heap[Br]? = some (.cells #[.int .i64 lo, .int .i64 hi, .int .i64 sl, .int .i64 ch] 23) := (Below.heap_setCell _ _ _ _ (by show Br ≠ w.heap.size; omega)).trans hr1
    have hq3 : (w1.setCell ⟨w.heap.size, 0, none⟩ (.int .i64 0)).cell? ⟨Bc, 0, none⟩ = some (.slice p css.length c) := (World.cell?_of_block (w := w1) (Below.heap_setCell _ _ _ _ (by show Bc ≠ w.heap.size; omega))).trans hc1
    have hq4 := own_mono (own_set ho (p := ⟨w.heap.size, 0, none⟩) (by show w.heap.size < w0.heap.size; omega) (.int .i64 0)) (show w.heap.size ≤ w0.heap.size by omega)
    have hq5 := (he.set (p := ⟨w.heap.size, 0, none⟩) (by show w.heap.size < w0.heap.size; omega) (.int .i64 0)).mono (show w.heap.size ≤ w0.heap.size by omega)
    refine leaves_cons (f := 134) (args := #[.pointer (some ⟨w.heap.size, 0, none⟩)]) (by simp) (by simp [go_sem]) ?_
    refine (catch_idle ⟨w.heap.size, 0, none⟩ _).mono ?_
    rintro e u' w'' ⟨rfl, rfl, rfl⟩
    simp [Leaves, settle, results, Tryz.results94, go_sem, hq1]
    exact ⟨.inl ⟨lo, hi, sl, ch, css, p, c, hs, hb, rfl, hq2, hq3, hq4, hq5, hl1, hl2⟩, hB⟩
  · unfold noneE at he
    subst he
    have hs0 := HS0.out
    obtain ⟨hbr, hbc⟩ := HBR.out
    have t1 := (b1.cell (lt_of_cellq t0) (by show ¬ (w.heap.size = Br ∨ w.heap.size = Bc); omega)).trans t0
    have f1 := (b1.frozen (p := ⟨w.heap.size, 0, none⟩) (lt_of_cellq t0) (by show ¬ (w.heap.size = Br ∨ w.heap.size = Bc); omega)).trans F0.out
    clear hs0 hbr hbc
    go_wp2
    have hs0 := HS0.out
    have hB0 : BelX (fun k => k = Br ∨ k = Bc) w.heap.size w w1 := (belX_of b0).trans (b1.mono (by omega))
    have hW1 : w.heap.size < w1.heap.size := lt_of_cellq t1
    have hB : BelX (fun k => k = Br ∨ k = Bc) w.heap.size w ((w1.alloc (.cells #[.string x] 153)).setCell ⟨w.heap.size, 0, none⟩ (.int .i64 4)) :=
      (hB0.trans ((belX_of (below_alloc1 w1 _)).mono (by omega))).setCell (p := ⟨w.heap.size, 0, none⟩) (.inr (Nat.le_refl _)) _
    have hq1 : ((w1.alloc (.cells #[.string x] 153)).setCell ⟨w.heap.size, 0, none⟩ (.int .i64 4)).cell? ⟨w.heap.size, 0, none⟩ = some (.int .i64 4) := World.cell?_setCell_same' _ _ _ (by rw [((below_alloc1 w1 (.cells #[.string x] 153)).cell (lt_of_cellq t1)).trans t1]; rfl)
    refine leaves_cons (f := 134) (args := #[.pointer (some ⟨w.heap.size, 0, none⟩)]) (by simp) (by simp [go_sem]) ?_
    refine (catch_none ⟨w.heap.size, 0, none⟩ _ x [] _ t1 f1).mono ?_
    rintro e u' w'' ⟨rfl, rfl, rfl⟩
    simp [Leaves, settle, results, Tryz.results94, go_sem, hq1]
    exact ⟨.inr ⟨hno, rfl⟩, hB⟩
end Go.Proofs.YtncfgkhbenmpoaaGreatDoor
end

section
namespace Go.Proofs.YtncfgkhbenmpoaaGreatDoor
open Go Go.RowKit Go.Proofs Go.Shelf
set_option linter.unusedVariables false

def ReadR (s : ByteArray) (a b c d : Int) (css : List (List Int)) (er : Int) : Prop :=
  (((400 < s.size ∧ er = 3) ∨ (s.size ≤ 400 ∧ (∀ lo hi sl ch cs, ¬ Bk s lo hi sl ch cs) ∧ er = 4) ∨ (s.size ≤ 400 ∧ (∃ lo hi sl ch cs, Bk s lo hi sl ch cs ∧ (ruleB lo hi sl ch && camsB cs) = false) ∧ er = 2)) ∧ a = 0 ∧ b = 0 ∧ c = 0 ∧ d = 0 ∧ css = []) ∨
  (s.size ≤ 400 ∧ Bk s a b c d css ∧ (ruleB a b c d && camsB css) = true ∧ er = 0)
def ReadPost (s : ByteArray) (w : World) (e : Ending) (w' : World) : Prop :=
  (∃ a b c d css p cp er, e = .returned (.tuple #[.agg #[.int .i64 a, .int .i64 b, .int .i64 c, .int .i64 d], .slice p css.length cp, .int .i64 er]) ∧ RdC w' p css ∧ ReadR s a b c d css er) ∧ Below w.heap.size w w'

set_option maxRecDepth 100000 in
set_option maxHeartbeats 2000000 in
theorem c74 (s : ByteArray) (m : Int) (w : World) (hs : s.size ≤ 1000000) (hm : w.cell? ⟨1, 0, none⟩ = some (.int .i64 m)) (hI : ItoaR 1000 w) :
    Calls Tryz.prog 74 #[.string s] w (ReadPost s w) := by
  obtain ⟨w0, e0, HS0, t0, F0, b0⟩ := box1 w (.string s) 9
  obtain ⟨w1, e1, HS1, z0, z1, z2, z3, b1⟩ := box4 w0 (.int .i64 0) (.int .i64 0) (.int .i64 0) (.int .i64 0) 23
  have hz := HS0.out
  have hh1 : w1.heap[w0.heap.size]? = some (.cells #[.int .i64 0, .int .i64 0, .int .i64 0, .int .i64 0] 23) := by rw [← e1]; exact alloc_new w0 _
  have HH1 := Lib.hid hh1
  have HB1 := Lib.hid (b0.trans (b1.mono b0.size))
  have HI := Lib.hid hI
  have HM := Lib.hid hm
  have r1 := (b1.cell (lt_of_cellq t0)).trans t0
  have HZ := Lib.hid (show w.heap.size ≤ w0.heap.size from b0.size)
  clear hm hI hh1 z0 z1 z2 z3 b0 b1 t0 F0 hz
  by_cases h4 : s.size ≤ 400
  · have h4I : decide ((s.size : Int) > 400) = false := by simp; omega
    obtain ⟨w2, e2, HS2, z0, z1, z2, z3, b2⟩ := box4 w1 (.int .i64 0) (.int .i64 0) (.int .i64 0) (.int .i64 0) 23
    obtain ⟨w3, e3, HS3, t3, F3, b3⟩ := box1 w2 (.slice none 0 0) 90
    have hz1 := HS1.out
    have hz2 := HS2.out
    have hz3 := HS3.out
    have h01 : w0.heap.size < w1.heap.size := by omega
    have h12 : w1.heap.size < w2.heap.size := by omega
    have hh2 : w3.heap[w1.heap.size]? = some (.cells #[.int .i64 0, .int .i64 0, .int .i64 0, .int .i64 0] 23) := (b3.block _ (by omega)).trans (by rw [← e2]; exact alloc_new w1 _)
    have hh3 : w3.heap[w2.heap.size]? = some (.cells #[.slice none 0 0] 90) := by rw [← e3]; exact alloc_new w2 _
    have HH3 := Lib.hid (show w3.heap[w0.heap.size]? = some (.cells #[.int .i64 0, .int .i64 0, .int .i64 0, .int .i64 0] 23) from ((b2.trans (b3.mono b2.size)).block _ h01).trans HH1.out)
    have HB3 := Lib.hid (HB1.out.trans ((b2.trans (b3.mono b2.size)).mono HB1.out.size))
    have r3 := ((b2.trans (b3.mono b2.size)).cell (lt_of_cellq r1)).trans r1
    have h94 := c94t s m w.heap.size w1.heap.size w2.heap.size w3 (by omega) ((HB3.out.cell (lt_of_cellq HM.out)).trans HM.out) (HI.out.below HB3.out) r3 hh2 hh3 (by omega)
    have HLT := Lib.hid (show w.heap.size ≤ w0.heap.size ∧ w0.heap.size < w1.heap.size ∧ w1.heap.size < w2.heap.size ∧ w2.heap.size < w3.heap.size from ⟨HZ.out, h01, h12, by omega⟩)
    have H4 := Lib.hid h4
    clear hz1 hz2 hz3 h01 h12 hh2 hh3 z0 z1 z2 z3 b2 t3 F3 b3 r3 h4
    go_enter Tryz.func74, Tryz.ntmps74
    go_wp2_with fail
    refine h94.mono ?_
    rintro e w4 ⟨⟨lo, hi, sl, ch, css, p, c, hs, hb, rfl, hr1, hc1, ho, he, hl1, hl2⟩ | ⟨hno, rfl⟩, b4⟩
    · obtain ⟨l0, l1, l2, l3⟩ := HLT.out
      have hh4 : w4.heap[w0.heap.size]? = some (.cells #[.int .i64 0, .int .i64 0, .int .i64 0, .int .i64 0] 23) := (b4.block _ (by omega) (by show ¬ (w0.heap.size = w1.heap.size ∨ w0.heap.size = w2.heap.size); omega)).trans HH3.out
      have HB4 := Lib.hid (HB3.out.trans (b4.below (by omega) (fun k hk => by show w.heap.size ≤ k; rcases hk with rfl | rfl <;> omega)))
      obtain ⟨p', c', hv, hrd⟩ := rdc_of_own ho he
      cases hv
      obtain ⟨q0, q1, q2, q3⟩ := cells4 hr1
      have h82 := c82 lo hi sl ch w4
      have HO := Lib.hid ho
      have HE := Lib.hid he
      have HL03 := Lib.hid (show w0.heap.size < w3.heap.size by omega)
      clear l0 l1 l2 l3 b4 h94 e0 e1 e2 e3 ho he hr1
      cases hru : ruleB lo hi sl ch with
      | false =>
        rw [hru] at h82
        have HF := Lib.hid (show (ruleB lo hi sl ch && camsB css) = false by rw [hru]; rfl)
        clear hru
        go_wp2_with fail
        refine h82.mono ?_
        rintro e w5 ⟨rfl, b5⟩
        have HB5 := Lib.hid (HB4.out.trans (b5.mono HB4.out.size))
        have HH5 := Lib.hid ((b5.block _ (Array.getElem?_eq_some_iff.1 hh4).1).trans hh4)
        clear b5 hh4 hc1 q0 q1 q2 q3 h82
        obtain ⟨x1, x2, x3, x4, s1, s2, s3, s4, ⟨c0, f0⟩, ⟨c1, f1⟩, ⟨c2, f2⟩, ⟨c3, f3⟩, hx4, hxk, hxz, hxb⟩ := set4 w5 w0.heap.size 23 _ _ _ _ (.int .i64 0) (.int .i64 0) (.int .i64 0) (.int .i64 0) HH5.out
        have HXB := Lib.hid (hxb w w.heap.size HZ.out HB5.out)
        obtain ⟨k0, k1, k2, k3⟩ := cells4 hx4
        clear hx4 hxk hxz hxb
        go_wp2
        refine bodyPost_ret (v := .tuple #[.agg #[.int .i64 0, .int .i64 0, .int .i64 0, .int .i64 0], .slice none 0 0, .int .i64 2]) (by simp [results, Tryz.results74, go_sem, k0, k1, k2, k3]) rfl ?_
        exact ⟨⟨0, 0, 0, 0, [], none, 0, 2, rfl, .inl rfl, .inl ⟨.inr (.inr ⟨H4.out, ⟨lo, hi, sl, ch, css, hb, HF.out⟩, rfl⟩), rfl, rfl, rfl, rfl, rfl⟩⟩, HXB.out⟩
      | true =>
        rw [hru] at h82
        have HRU := Lib.hid hru
        clear hru
        go_wp2_with fail
        refine h82.mono ?_
        rintro e w5 ⟨rfl, b5⟩
        have HB5 := Lib.hid (HB4.out.trans (b5.mono HB4.out.size))
        have HH5 := Lib.hid ((b5.block _ (Array.getElem?_eq_some_iff.1 hh4).1).trans hh4)
        have hc5 := (b5.cell (lt_of_cellq hc1)).trans hc1
        have p0 := (b5.cell (lt_of_cellq q0)).trans q0
        have p1 := (b5.cell (lt_of_cellq q1)).trans q1
        have p2 := (b5.cell (lt_of_cellq q2)).trans q2
        have p3 := (b5.cell (lt_of_cellq q3)).trans q3
        have HRC := Lib.hid (hrd.below b5)
        have HO5 := Lib.hid (own_kept HO.out b5)
        have HE5 := Lib.hid (HE.out.below b5)
        have h118 := c118 p c css w5 HRC.out ⟨by omega, fun i hi' => by have := hl2 i hi'; omega⟩
        clear b5 hh4 hc1 q0 q1 q2 q3 h82 hrd hl1 hl2
        cases hca : camsB css with
        | false =>
          rw [hca] at h118
          have HF := Lib.hid (show (ruleB lo hi sl ch && camsB css) = false by rw [HRU.out, hca]; rfl)
          clear hca
          go_wp2_with fail
          refine h118.mono ?_
          rintro e w' ⟨rfl, rfl⟩
          clear h118
          obtain ⟨x1, x2, x3, x4, s1, s2, s3, s4, ⟨c0, f0⟩, ⟨c1, f1⟩, ⟨c2, f2⟩, ⟨c3, f3⟩, hx4, hxk, hxz, hxb⟩ := set4 w5 w0.heap.size 23 _ _ _ _ (.int .i64 0) (.int .i64 0) (.int .i64 0) (.int .i64 0) HH5.out
          have HXB := Lib.hid (hxb w w.heap.size HZ.out HB5.out)
          obtain ⟨k0, k1, k2, k3⟩ := cells4 hx4
          clear hx4 hxk hxz hxb
          go_wp2
          refine bodyPost_ret (v := .tuple #[.agg #[.int .i64 0, .int .i64 0, .int .i64 0, .int .i64 0], .slice none 0 0, .int .i64 2]) (by simp [results, Tryz.results74, go_sem, k0, k1, k2, k3]) rfl ?_
          exact ⟨⟨0, 0, 0, 0, [], none, 0, 2, rfl, .inl rfl, .inl ⟨.inr (.inr ⟨H4.out, ⟨lo, hi, sl, ch, css, hb, HF.out⟩, rfl⟩), rfl, rfl, rfl, rfl, rfl⟩⟩, HXB.out⟩
        | true =>
          rw [hca] at h118
          have HF := Lib.hid (show (ruleB lo hi sl ch && camsB css) = true by rw [HRU.out, hca]; rfl)
          clear hca
          go_wp2_with fail
          refine h118.mono ?_
          rintro e w' ⟨rfl, rfl⟩
          clear h118
          have bd : Below w5.heap.size w5 w5.drew := (Below.refl _ _).drew
          obtain ⟨x1, x2, x3, x4, s1, s2, s3, s4, ⟨c0, f0⟩, ⟨c1, f1⟩, ⟨c2, f2⟩, ⟨c3, f3⟩, hx4, hxk, hxz, hxb⟩ := set4 w5.drew w0.heap.size 23 _ _ _ _ (.int .i64 lo) (.int .i64 hi) (.int .i64 sl) (.int .i64 ch) HH5.out
          have HS := Lib.hid (show x4.cell? ⟨w1.heap.size, 0, none⟩ = some (.int .i64 lo) ∧ x4.cell? ⟨w1.heap.size, 1, none⟩ = some (.int .i64 hi) ∧ x4.cell? ⟨w1.heap.size, 2, none⟩ = some (.int .i64 sl) ∧ x4.cell? ⟨w1.heap.size, 3, none⟩ = some (.int .i64 ch) ∧ x4.cell? ⟨w2.heap.size, 0, none⟩ = some (.slice p css.length c) by
            have h1 := hxk w1.heap.size (by have := HLT.out; omega)
            have h2 := hxk w2.heap.size (by have := HLT.out; omega)
            exact ⟨(World.cell?_of_block (w := w5) h1).trans p0, (World.cell?_of_block (w := w5) h1).trans p1, (World.cell?_of_block (w := w5) h1).trans p2, (World.cell?_of_block (w := w5) h1).trans p3, (World.cell?_of_block (w := w5) h2).trans hc5⟩)
          go_wp2_with fail
          go_region_held3 (fun w' => w'.cell? ⟨w1.heap.size, 0, none⟩ = some (.int .i64 lo) ∧ w'.cell? ⟨w1.heap.size, 1, none⟩ = some (.int .i64 hi) ∧ w'.cell? ⟨w1.heap.size, 2, none⟩ = some (.int .i64 sl) ∧ w'.cell? ⟨w1.heap.size, 3, none⟩ = some (.int .i64 ch) ∧ w'.cell? ⟨w2.heap.size, 0, none⟩ = some (.slice p css.length c)) (first | exact ⟨p0, p1, p2, p3, hc5⟩ | exact HS.out) (fail)
          have HB6 := Lib.hid (HB5.out.trans (bd.mono HB5.out.size))
          have HO6 := Lib.hid (own_kept HO5.out bd)
          have HE6 := Lib.hid (HE5.out.below bd)
          clear bd hc5 p0 p1 p2 p3
          have HXB := Lib.hid (hxb w w.heap.size HZ.out HB6.out)
          have HXR := Lib.hid (show RdC x4 p css by
            have ho := own_set (own_set (own_set (own_set HO6.out (p := ⟨w0.heap.size, 0, none⟩) HL03.out (.int .i64 lo)) (p := ⟨w0.heap.size, 1, none⟩) HL03.out (.int .i64 hi)) (p := ⟨w0.heap.size, 2, none⟩) HL03.out (.int .i64 sl)) (p := ⟨w0.heap.size, 3, none⟩) HL03.out (.int .i64 ch)
            have he := (((HE6.out.set (p := ⟨w0.heap.size, 0, none⟩) HL03.out (.int .i64 lo)).set (p := ⟨w0.heap.size, 1, none⟩) HL03.out (.int .i64 hi)).set (p := ⟨w0.heap.size, 2, none⟩) HL03.out (.int .i64 sl)).set (p := ⟨w0.heap.size, 3, none⟩) HL03.out (.int .i64 ch)
            rw [s1, s2, s3, s4] at ho he
            obtain ⟨p', c', hv, hr⟩ := rdc_of_own ho he
            cases hv
            exact hr)
          obtain ⟨k0, k1, k2, k3⟩ := cells4 hx4
          clear hx4 hxk hxz hxb
          go_wp2
          refine bodyPost_ret (v := .tuple #[.agg #[.int .i64 lo, .int .i64 hi, .int .i64 sl, .int .i64 ch], .slice p css.length c, .int .i64 0]) (by simp [results, Tryz.results74, go_sem, k0, k1, k2, k3]) rfl ?_
          exact ⟨⟨lo, hi, sl, ch, css, p, c, 0, rfl, HXR.out, .inr ⟨H4.out, hb, HF.out, rfl⟩⟩, HXB.out⟩
    · obtain ⟨l0, l1, l2, l3⟩ := HLT.out
      have hh4 : w4.heap[w0.heap.size]? = some (.cells #[.int .i64 0, .int .i64 0, .int .i64 0, .int .i64 0] 23) := (b4.block _ (by omega) (by show ¬ (w0.heap.size = w1.heap.size ∨ w0.heap.size = w2.heap.size); omega)).trans HH3.out
      obtain ⟨x1, x2, x3, x4, s1, s2, s3, s4, ⟨c0, f0⟩, ⟨c1, f1⟩, ⟨c2, f2⟩, ⟨c3, f3⟩, hx4, hxk, hxz, hxb⟩ := set4 w4 w0.heap.size 23 _ _ _ _ (.int .i64 0) (.int .i64 0) (.int .i64 0) (.int .i64 0) hh4
      have HXB := Lib.hid (hxb w w.heap.size l0 (HB3.out.trans (b4.below (by omega) (fun k hk => by show w.heap.size ≤ k; rcases hk with rfl | rfl <;> omega))))
      obtain ⟨k0, k1, k2, k3⟩ := cells4 hx4
      clear l0 l1 l2 l3 hh4 hx4 hxk hxz hxb b4 h94 e0 e1 e2 e3
      go_wp2
      refine bodyPost_ret (v := .tuple #[.agg #[.int .i64 0, .int .i64 0, .int .i64 0, .int .i64 0], .slice none 0 0, .int .i64 4]) (by simp [results, Tryz.results74, go_sem, k0, k1, k2, k3]) rfl ?_
      exact ⟨⟨0, 0, 0, 0, [], none, 0, 4, rfl, .inl rfl, .inl ⟨.inr (.inl ⟨H4.out, hno, rfl⟩), rfl, rfl, rfl, rfl, rfl⟩⟩, HXB.out⟩
  · have h4I : decide ((s.size : Int) > 400) = true := by simp; omega
    have H4 := Lib.hid h4
    obtain ⟨x1, x2, x3, x4, s1, s2, s3, s4, ⟨c0, f0⟩, ⟨c1, f1⟩, ⟨c2, f2⟩, ⟨c3, f3⟩, hx4, hxk, hxz, hxb⟩ := set4 w1 w0.heap.size 23 _ _ _ _ (.int .i64 0) (.int .i64 0) (.int .i64 0) (.int .i64 0) HH1.out
    have HXB := Lib.hid (hxb w w.heap.size HZ.out HB1.out)
    obtain ⟨k0, k1, k2, k3⟩ := cells4 hx4
    clear h4 hx4 hxk hxz hxb
    go_enter Tryz.func74, Tryz.ntmps74
    go_wp2_with fail
    refine bodyPost_ret (v := .tuple #[.agg #[.int .i64 0, .int .i64 0, .int .i64 0, .int .i64 0], .slice none 0 0, .int .i64 3]) (by simp [results, Tryz.results74, go_sem, k0, k1, k2, k3]) rfl ?_
    exact ⟨⟨0, 0, 0, 0, [], none, 0, 3, rfl, .inl rfl, .inl ⟨.inl ⟨by have := H4.out; omega, rfl⟩, rfl, rfl, rfl, rfl, rfl⟩⟩, HXB.out⟩
end Go.Proofs.YtncfgkhbenmpoaaGreatDoor
end

section
namespace Go.Proofs.YtncfgkhbenmpoaaGreatDoor
open Go Go.RowKit Go.Proofs Go.Shelf
set_option linter.unusedVariables false

def RefR (s : ByteArray) (a b c d : Int) (css : List (List Int)) (is : Bool) : Prop :=
  (is = false ∧ (∀ lo hi sl ch cs, ¬ Bk s lo hi sl ch cs) ∧ a = 0 ∧ b = 0 ∧ c = 0 ∧ d = 0 ∧ css = []) ∨ (is = true ∧ Bk s a b c d css ∧ css.length ≤ 500 ∧ ∀ i, i < css.length → (gl css i).length ≤ 500)
def RefPost (s : ByteArray) (w : World) (e : Ending) (w' : World) : Prop :=
  (∃ a b c d css p cp is, e = .returned (.tuple #[.agg #[.int .i64 a, .int .i64 b, .int .i64 c, .int .i64 d], .slice p css.length cp, .bool is]) ∧ RdC w' p css ∧ RefR s a b c d css is) ∧ Below w.heap.size w w'
theorem stR_ok {rows : List ByteArray} (h : ∀ i, i < rows.length → (rows.getD i ByteArray.empty).size ≤ 500) : ∀ k st, k ≤ rows.length → stR rows k = some st → RstOk st k := by
  intro k
  induction k with
  | zero =>
    intro st _ e
    cases e
    exact ⟨small4.2 ⟨⟨Int.le_refl 0, by decide⟩, ⟨Int.le_refl 0, by decide⟩, ⟨Int.le_refl 0, by decide⟩, ⟨Int.le_refl 0, by decide⟩⟩, Nat.le_refl _, fun i hi => absurd hi (Nat.not_lt_zero _)⟩
  | succ k ih =>
    intro st hk e
    rw [stR] at e
    cases h0 : stR rows k with
    | none => rw [h0] at e; cases e
    | some st0 =>
      rw [h0] at e
      exact stepR_ok (ih st0 (by omega) h0) (h k (by omega)) e
theorem stR_next {rows : List ByteArray} {k : Nat} {st : Rst} {r : ByteArray} (h : stR rows k = some st) (hr : rows.getD k ByteArray.empty = r) : stR rows (k + 1) = stepR st r := by
  rw [stR, h, hr]; rfl
theorem stepR_num {st : Rst} {r : ByteArray} {j : Nat} (hj : j < (partsF 32 r).tail.length) (h : numF ((partsF 32 r).tail.getD j ByteArray.empty) = -1) : stepR st r = none := by
  unfold stepR; rw [if_neg fun hc => hc j hj h]
theorem stepR_cam {st : Rst} {r : ByteArray} (h : NumsOk (partsF 32 r).tail) (hw : headP (partsF 32 r) = camW) : stepR st r = some { st with l := st.l ++ [(partsF 32 r).tail.map numF] } := by
  unfold stepR; rw [if_pos h, if_pos hw]
theorem stepR_book {st : Rst} {r : ByteArray} {xs : List Int} (h : NumsOk (partsF 32 r).tail) (hw : headP (partsF 32 r) = bookW) (hx : (partsF 32 r).tail.map numF = xs) (hl : xs.length = 4) : stepR st r = some { st with a := gi xs 0, b := gi xs 1, c := gi xs 2, d := gi xs 3 } := by
  have hl4 : (partsF 32 r).tail.length = 4 := by rw [← hl, ← hx, List.length_map]
  unfold stepR; rw [if_pos h, if_neg (by rw [hw]; decide), if_pos ⟨hw, hl4⟩, hx]
theorem stepR_else {st : Rst} {r : ByteArray} (hw : headP (partsF 32 r) ≠ camW) (hb : headP (partsF 32 r) = bookW → (partsF 32 r).tail.length ≠ 4) : stepR st r = none := by
  unfold stepR
  by_cases h : NumsOk (partsF 32 r).tail
  · rw [if_pos h, if_neg hw, if_neg fun hc => hb hc.1 hc.2]
  · rw [if_neg h]
theorem camL : camW.toList = [99, 97, 109] := by rw [ByteArray.toList_eq]; rfl
theorem bookL : bookW.toList = [98, 111, 111, 107] := by rw [ByteArray.toList_eq]; rfl
theorem beq_ba {a b : ByteArray} (h : a ≠ b) : (a.toList == b.toList) = false := by
  rw [beq_eq_false_iff_ne]
  intro e
  exact h (ByteArray.ext (Array.ext' (by simpa [ByteArray.toList_eq] using e)))
theorem beq_bat {a b : ByteArray} (h : a = b) : (a.toList == b.toList) = true := by rw [h]; exact beq_self_eq_true _

set_option maxRecDepth 100000 in
set_option maxHeartbeats 4000000 in
theorem c77 (s : ByteArray) (w : World) (hs : s.size ≤ 500) : Calls Tryz.prog 77 #[.string s] w (RefPost s w) := by
  obtain ⟨w0, e0, HS0, _, _, _, _, b0⟩ := box4 w (.int .i64 0) (.int .i64 0) (.int .i64 0) (.int .i64 0) 23
  obtain ⟨w1, e1, HS1, _, _, _, _, b1⟩ := box4 w0 (.int .i64 0) (.int .i64 0) (.int .i64 0) (.int .i64 0) 23
  have hh0 : w1.heap[w.heap.size]? = some (.cells #[.int .i64 0, .int .i64 0, .int .i64 0, .int .i64 0] 23) := (b1.block _ (by have := HS0.out; omega)).trans (by rw [← e0]; exact alloc_new w _)
  have hh1 : w1.heap[w0.heap.size]? = some (.cells #[.int .i64 0, .int .i64 0, .int .i64 0, .int .i64 0] 23) := by rw [← e1]; exact alloc_new w0 _
  have h124 := c124 s 10 10 rfl (by omega) w1
  have HB1 := Lib.hid (b0.trans (b1.mono b0.size))
  have HLT := Lib.hid (show w.heap.size < w0.heap.size ∧ w0.heap.size < w1.heap.size from ⟨by have := HS0.out; omega, by have := HS1.out; omega⟩)
  have HH0 := Lib.hid hh0
  have HH1 := Lib.hid hh1
  have HPC := Lib.hid (show (partsF 10 s).length ≤ 501 by have := parts_count 10 s; omega)
  have HPS := Lib.hid (show ∀ i, i < (partsF 10 s).length → ((partsF 10 s).getD i ByteArray.empty).size ≤ 500 from fun i hi => by have := part_size (getD_mem hi); omega)
  obtain ⟨i0, hi0, hy0, hy1, hy2⟩ := info_parts info24
  obtain ⟨j0, hj0, hx0, hx1, hx2⟩ := info_parts info3
  obtain ⟨ps, hpe⟩ : ∃ ps, partsF 10 s = ps := ⟨_, rfl⟩
  obtain ⟨n, hn⟩ : ∃ n, ps.length = n := ⟨_, rfl⟩
  rw [hpe] at h124 HPC HPS
  rw [hn] at h124 HPC HPS
  have HN := Lib.hid hn
  have HPE := Lib.hid (show rowsF s = ps from hpe)
  clear hpe hn b0 b1 hh0 hh1 hs
  go_enter Tryz.func77, Tryz.ntmps77
  go_wp2_with fail
  refine h124.mono ?_
  rintro e w2 ⟨⟨g, cap, hg, rfl, hrd⟩, b2⟩
  have HB2 := Lib.hid (HB1.out.trans (b2.mono HB1.out.size))
  have HCE := Lib.hid (show ∀ i, i < n → w2.cell? ⟨g, i, none⟩ = some (.string (ps.getD i ByteArray.empty)) from fun i hi => by
    obtain ⟨b, hb, hc⟩ := hrd
    cases hb
    exact hc i (by rw [HN.out]; exact hi))
  have HG := Lib.hid (show w0.heap.size < g by have := HLT.out; omega)
  have HH02 := Lib.hid (show w2.heap[w.heap.size]? = some (.cells #[.int .i64 0, .int .i64 0, .int .i64 0, .int .i64 0] 23) from (b2.block _ (by have := HLT.out; omega)).trans HH0.out)
  have HH12 := Lib.hid (show w2.heap[w0.heap.size]? = some (.cells #[.int .i64 0, .int .i64 0, .int .i64 0, .int .i64 0] 23) from (b2.block _ (by have := HLT.out; omega)).trans HH1.out)
  have HL2 := Lib.hid (show w1.heap.size ≤ w2.heap.size from b2.size)
  clear hrd b2 hg h124 e0 e1
  have hn5 := HPC.out
  go_wp2_with fail
  go_loopw [6, 8] (fun v i wr => ∃ (k : Nat) (st : Rst) (hs : List Value), (k : Int) ≤ max 0 ((n : Int) - 2) ∧ i = .int .i64 k ∧ Hid (stR ps k = some st) ∧ Hid (wr.ownsRow w2.heap.size 24 1 v st.l.length hs) ∧ Hid (ElC wr w2.heap.size st.l hs) ∧
      Hid (wr.heap[w0.heap.size]? = some (.cells #[.int .i64 st.a, .int .i64 st.b, .int .i64 st.c, .int .i64 st.d] 23)) ∧ Hid (BelX (fun k => k = w0.heap.size) w2.heap.size w2 wr)) (fun _ i _ => n - (intOf i).toNat)
  case atStart => exact ⟨0, ⟨0, 0, 0, 0, []⟩, [], by omega, rfl, Lib.hid rfl, Lib.hid (World.ownsRow_nil _ _ _ _), Lib.hid (ElC.nil _ _ _), HH12, Lib.hid (BelX.refl _ _ _)⟩
  case round =>
    obtain ⟨k, st, hs, hk, rfl, HST, HO, HE, HH, HX⟩ := hrel
    have HBW := Lib.hid (show Below w.heap.size w wr from HB2.out.trans (HX.out.below (by have := HB2.out.size; omega) (fun k hk => by subst hk; have := HLT.out; omega)))
    have hrz : wr.heap[w.heap.size]? = some (.cells #[.int .i64 0, .int .i64 0, .int .i64 0, .int .i64 0] 23) := (HX.out.block _ (by have := HL2.out; have := HLT.out; omega) (by have := HLT.out; omega)).trans HH02.out
    have HRZ := Lib.hid hrz
    clear hrz
    by_cases hlt : (k : Int) < (n : Int) - 2
    · have hltI : decide ((k : Int) < (n : Int) - 2) = true := decide_eq_true hlt
      have hcell := HCE.out k (by omega)
      have f1 := (HX.out.cell (p := ⟨g, k, none⟩) (lt_of_cellq hcell) (by have := HG.out; show ¬ (g = w0.heap.size); omega)).trans hcell
      have hpz := HPS.out k (by omega)
      obtain ⟨r, hr⟩ : ∃ r, ps.getD k ByteArray.empty = r := ⟨_, rfl⟩
      rw [hr] at f1 hpz
      have HR := Lib.hid hr
      have HNEXT := Lib.hid (stR_next HST.out hr)
      have h124 := c124 r 32 32 rfl (by omega) wr
      have HWC := Lib.hid (show (partsF 32 r).length ≤ 501 by have := parts_count 32 r; omega)
      obtain ⟨ws, hwe⟩ : ∃ ws, partsF 32 r = ws := ⟨_, rfl⟩
      obtain ⟨m, hm⟩ : ∃ m, ws.length = m + 1 := ⟨ws.length - 1, by have := partsF_len 32 r; rw [hwe] at this; omega⟩
      rw [hwe] at h124 HWC
      rw [hm] at h124 HWC
      have HWE := Lib.hid hwe
      have HM := Lib.hid hm
      clear hcell hr hwe hm hpz
      go_wp2_with fail
      refine h124.mono ?_
      rintro e w3 ⟨⟨g3, cap3, hg3, rfl, hrd⟩, b3⟩
      have HWD := Lib.hid (show ∀ i, i < m + 1 → w3.cell? ⟨g3, i, none⟩ = some (.string (ws.getD i ByteArray.empty)) from fun i hi => by
        obtain ⟨b, hb, hc⟩ := hrd
        cases hb
        exact hc i (by rw [HM.out]; exact hi))
      have HB3 := Lib.hid b3
      clear hrd b3 h124 f1 hg3
      have hm5 := HWC.out
      have HBW3 := Lib.hid (HBW.out.trans (HB3.out.mono HBW.out.size))
      have HZ3 := Lib.hid (show w3.heap[w.heap.size]? = some (.cells #[.int .i64 0, .int .i64 0, .int .i64 0, .int .i64 0] 23) from (HB3.out.block _ (Array.getElem?_eq_some_iff.1 HRZ.out).1).trans HRZ.out)
      have HO3 := Lib.hid (own_kept HO.out HB3.out)
      have HE3 := Lib.hid (HE.out.below HB3.out)
      have HH3 := Lib.hid ((HB3.out.block _ (Array.getElem?_eq_some_iff.1 HH.out).1).trans HH.out)
      have HX3 := Lib.hid (HX.out.trans ((belX_of HB3.out).mono HX.out.size))
      obtain ⟨tl, htl⟩ : ∃ tl, ws.tail = tl := ⟨_, rfl⟩
      have HTL := Lib.hid (show (partsF 32 r).tail = tl by rw [HWE.out]; exact htl)
      have HTN := Lib.hid (show tl.length = m by rw [← htl, List.length_tail, HM.out]; rfl)
      have HTC := Lib.hid (show ∀ q, q < m → ws.getD (q + 1) ByteArray.empty = tl.getD q ByteArray.empty from fun q hq => by
        rw [← htl, List.getD_eq_getElem?_getD, List.getD_eq_getElem?_getD, List.getElem?_tail])
      clear htl
      go_wp2
      go_loopw [10, 11] (fun v q wi => ∃ j : Nat, j ≤ m ∧ q = .int .i64 ((j : Int) + 1) ∧ Hid (wi.ownsRow w3.heap.size 3 1 v j (inV ((tl.take j).map numF))) ∧ Hid (∀ i, i < j → numF (tl.getD i ByteArray.empty) ≠ -1) ∧ Hid (Below w3.heap.size w3 wi)) (fun _ q _ => m + 1 - (intOf q).toNat)
      case atStart => exact ⟨0, Nat.zero_le _, rfl, Lib.hid (World.ownsRow_nil _ _ _ _), Lib.hid (fun i h => by omega), Lib.hid (Below.refl _ _)⟩
      case round =>
        obtain ⟨j, hj, rfl, HOX, HNM, HBI⟩ := hrel
        have HBWI := Lib.hid (HBW3.out.trans (HBI.out.mono HBW3.out.size))
        by_cases hjm : j < m
        · have hjI : decide ((j : Int) + 1 < (m : Int) + 1) = true := by simp; omega
          have hj1 : ((j : Int) + 1).toNat = j + 1 := by omega
          have hj2 : (0 : Int) ≤ (j : Int) + 1 := by omega
          have hj3 : (j : Int) < (m : Int) := by omega
          have hcell := HWD.out (j + 1) (by omega)
          rw [HTC.out j hjm] at hcell
          have e1 := (HBI.out.cell (lt_of_cellq hcell)).trans hcell
          obtain ⟨x, hx⟩ : ∃ x, tl.getD j ByteArray.empty = x := ⟨_, rfl⟩
          rw [hx] at e1
          have HX1 := Lib.hid hx
          have h125 := c125 x wr
          clear hx hcell
          by_cases hnx : numF x = -1
          · have HNB := Lib.hid (show ∀ lo hi sl ch cs, ¬ Bk s lo hi sl ch cs from noBk_of_step (k := k + 1) (by rw [HPE.out, HN.out]; omega) (by rw [HPE.out, HNEXT.out]; exact stepR_num (j := j) (by rw [HTL.out, HTN.out]; exact hjm) (by rw [HTL.out, HX1.out]; exact hnx)))
            rw [hnx] at h125
            clear hnx
            go_wp2_with fail
            refine h125.mono ?_
            rintro e w4 ⟨rfl, b4⟩
            have hz4 := (b4.block _ (Nat.lt_of_lt_of_le (Array.getElem?_eq_some_iff.1 HZ3.out).1 HBI.out.size)).trans ((HBI.out.block _ (Array.getElem?_eq_some_iff.1 HZ3.out).1).trans HZ3.out)
            have HB4 := Lib.hid (HBWI.out.trans (b4.mono HBWI.out.size))
            clear b4 h125 e1
            obtain ⟨x1, x2, x3, x4, s1, s2, s3, s4, ⟨c0, f0⟩, ⟨c1, f1⟩, ⟨c2, f2⟩, ⟨c3, f3⟩, hx4, hxk, hxz, hxb⟩ := set4 w4 w.heap.size 23 _ _ _ _ (.int .i64 0) (.int .i64 0) (.int .i64 0) (.int .i64 0) hz4
            have HXB := Lib.hid (hxb w w.heap.size (Nat.le_refl _) HB4.out)
            obtain ⟨k0, k1, k2, k3⟩ := cells4 hx4
            clear hx4 hxk hxz hxb
            go_wp2
            refine bodyPost_ret (v := .tuple #[.agg #[.int .i64 0, .int .i64 0, .int .i64 0, .int .i64 0], .slice none 0 0, .bool false]) (by simp [results, Tryz.results77, go_sem, k0, k1, k2, k3]) rfl ?_
            exact ⟨⟨0, 0, 0, 0, [], none, 0, false, rfl, .inl rfl, .inl ⟨rfl, HNB.out, rfl, rfl, rfl, rfl, rfl⟩⟩, HXB.out⟩
          · obtain ⟨v, hv, hv2⟩ : ∃ v : Nat, v < 1000 ∧ numF x = v := by obtain ⟨v, h1, h2, _⟩ := numF_sound hnx; exact ⟨v, h1, h2⟩
            have HNX := Lib.hid hv2
            rw [hv2] at h125
            have hv0 : decide ((v : Int) < 0) = false := by simp
            clear hnx hv2
            go_wp2_with fail
            refine h125.mono ?_
            rintro e w4 ⟨rfl, b4⟩
            have HBI4 := Lib.hid (HBI.out.trans (b4.mono HBI.out.size))
            have HOX4 := Lib.hid (own_kept HOX.out b4)
            clear b4 h125 e1
            go_wp2_with (at_builtin; refine wpList_append_own _ rfl _ _ 24 rfl w3.heap.size 3 j0 _ 1 8 Tryz.underlying24 hj0 hx0 hx1 hx2 rfl (by decide) _ _ _ rfl (HOX4.out.alloc _) ⟨w4.heap.size, 0, none⟩ 1 1 [.int .i64 v] rfl rfl ?c1 ?c2 ?c3 ?c4 ?c5 ?_)
            case c1 => exact news_of _ _ _
            case c2 => intro u hu; simp at hu; subst hu; rfl
            case c3 => unfold maxLen; omega
            case c4 => omega
            case c5 => have := HBI4.out.size; simp; omega
            intro v' w5 hown' hgrow _
            have hlt' := HOX4.out.lt
            have HN' := Lib.hid (HBI4.out.trans (((Below.refl w3.heap.size w4).alloc HBI4.out.size _).grown hgrow (by have := HBI4.out.size; simp; omega) (fun j hj => (hlt' j hj).1)))
            have HO' := Lib.hid hown'
            have HSTP := Lib.hid (show inV ((tl.take (j + 1)).map numF) = inV ((tl.take j).map numF) ++ [.int .i64 v] by rw [numsTo_step (by rw [HTN.out]; exact hjm), HX1.out, HNX.out])
            have HNM2 := Lib.hid (show ∀ i, i < j + 1 → numF (tl.getD i ByteArray.empty) ≠ -1 from fun i hi => by
              by_cases h : i < j
              · exact HNM.out i h
              · obtain rfl : i = j := by omega
                rw [HX1.out, HNX.out]; omega)
            clear hown' hgrow hlt'
            go_wp2
            go_roundw
            case rel => exact ⟨j + 1, by omega, by go_num, Lib.hid (by rw [HSTP.out, List.map_take]; exact HO'.out), HNM2, HN'⟩
            case measure => simp [intOf]; omega
        · obtain rfl : j = m := by omega
          have hjI : decide ((j : Int) + 1 < (j : Int) + 1) = false := by simp
          obtain ⟨xs, hxs⟩ : ∃ xs, tl.map numF = xs := ⟨_, rfl⟩
          have HXL := Lib.hid (show xs.length = j by rw [← hxs, List.length_map, HTN.out])
          have HXS := Lib.hid (show (partsF 32 r).tail.map numF = xs by rw [HTL.out, hxs])
          have HNO := Lib.hid (show NumsOk (partsF 32 r).tail from fun i hi => by rw [HTL.out] at hi ⊢; rw [HTN.out] at hi; exact HNM.out i hi)
          have hox : wr.ownsRow w3.heap.size 3 1 u10 xs.length (inV xs) := by
            have h := HOX.out
            rw [show tl.take j = tl by rw [← HTN.out]; exact List.take_length, hxs] at h
            rw [HXL.out]; exact h
          obtain ⟨px, cx, hux, hrx⟩ := rd_of_own hox
          rw [HXL.out] at hux
          subst hux
          have HOXX := Lib.hid hox
          have HRX := Lib.hid hrx
          have hcell := HWD.out 0 (by omega)
          have e1 := (HBI.out.cell (lt_of_cellq hcell)).trans hcell
          have HP0 := Lib.hid (show headP (partsF 32 r) = ws.getD 0 ByteArray.empty by unfold headP; rw [HWE.out])
          obtain ⟨p0, hp0⟩ : ∃ p0, ws.getD 0 ByteArray.empty = p0 := ⟨_, rfl⟩
          rw [hp0] at e1 HP0
          have hwz := (HBI.out.block _ (Array.getElem?_eq_some_iff.1 HZ3.out).1).trans HZ3.out
          have HWZ := Lib.hid hwz
          have HO4 := Lib.hid (own_kept HO3.out HBI.out)
          have HE4 := Lib.hid (HE3.out.below HBI.out)
          have HH4 := Lib.hid ((HBI.out.block _ (Array.getElem?_eq_some_iff.1 HH3.out).1).trans HH3.out)
          have HX4 := Lib.hid (HX3.out.trans ((belX_of HBI.out).mono HX3.out.size))
          clear hxs hox hrx hcell hp0 hwz
          by_cases hcam : p0 = camW
          · have hbe : (p0.toList == [99, 97, 109]) = true := by rw [← camL]; exact beq_bat hcam
            have HSN := Lib.hid (show stR ps (k + 1) = some { st with l := st.l ++ [xs] } by rw [HNEXT.out, stepR_cam HNO.out (by rw [HP0.out]; exact hcam), HXS.out])
            clear hcam
            obtain ⟨L, hL⟩ : ∃ L, st.l.length = L := ⟨_, rfl⟩
            have HLL := Lib.hid hL
            rw [hL] at HO4
            have HHL := Lib.hid (show hs.length = st.l.length by have h := HO4.out.1; rw [h, HLL.out, Nat.mul_one])
            have hLk : L ≤ 501 := by
              have h := (stR_ok (rows := ps) (fun i hi => HPS.out i (by rw [← HN.out]; exact hi)) k st (by rw [HN.out]; omega) HST.out).2.1
              omega
            clear hL
            go_wp2_with (at_builtin; refine wpList_append_own _ rfl _ _ 90 rfl w2.heap.size 24 i0 _ 1 24 Tryz.underlying90 hi0 hy0 hy1 hy2 rfl (by decide) _ _ _ rfl (HO4.out.alloc _) ⟨wr.heap.size, 0, none⟩ 1 1 [.slice px j cx] rfl rfl ?c1 ?c2 ?c3 ?c4 ?c5 ?_)
            case c1 => exact news_of _ _ _
            case c2 => intro u hu; simp at hu; subst hu; rfl
            case c3 => unfold maxLen; omega
            case c4 => omega
            case c5 => have := HX4.out.size; simp; omega
            intro v' w6 hown' hgrow _
            have hlt' := HO4.out.lt
            have HX6 := Lib.hid (show BelX (fun k => k = w0.heap.size) w2.heap.size w2 w6 from HX4.out.trans ((belX_of (((Below.refl w2.heap.size wr).alloc HX4.out.size _).grown hgrow (by have := HX4.out.size; simp; omega) (fun j hj => (hlt' j hj).1)))))
            have HO6 := Lib.hid (show w6.ownsRow w2.heap.size 24 1 v' (st.l ++ [xs]).length (hs ++ [.slice px j cx]) by rw [List.length_append, HLL.out]; exact hown')
            have HE6 := Lib.hid (show ElC w6 w2.heap.size (st.l ++ [xs]) (hs ++ [.slice px j cx]) by
              have hx := own_mono HOXX.out (show w2.heap.size ≤ w3.heap.size from HX3.out.size)
              have e : (Value.slice px j cx) = .slice px xs.length cx := by rw [HXL.out]
              rw [HXL.out] at hx
              rw [← HXL.out] at hx ⊢
              exact ((HE4.out.snoc HHL.out hx).alloc _).grown (HO4.out.alloc _) (by decide) hgrow)
            have HH6 := Lib.hid (show w6.heap[w0.heap.size]? = some (.cells #[.int .i64 st.a, .int .i64 st.b, .int .i64 st.c, .int .i64 st.d] 23) from ((((Below.refl w2.heap.size wr).alloc HX4.out.size _).grown hgrow (by have := HX4.out.size; simp; omega) (fun j hj => (hlt' j hj).1)).block _ (by have := HLT.out; have := HL2.out; omega)).trans HH4.out)
            clear hown' hgrow hlt'
            go_wp2
            go_roundw
            case rel => exact ⟨k + 1, { st with l := st.l ++ [xs] }, _, by omega, by go_num, HSN, HO6, HE6, HH6, HX6⟩
            case measure => simp [intOf]; omega
          · have hbe : (p0.toList == [99, 97, 109]) = false := by rw [← camL]; exact beq_ba hcam
            have HNC := Lib.hid hcam
            clear hcam
            by_cases hbk : p0 = bookW
            · have hbe2 : (p0.toList == [98, 111, 111, 107]) = true := by rw [← bookL]; exact beq_bat hbk
              by_cases h4 : j = 4
              · have h4I : ((j : Int) == 4) = true := by rw [beq_iff_eq]; omega
                subst h4
                obtain ⟨b, off, rfl, hc⟩ := HRX.out.at (i := 0) (by rw [HXL.out]; omega)
                have q0 := hc 0 (by rw [HXL.out]; omega)
                have q1 := hc 1 (by rw [HXL.out]; omega)
                have q2 := hc 2 (by rw [HXL.out]; omega)
                have q3 := hc 3 (by rw [HXL.out]; omega)
                rw [Nat.add_zero] at q0
                have HSN0 := Lib.hid (show stR ps (k + 1) = some { st with a := gi xs 0, b := gi xs 1, c := gi xs 2, d := gi xs 3 } by rw [HNEXT.out]; exact stepR_book HNO.out (by rw [HP0.out]; exact hbk) HXS.out HXL.out)
                obtain ⟨lo, hlo⟩ : ∃ lo, gi xs 0 = lo := ⟨_, rfl⟩
                obtain ⟨hi, hhi⟩ : ∃ hi, gi xs 1 = hi := ⟨_, rfl⟩
                obtain ⟨sl, hsl⟩ : ∃ sl, gi xs 2 = sl := ⟨_, rfl⟩
                obtain ⟨ch, hch⟩ : ∃ ch, gi xs 3 = ch := ⟨_, rfl⟩
                rw [hlo, hhi, hsl, hch] at HSN0
                rw [hlo] at q0
                rw [hhi] at q1
                rw [hsl] at q2
                rw [hch] at q3
                clear hlo hhi hsl hch hc hbk
                go_wp2_with fail
                go_still_tail 13, (by kernel_rfl)
                change wpList _ _ _ _ _ wr.drew
                have bd : Below wr.heap.size wr wr.drew := (Below.refl _ _).drew
                obtain ⟨w6, hw6⟩ : ∃ w6, wr.drew = w6 := ⟨_, rfl⟩
                rw [hw6] at bd ⊢
                have HO6 := own_kept HO4.out bd
                have HE6 := HE4.out.below bd
                have hh6 := (bd.block _ (Array.getElem?_eq_some_iff.1 HH4.out).1).trans HH4.out
                have hx6 := HX4.out.trans ((belX_of bd).mono HX4.out.size)
                obtain ⟨x1, x2, x3, x4, s1, s2, s3, s4, ⟨c0, f0⟩, ⟨c1, f1⟩, ⟨c2, f2⟩, ⟨c3, f3⟩, hx4, hxk, hxz, hxb⟩ := set4 w6 w0.heap.size 23 _ _ _ _ (.int .i64 lo) (.int .i64 hi) (.int .i64 sl) (.int .i64 ch) hh6
                have hl02 : w0.heap.size < w2.heap.size := by have := HLT.out; have := HL2.out; omega
                have ho := own_set (own_set (own_set (own_set HO6 (p := ⟨w0.heap.size, 0, none⟩) hl02 (.int .i64 lo)) (p := ⟨w0.heap.size, 1, none⟩) hl02 (.int .i64 hi)) (p := ⟨w0.heap.size, 2, none⟩) hl02 (.int .i64 sl)) (p := ⟨w0.heap.size, 3, none⟩) hl02 (.int .i64 ch)
                have he := (((HE6.set (p := ⟨w0.heap.size, 0, none⟩) hl02 (.int .i64 lo)).set (p := ⟨w0.heap.size, 1, none⟩) hl02 (.int .i64 hi)).set (p := ⟨w0.heap.size, 2, none⟩) hl02 (.int .i64 sl)).set (p := ⟨w0.heap.size, 3, none⟩) hl02 (.int .i64 ch)
                have hbx := (((hx6.setCell (p := ⟨w0.heap.size, 0, none⟩) (.inl rfl) (.int .i64 lo)).setCell (p := ⟨w0.heap.size, 1, none⟩) (.inl rfl) (.int .i64 hi)).setCell (p := ⟨w0.heap.size, 2, none⟩) (.inl rfl) (.int .i64 sl)).setCell (p := ⟨w0.heap.size, 3, none⟩) (.inl rfl) (.int .i64 ch)
                rw [s1, s2, s3, s4] at ho he hbx
                have HOF := Lib.hid ho
                have HEF := Lib.hid he
                have HXF := Lib.hid hbx
                have HHF := Lib.hid hx4
                clear ho he hbx hx4 hxk hxz hxb HO6 HE6 hh6 hx6 hl02 bd hw6 q0 q1 q2 q3 e1
                go_wp2
                go_roundw
                case rel => exact ⟨k + 1, { st with a := lo, b := hi, c := sl, d := ch }, hs, by omega, by go_num, HSN0, HOF, HEF, HHF, HXF⟩
                case measure => simp [intOf]; omega
              · have h4I : ((j : Int) == 4) = false := by rw [beq_eq_false_iff_ne]; omega
                have HNB := Lib.hid (show ∀ lo hi sl ch cs, ¬ Bk s lo hi sl ch cs from noBk_of_step (k := k + 1) (by rw [HPE.out, HN.out]; omega) (by rw [HPE.out, HNEXT.out]; exact stepR_else (by rw [HP0.out]; exact HNC.out) (fun _ h => h4 (by rw [HTL.out, HTN.out] at h; exact h))))
                clear hbk h4
                obtain ⟨x1, x2, x3, x4, s1, s2, s3, s4, ⟨c0, f0⟩, ⟨c1, f1⟩, ⟨c2, f2⟩, ⟨c3, f3⟩, hx4, hxk, hxz, hxb⟩ := set4 wr w.heap.size 23 _ _ _ _ (.int .i64 0) (.int .i64 0) (.int .i64 0) (.int .i64 0) HWZ.out
                have HXB := Lib.hid (hxb w w.heap.size (Nat.le_refl _) HBWI.out)
                obtain ⟨k0, k1, k2, k3⟩ := cells4 hx4
                clear hx4 hxk hxz hxb
                go_wp2
                refine bodyPost_ret (v := .tuple #[.agg #[.int .i64 0, .int .i64 0, .int .i64 0, .int .i64 0], .slice none 0 0, .bool false]) (by simp [results, Tryz.results77, go_sem, k0, k1, k2, k3]) rfl ?_
                exact ⟨⟨0, 0, 0, 0, [], none, 0, false, rfl, .inl rfl, .inl ⟨rfl, HNB.out, rfl, rfl, rfl, rfl, rfl⟩⟩, HXB.out⟩
            · have hbe2 : (p0.toList == [98, 111, 111, 107]) = false := by rw [← bookL]; exact beq_ba hbk
              have HNB := Lib.hid (show ∀ lo hi sl ch cs, ¬ Bk s lo hi sl ch cs from noBk_of_step (k := k + 1) (by rw [HPE.out, HN.out]; omega) (by rw [HPE.out, HNEXT.out]; exact stepR_else (by rw [HP0.out]; exact HNC.out) (fun h _ => hbk (by rw [HP0.out] at h; exact h))))
              clear hbk
              obtain ⟨x1, x2, x3, x4, s1, s2, s3, s4, ⟨c0, f0⟩, ⟨c1, f1⟩, ⟨c2, f2⟩, ⟨c3, f3⟩, hx4, hxk, hxz, hxb⟩ := set4 wr w.heap.size 23 _ _ _ _ (.int .i64 0) (.int .i64 0) (.int .i64 0) (.int .i64 0) HWZ.out
              have HXB := Lib.hid (hxb w w.heap.size (Nat.le_refl _) HBWI.out)
              obtain ⟨k0, k1, k2, k3⟩ := cells4 hx4
              clear hx4 hxk hxz hxb
              go_wp2
              refine bodyPost_ret (v := .tuple #[.agg #[.int .i64 0, .int .i64 0, .int .i64 0, .int .i64 0], .slice none 0 0, .bool false]) (by simp [results, Tryz.results77, go_sem, k0, k1, k2, k3]) rfl ?_
              exact ⟨⟨0, 0, 0, 0, [], none, 0, false, rfl, .inl rfl, .inl ⟨rfl, HNB.out, rfl, rfl, rfl, rfl, rfl⟩⟩, HXB.out⟩
    · have hltI : decide ((k : Int) < (n : Int) - 2) = false := decide_eq_false hlt
      have HROK := Lib.hid (stR_ok (rows := ps) (fun i hi => HPS.out i (by rw [← HN.out]; exact hi)) k st (by rw [HN.out]; omega) HST.out)
      have hke : k = n - 2 := by omega
      have HKE := Lib.hid hke
      have HTX1 := Lib.hid (show ∀ T, textF st.a st.b st.c st.d st.l = T → T = s → Bk s st.a st.b st.c st.d st.l from fun T h1 h2 => ⟨HROK.out.1, fun i hi => (HROK.out.2.2 i hi).1, h1.trans h2⟩)
      have HTX2 := Lib.hid (show ∀ T, textF st.a st.b st.c st.d st.l = T → T ≠ s → ∀ lo hi sl ch cs, ¬ Bk s lo hi sl ch cs from fun T h1 h2 lo hi sl ch cs hb => h2 (h1.symm.trans (bk_of_steps (st := st) (by rw [HPE.out, HN.out, ← HKE.out]; exact HST.out) hb)))
      have HBO := Lib.hid (show BookOk 1000 st.a st.b st.c st.d st.l from ⟨HROK.out.1, by have := HROK.out.2.1; omega, HROK.out.2.2⟩)
      clear hke hlt
      obtain ⟨p0, p1, p2, p3⟩ := cells4 HH.out
      obtain ⟨pc, cc, hv, hrc⟩ := rdc_of_own HO.out HE.out
      have h75 := c75 st.a st.b st.c st.d pc cc st.l wr hrc HBO.out
      unfold TextPost at h75
      obtain ⟨a, ha⟩ : ∃ a, st.a = a := ⟨_, rfl⟩
      obtain ⟨b, hb⟩ : ∃ b, st.b = b := ⟨_, rfl⟩
      obtain ⟨c, hc⟩ : ∃ c, st.c = c := ⟨_, rfl⟩
      obtain ⟨d, hd⟩ : ∃ d, st.d = d := ⟨_, rfl⟩
      obtain ⟨l, hl⟩ : ∃ l, st.l = l := ⟨_, rfl⟩
      rw [ha, hb, hc, hd, hl] at h75 HBO HTX1 HTX2
      rw [ha] at p0
      rw [hb] at p1
      rw [hc] at p2
      rw [hd] at p3
      rw [hl] at HO HE hv hrc
      obtain ⟨L, hL⟩ : ∃ L, l.length = L := ⟨_, rfl⟩
      have HLL := Lib.hid hL
      rw [hL] at h75 hv
      subst hv
      obtain ⟨T, hT⟩ : ∃ T, textF a b c d l = T := ⟨_, rfl⟩
      rw [hT] at h75 HTX1 HTX2
      have HRC := Lib.hid hrc
      have HO2 := Lib.hid HO.out
      clear ha hb hc hd hl hL hT hrc
      by_cases hts : T = s
      · have hbe : (T.toList == s.toList) = true := beq_bat hts
        have HBK := Lib.hid (HTX1.out T rfl hts)
        clear hts
        go_wp2_with fail
        refine h75.mono ?_
        rintro e w7 ⟨rfl, b7⟩
        have HB7 := Lib.hid (HBW.out.trans (b7.mono HBW.out.size))
        have HO7 := Lib.hid (own_kept HO2.out b7)
        have HE7 := Lib.hid (HE.out.below b7)
        have q0 := (b7.cell (lt_of_cellq p0)).trans p0
        have q1 := (b7.cell (lt_of_cellq p1)).trans p1
        have q2 := (b7.cell (lt_of_cellq p2)).trans p2
        have q3 := (b7.cell (lt_of_cellq p3)).trans p3
        have hz7 := (b7.block _ (Array.getElem?_eq_some_iff.1 HRZ.out).1).trans HRZ.out
        clear b7 h75 p0 p1 p2 p3
        obtain ⟨x1, x2, x3, x4, s1, s2, s3, s4, ⟨c0, f0⟩, ⟨c1, f1⟩, ⟨c2, f2⟩, ⟨c3, f3⟩, hx4, hxk, hxz, hxb⟩ := set4 w7 w.heap.size 23 _ _ _ _ (.int .i64 a) (.int .i64 b) (.int .i64 c) (.int .i64 d) hz7
        have HXB := Lib.hid (hxb w w.heap.size (Nat.le_refl _) HB7.out)
        have HXR := Lib.hid (show RdC x4 pc l by
          have hl02 : w.heap.size < w2.heap.size := by have := HLT.out; have := HL2.out; omega
          have ho := own_set (own_set (own_set (own_set HO7.out (p := ⟨w.heap.size, 0, none⟩) hl02 (.int .i64 a)) (p := ⟨w.heap.size, 1, none⟩) hl02 (.int .i64 b)) (p := ⟨w.heap.size, 2, none⟩) hl02 (.int .i64 c)) (p := ⟨w.heap.size, 3, none⟩) hl02 (.int .i64 d)
          have he := (((HE7.out.set (p := ⟨w.heap.size, 0, none⟩) hl02 (.int .i64 a)).set (p := ⟨w.heap.size, 1, none⟩) hl02 (.int .i64 b)).set (p := ⟨w.heap.size, 2, none⟩) hl02 (.int .i64 c)).set (p := ⟨w.heap.size, 3, none⟩) hl02 (.int .i64 d)
          rw [s1, s2, s3, s4] at ho he
          obtain ⟨p', c', hv, hr⟩ := rdc_of_own ho he
          cases hv
          exact hr)
        obtain ⟨k0, k1, k2, k3⟩ := cells4 hx4
        clear hx4 hxk hxz hxb hz7
        go_wp2
        refine bodyPost_ret (v := .tuple #[.agg #[.int .i64 a, .int .i64 b, .int .i64 c, .int .i64 d], .slice pc L cc, .bool true]) (by simp [results, Tryz.results77, go_sem, k0, k1, k2, k3]) rfl ?_
        exact ⟨⟨a, b, c, d, l, pc, cc, true, by rw [HLL.out], HXR.out, .inr ⟨rfl, HBK.out, HBO.out.2.1, fun i hi => (HBO.out.2.2 i hi).2⟩⟩, HXB.out⟩
      · have hbe : (T.toList == s.toList) = false := beq_ba hts
        have HNB := Lib.hid (HTX2.out T rfl hts)
        clear hts
        go_wp2_with fail
        refine h75.mono ?_
        rintro e w7 ⟨rfl, b7⟩
        have HB7 := Lib.hid (HBW.out.trans (b7.mono HBW.out.size))
        have hz7 := (b7.block _ (Array.getElem?_eq_some_iff.1 HRZ.out).1).trans HRZ.out
        clear b7 h75 p0 p1 p2 p3
        obtain ⟨x1, x2, x3, x4, s1, s2, s3, s4, ⟨c0, f0⟩, ⟨c1, f1⟩, ⟨c2, f2⟩, ⟨c3, f3⟩, hx4, hxk, hxz, hxb⟩ := set4 w7 w.heap.size 23 _ _ _ _ (.int .i64 0) (.int .i64 0) (.int .i64 0) (.int .i64 0) hz7
        have HXB := Lib.hid (hxb w w.heap.size (Nat.le_refl _) HB7.out)
        obtain ⟨k0, k1, k2, k3⟩ := cells4 hx4
        clear hx4 hxk hxz hxb
        go_wp2
        refine bodyPost_ret (v := .tuple #[.agg #[.int .i64 0, .int .i64 0, .int .i64 0, .int .i64 0], .slice none 0 0, .bool false]) (by simp [results, Tryz.results77, go_sem, k0, k1, k2, k3]) rfl ?_
        exact ⟨⟨0, 0, 0, 0, [], none, 0, false, rfl, .inl rfl, .inl ⟨rfl, HNB.out, rfl, rfl, rfl, rfl, rfl⟩⟩, HXB.out⟩
end Go.Proofs.YtncfgkhbenmpoaaGreatDoor
end

section
namespace Go.Proofs.YtncfgkhbenmpoaaGreatDoor
open Go Go.RowKit Go.Proofs Go.Shelf
set_option linter.unusedVariables false

theorem rowT_size2 (word : ByteArray) (xs : List Int) (hs : SmallN 100 xs) : ∀ k, k ≤ xs.length → (rowT word xs k).size ≤ word.size + 3 * k := by
  intro k
  induction k with
  | zero => intro _; simp [rowT]
  | succ k ih =>
    intro hk
    have := ih (by omega)
    have h2 := dec_len (gi xs k).toNat (by have := hs k hk; omega)
    rw [rowT_step word xs k hk, ByteArray.size_append, ByteArray.size_append]
    have e1 : (⟨#[32]⟩ : ByteArray).size = 1 := rfl
    have e2 : (⟨(Lib.decDigits (gi xs k).toNat).toArray⟩ : ByteArray).size = (Lib.decDigits (gi xs k).toNat).length := rfl
    rw [e1, e2]; omega
theorem flat_len : ∀ (L : List (List UInt8)) (m : Nat), (∀ l ∈ L, l.length ≤ m) → (flat L).length ≤ (m + 1) * L.length := by
  intro L m
  induction L with
  | nil => intro _; simp [flat]
  | cons l r ih =>
    intro h
    have h1 := ih fun x hx => h x (List.mem_cons_of_mem _ hx)
    have h2 := h l List.mem_cons_self
    simp only [flat, List.length_append, List.length_cons, Nat.mul_succ]
    omega
theorem end_len (S : Int) : (endF S).data.toList.length = 7 := by
  unfold endF
  simp only [ba_append]
  rw [dec1 (by omega), dec1 (by omega), dec1 (by omega)]
  rfl
theorem book_size {lo hi sl ch : Int} {css : List (List Int)} (hr : ruleB lo hi sl ch = true) (hc : camsB css = true) : (textF lo hi sl ch css).size ≤ 400 := by
  rw [size_toList, text_flat]
  obtain ⟨h4, hcam⟩ := camsB_parts hc
  unfold linL allF linesF
  rw [List.cons_append, List.map_cons, List.map_append, flat, List.length_append, List.length_cons]
  have a1 : (rowT bookW [lo, hi, sl, ch] 4).data.toList.length ≤ 16 := by
    rw [← size_toList]
    exact rowT_size2 bookW _ (rule_small hr) 4 (by simp)
  have a2 : (flat ((((css.take css.length).map fun c => rowT camW c c.length)).map (·.data.toList) ++ [(endF (sumRows (rowT bookW [lo, hi, sl, ch] 4 :: (css.take css.length).map fun c => rowT camW c c.length) (css.length + 1)))].map (·.data.toList))).length ≤ 76 * css.length + 8 := by
    rw [List.map_cons, List.map_nil, flat_snoc, List.length_append, List.length_append, end_len, List.take_length]
    have := flat_len ((css.map fun c => rowT camW c c.length).map (·.data.toList)) 75 (fun l hl => by
      obtain ⟨x, hx, rfl⟩ := List.mem_map.1 hl
      obtain ⟨c, hcm, rfl⟩ := List.mem_map.1 hx
      rw [← size_toList]
      obtain ⟨i, hi', rfl⟩ := List.getElem_of_mem hcm
      have hci := hcam i hi'
      have e : gl css i = css[i] := by unfold gl; rw [List.getD_eq_getElem?_getD, List.getElem?_eq_getElem hi']; rfl
      rw [e] at hci
      have hsm := cam_small hci
      have := rowT_size2 camW css[i] hsm.1 css[i].length (Nat.le_refl _)
      have h3 : camW.size = 3 := rfl
      omega)
    rw [List.length_map, List.length_map] at this
    simp only [List.length_singleton]
    omega
  omega
theorem small_up {xs : List Int} (h : SmallN 100 xs) : SmallN 1000 xs := fun i hi => by have := h i hi; omega
theorem bk_text {lo hi sl ch : Int} {css : List (List Int)} (hr : ruleB lo hi sl ch = true) (hc : camsB css = true) : Bk (textF lo hi sl ch css) lo hi sl ch css :=
  ⟨small_up (rule_small hr), fun i hi' => small_up (cam_small ((camsB_parts hc).2 i hi')).1, rfl⟩
/-- the book of a rule with cams is read as these -/
theorem read_book {lo hi sl ch a b c d er : Int} {css cs : List (List Int)} (hr : ruleB lo hi sl ch = true) (hc : camsB css = true) (h : ReadR (textF lo hi sl ch css) a b c d cs er) : a = lo ∧ b = hi ∧ c = sl ∧ d = ch ∧ cs = css ∧ er = 0 := by
  have hb := bk_text hr hc
  have hz := book_size hr hc
  rcases h with ⟨⟨h1, _⟩ | ⟨_, h1, _⟩ | ⟨_, ⟨x, y, z, v, l, h1, h2⟩, _⟩, _⟩ | ⟨_, h1, _, h2⟩
  · omega
  · exact absurd hb (h1 _ _ _ _ _)
  · obtain ⟨rfl, rfl, rfl, rfl, rfl⟩ := bk_unique hb h1
    rw [hr, hc] at h2; cases h2
  · obtain ⟨rfl, rfl, rfl, rfl, rfl⟩ := bk_unique hb h1
    exact ⟨rfl, rfl, rfl, rfl, rfl, h2⟩
/-- a text that is no book -/
theorem read_none {s : ByteArray} {a b c d er : Int} {cs : List (List Int)} (hs : s.size ≤ 400) (hn : ∀ lo hi sl ch cs, ¬ Bk s lo hi sl ch cs) (h : ReadR s a b c d cs er) : a = 0 ∧ b = 0 ∧ c = 0 ∧ d = 0 ∧ cs = [] ∧ er = 4 := by
  rcases h with ⟨⟨h1, _⟩ | ⟨_, _, h1⟩ | ⟨_, ⟨x, y, z, v, l, h1, _⟩, _⟩, h2⟩ | ⟨_, h1, _⟩
  · omega
  · exact ⟨h2.1, h2.2.1, h2.2.2.1, h2.2.2.2.1, h2.2.2.2.2, h1⟩
  · exact absurd h1 (hn _ _ _ _ _)
  · exact absurd h1 (hn _ _ _ _ _)
theorem read_long {s : ByteArray} {a b c d er : Int} {cs : List (List Int)} (hs : 400 < s.size) (h : ReadR s a b c d cs er) : a = 0 ∧ b = 0 ∧ c = 0 ∧ d = 0 ∧ cs = [] ∧ er = 3 := by
  rcases h with ⟨⟨_, h1⟩ | ⟨h1, _⟩ | ⟨h1, _⟩, h2⟩ | ⟨h1, _⟩
  · exact ⟨h2.1, h2.2.1, h2.2.2.1, h2.2.2.2.1, h2.2.2.2.2, h1⟩
  all_goals omega
theorem read_bad {s : ByteArray} {a b c d er lo hi sl ch : Int} {cs css : List (List Int)} (hs : s.size ≤ 400) (hb : Bk s lo hi sl ch css) (hf : (ruleB lo hi sl ch && camsB css) = false) (h : ReadR s a b c d cs er) : a = 0 ∧ b = 0 ∧ c = 0 ∧ d = 0 ∧ cs = [] ∧ er = 2 := by
  rcases h with ⟨⟨h1, _⟩ | ⟨_, h1, _⟩ | ⟨_, _, h1⟩, h2⟩ | ⟨_, h1, h2, _⟩
  · omega
  · exact absurd hb (h1 _ _ _ _ _)
  · exact ⟨h2.1, h2.2.1, h2.2.2.1, h2.2.2.2.1, h2.2.2.2.2, h1⟩
  · obtain ⟨rfl, rfl, rfl, rfl, rfl⟩ := bk_unique hb h1
    rw [hf] at h2; cases h2
theorem read_good {s : ByteArray} {a b c d er lo hi sl ch : Int} {cs css : List (List Int)} (hs : s.size ≤ 400) (hb : Bk s lo hi sl ch css) (hf : (ruleB lo hi sl ch && camsB css) = true) (h : ReadR s a b c d cs er) : a = lo ∧ b = hi ∧ c = sl ∧ d = ch ∧ cs = css ∧ er = 0 := by
  rcases h with ⟨⟨h1, _⟩ | ⟨_, h1, _⟩ | ⟨_, ⟨x, y, z, v, l, h1, h3⟩, _⟩, _⟩ | ⟨_, h1, _, h2⟩
  · omega
  · exact absurd hb (h1 _ _ _ _ _)
  · obtain ⟨rfl, rfl, rfl, rfl, rfl⟩ := bk_unique hb h1
    rw [hf] at h3; cases h3
  · obtain ⟨rfl, rfl, rfl, rfl, rfl⟩ := bk_unique hb h1
    exact ⟨rfl, rfl, rfl, rfl, rfl, h2⟩
end Go.Proofs.YtncfgkhbenmpoaaGreatDoor
end
