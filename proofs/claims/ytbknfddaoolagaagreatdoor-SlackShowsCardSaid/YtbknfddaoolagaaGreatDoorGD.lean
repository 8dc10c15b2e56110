/-
  Copies of plays; a move of the crank as a value; rows that are stored into.
  Where all arbors are before the first move: contract.
  A truth after a move: contract.
  All that plays do, before the first move and after each one: contract.
-/
import Derived.Test.YtbknfddaoolagaaGreatDoorGB
import Derived.Test.YtbknfddaoolagaaGreatDoorGC
import Derived.Maps.AppendAt
import Derived.Lib.LazyBuf
import Derived.Test.YtbknfddaoolagaaGreatDoorGA
section
namespace Go.Proofs.YtbknfddaoolagaaGreatDoor
open Go Go.RowKit Go.Proofs
set_option linter.unusedVariables false
attribute [local go_sem] imax2 imin2

theorem own_put {w : World} {B e n g cap j : Nat} {xs : List Value} (h : w.ownsRow B e 1 (.slice (some ⟨g, 0, none⟩) n cap) n xs) (hj : j < n) (u : Value) :
    (w.setCell ⟨g, j, none⟩ u).ownsRow B e 1 (.slice (some ⟨g, 0, none⟩) n cap) n (xs.set j u) := by
  refine ⟨by rw [List.length_set]; exact h.1, ?_⟩
  rcases h.2 with ⟨h1, _⟩ | ⟨g', cap', cur, h1, h2, h3, h4, h5, h6, h7⟩
  · cases h1
  · cases h1
    refine .inr ⟨g, cap, cur.setIfInBounds j u, rfl, h2, ?_, h4, h5, by simpa using h6, ?_⟩
    · rw [heap_setCell_same w g j cur e u h3]
    · rw [Array.toList_setIfInBounds, List.take_set, h7]
theorem inV_set (xs : List Int) (j : Nat) (z : Int) : (inV xs).set j (.int .i64 z) = inV (xs.set j z) := by unfold inV; rw [List.map_set]
theorem own_cell {w : World} {B e n g cap : Nat} {xs : List Int} (h : w.ownsRow B e 1 (.slice (some ⟨g, 0, none⟩) n cap) n (inV xs)) {j : Nat} (hj : j < xs.length) : w.cell? ⟨g, j, none⟩ = some (.int .i64 (gi xs j)) := by
  have := h.cells (g := g) rfl j _ (inV_get xs j hj)
  rwa [add_new] at this
theorem own_frozen {w : World} {B e size n g cap : Nat} {xs : List Value} (h : w.ownsRow B e size (.slice (some ⟨g, 0, none⟩) n cap) n xs) (j : Nat) : w.frozen? ⟨g, j, none⟩ = false := by
  rcases h.2 with ⟨h1, _⟩ | ⟨g', cap', cur, h1, h2, h3, _⟩
  · cases h1
  · cases h1; exact frozen_of_row _ _ _ _ _ h3
theorem own_lt {w : World} {B e size n g cap : Nat} {xs : List Value} (h : w.ownsRow B e size (.slice (some ⟨g, 0, none⟩) n cap) n xs) : B ≤ g ∧ g < w.heap.size := h.lt g rfl

theorem eqnLI (a : Option Addr) (l c : Nat) (w : World) : (binOp .eql 24 (.slice a l c) (.slice none 0 0)).run Tryz.prog w = .ok (.bool a.isNone) w := run_eql_slice_nil w 24 3 a l c Tryz.underlying24
attribute [local go_sem] eqnLI
set_option maxRecDepth 100000 in
theorem c_Clone_nil (w : World) : Calls Tryz.prog 116 #[.slice none 0 0] w fun e w' => e = .returned (.slice none 0 0) ∧ w = w' := by
  go_enter Tryz.func116, Tryz.ntmps116
  go_wp2; go_ret; exact ⟨rfl, rfl⟩
def ClonePost (xs : List Int) (w : World) (e : Ending) (w' : World) : Prop := ∃ v, e = .returned v ∧ w'.ownsRow w.heap.size 3 1 v xs.length (inV xs) ∧ Below w.heap.size w w'
set_option maxHeartbeats 400000 in
set_option maxRecDepth 100000 in
theorem c_Clone (b off cap : Nat) (xs : List Int) (w : World) (hx : RdI w (some ⟨b, off, none⟩) xs) (hl : xs.length ≤ 1000000) :
    Calls Tryz.prog 116 #[.slice (some ⟨b, off, none⟩) xs.length cap] w (ClonePost xs w) := by
  have HX := Lib.hid hx; clear hx
  go_enter Tryz.func116, Tryz.ntmps116
  obtain ⟨i0, hi0, hz0, hz1, hz2⟩ := info_parts infI; have hown : (w.alloc (.cells #[] 3)).ownsRow w.heap.size 3 1 (.slice (some ⟨w.heap.size, 0, none⟩) 0 0) 0 [] := World.ownsRow_made w #[] 0 (Nat.le_refl _) (by unfold maxLen; omega) (by simp)
  have hnews : ∀ j v, (inV xs)[j]? = some v → (w.alloc (.cells #[] 3)).cell? ((⟨b, off, none⟩ : Addr).add j) = some v := by
    intro j v hj
    have hj' : j < xs.length := by
      have := (List.getElem?_eq_some_iff.1 hj).1
      simpa [inV] using this
    obtain ⟨b', off', e, hc⟩ := HX.out.at hj'
    cases e
    have h1 := hc j hj'; rw [inV_get xs j hj'] at hj
    cases hj
    have e : (⟨b, off, none⟩ : Addr).add j = ⟨b, off + j, none⟩ := by unfold Addr.add; split <;> simp_all
    rw [e]; exact ((below_alloc1 w _).cell (lt_of_cellq h1)).trans h1
  have HO := Lib.hid hown; have HNW := Lib.hid hnews; clear hown hnews; go_wp2_with (at_builtin; refine wpList_append_own _ rfl _ _ 24 rfl w.heap.size 3 i0 _ 1 8 Tryz.underlying24 hi0 hz0 hz1 hz2 rfl (by decide) _ 0 [] rfl HO.out ⟨b, off, none⟩ xs.length cap (inV xs) rfl ?c0 HNW.out ?c2 ?c3 ?c4 ?c5 ?_)
  case c0 => simp [inV]
  case c2 => intro u hu; simp [inV] at hu; obtain ⟨x, _, rfl⟩ := hu; rfl
  case c3 => unfold maxLen; omega
  case c4 => omega
  case c5 => simp
  intro v' w1 hown' hgrow _; have HB := Lib.hid ((below_alloc1 w (.cells #[] 3)).grown hgrow (by simp) (fun k hk => by cases hk; exact Nat.le_refl _)); have HR := Lib.hid hown'; clear hown' hgrow; go_wp2; go_ret; exact ⟨v', rfl, by have := HR.out; simpa using this, HB.out⟩
theorem c_Clone_any (p : Option Addr) (cap : Nat) (xs : List Int) (w : World) (hx : RdI w p xs) (hl : xs.length ≤ 1000000) (hn : xs = [] → p = none ∧ cap = 0) :
    Calls Tryz.prog 116 #[.slice p xs.length cap] w (ClonePost xs w) := by
  cases xs with
  | nil =>
    obtain ⟨rfl, rfl⟩ := hn rfl; refine (c_Clone_nil w).mono ?_; rintro e w' ⟨rfl, rfl⟩; exact ⟨_, rfl, World.ownsRow_nil _ _ _ _, Below.refl _ _⟩
  | cons x xs =>
    obtain ⟨b, off, rfl, hc⟩ := hx.at (i := 0) (by simp); exact c_Clone b off cap (x :: xs) w hx hl

def mvV (m : Int) : Value := if m < 0 then .iface 185 (.int .i64 (-m)) else .iface 184 (.int .i64 m)
theorem mvV_on {m : Int} (h : 0 ≤ m) : mvV m = .iface 184 (.int .i64 m) := by unfold mvV; rw [if_neg (by omega)]
theorem mvV_back {m : Int} (h : m < 0) : mvV m = .iface 185 (.int .i64 (-m)) := by unfold mvV; rw [if_pos h]
theorem c_turned (m : Int) (w : World) (hm : -100000 ≤ m ∧ m ≤ 100000) : Calls Tryz.prog 112 #[.int .i64 m] w fun e w' => e = .returned (mvV m) ∧ w = w' := by
  obtain ⟨hm1, hm2⟩ := hm
  by_cases h : m < 0
  · have H := Lib.hid (mvV_back h)
    have hw : IntKind.i64.wrap (-m) = -m := w64 _ (by omega) (by omega)
    go_enter Tryz.func112, Tryz.ntmps112
    go_wp2; go_ret; exact ⟨by rw [H.out]; rfl, rfl⟩
  · have H := Lib.hid (mvV_on (show 0 ≤ m by omega))
    go_enter Tryz.func112, Tryz.ntmps112
    go_wp2; go_ret; exact ⟨by rw [H.out]; rfl, rfl⟩
theorem c_on (m : Int) (w : World) : Calls Tryz.prog 184 #[.int .i64 m] w fun e w' => e = .returned (.int .i64 m) ∧ w = w' := by
  go_enter Tryz.func184, Tryz.ntmps184
  go_wp2; go_ret; exact ⟨rfl, rfl⟩
theorem c_back (m : Int) (w : World) (hm : -100000 ≤ m ∧ m ≤ 100000) : Calls Tryz.prog 185 #[.int .i64 m] w fun e w' => e = .returned (.int .i64 (-m)) ∧ w = w' := by
  obtain ⟨hm1, hm2⟩ := hm; have hw : IntKind.i64.wrap (-m) = -m := w64 _ (by omega) (by omega)
  go_enter Tryz.func185, Tryz.ntmps185
  go_wp2; go_ret; exact ⟨rfl, rfl⟩
end Go.Proofs.YtbknfddaoolagaaGreatDoor
end

section
namespace Go.Proofs.YtbknfddaoolagaaGreatDoor
open Go Go.RowKit Go.Proofs
set_option linter.unusedVariables false
attribute [local go_sem] imax2 imin2

theorem set2 (w : World) (B : Nat) (t : TypeId) (v0 v1 a b : Value) (h : w.heap[B]? = some (.cells #[v0, v1] t)) :
    ∃ w1 w2, w.setCell ⟨B, 0, none⟩ a = w1 ∧ w1.setCell ⟨B, 1, none⟩ b = w2 ∧
      (w.cell? ⟨B, 0, none⟩ = some v0 ∧ w.frozen? ⟨B, 0, none⟩ = false) ∧ (w1.cell? ⟨B, 1, none⟩ = some v1 ∧ w1.frozen? ⟨B, 1, none⟩ = false) ∧
      w2.heap[B]? = some (.cells #[a, b] t) ∧ (∀ k, k ≠ B → w2.heap[k]? = w.heap[k]?) ∧ Hid (w2.heap.size = w.heap.size) ∧ ∀ W n0, n0 ≤ B → Below n0 W w → Below n0 W w2 := by
  have h1 := heap_setCell_same w B 0 _ t a h; have h2 := heap_setCell_same _ B 1 _ t b h1; refine ⟨_, _, rfl, rfl, ⟨?_, frozen_of_row _ _ _ _ _ h⟩, ⟨?_, frozen_of_row _ _ _ _ _ h1⟩, ?_, ?_, ?_, ?_⟩
  · rw [cell_of_row _ _ _ _ _ _ h]; rfl
  · rw [cell_of_row _ _ _ _ _ _ h1]; rfl
  · rw [h2]; rfl
  · intro k hk
    rw [Below.heap_setCell _ _ _ k hk, Below.heap_setCell _ _ _ k hk]
  · exact Lib.hid (by simp)
  · intro W n0 hn hb
    exact (hb.setCell hn _).setCell hn _
theorem cells2 {w : World} {B : Nat} {t : TypeId} {a b : Value} (h : w.heap[B]? = some (.cells #[a, b] t)) : w.cell? ⟨B, 0, none⟩ = some a ∧ w.cell? ⟨B, 1, none⟩ = some b := by
  refine ⟨?_, ?_⟩ <;> (rw [cell_of_row _ _ _ _ _ _ h]; rfl)
theorem own_same {w w' : World} {B e size n : Nat} {v : Value} {xs : List Value} (h : w.ownsRow B e size v n xs) (hs : ∀ g, v.ownBlock = some g → w'.heap[g]? = w.heap[g]?) : w'.ownsRow B e size v n xs := by
  refine ⟨h.1, ?_⟩
  rcases h.2 with h1 | ⟨g, cap, cur, h1, h2, h3, h4⟩
  · exact .inl h1
  · subst h1
    exact .inr ⟨g, cap, cur, rfl, h2, (hs g rfl).trans h3, h4⟩

structure PlOk (pl : List Int) : Prop where
  len : pl.length ≤ 1000
  in' : ∀ i, i < pl.length → 0 ≤ gi pl i ∧ gi pl i ≤ 100
theorem PlOk.sum {pl : List Int} (h : PlOk pl) (k : Nat) (hk : k ≤ pl.length) : 0 ≤ sumT pl k ∧ sumT pl k ≤ 100000 := by
  have h1 := sumT_le (l := pl) (c := 100) (fun i hi => by have := h.in' i hi; omega) k hk; have h2 := sumT_pos (pl := pl) (fun i hi => (h.in' i hi).1) k hk; have h3 := h.len; omega
def BegunPost (q : Option Addr) (cq : Nat) (pl : List Int) (w : World) (e : Ending) (w' : World) : Prop :=
  ∃ hv, e = .returned (.agg #[.slice q pl.length cq, hv]) ∧ w'.ownsRow w.heap.size 3 1 hv (pl.length + 1) (inV (begF pl)) ∧ Below w.heap.size w w'
set_option maxHeartbeats 800000 in
set_option maxRecDepth 100000 in
theorem c_begun (q : Option Addr) (cq : Nat) (pl : List Int) (w : World) (hq : RdI w q pl) (hp : PlOk pl) : Calls Tryz.prog 110 #[.slice q pl.length cq] w (BegunPost q cq pl w) := by
  obtain ⟨i0, hi0, hz0, hz1, hz2⟩ := info_parts infI; have kb : (w.alloc (.cells #[.slice none 0 0, .slice none 0 0] 98)).heap[w.heap.size]? = some (.cells #[.slice none 0 0, .slice none 0 0] 98 (0, 0)) := alloc_new _ _; obtain ⟨w1, e1, HS1, k0, k1, b1⟩ := box2 w (.slice none 0 0) (.slice none 0 0) 98
  have hrow : (w1.alloc (.cells #[.int .i64 0] 3)).ownsRow w1.heap.size 3 1 (.slice (some ⟨w1.heap.size, 0, none⟩) 1 1) 1 (inV (begTo pl 0)) := by
    rw [begTo_zero]; exact World.ownsRow_lit w1 #[.int .i64 0] 1 (Nat.le_refl _) (by unfold maxLen; omega) (by simp)
  obtain ⟨w2, e2, HS2, _, _, b2⟩ := box1 w1 (.int .i64 0) 3; rw [e1] at kb; rw [e2] at hrow; have HKB := Lib.hid kb; have HO0 := Lib.hid hrow; have HB2 := Lib.hid b2; have HB1 := Lib.hid b1; have HQ := Lib.hid (hq.below b1); have HP := Lib.hid hp; have hl := hp.len; clear hq hp kb hrow b1 b2 k0 k1
  go_enter Tryz.func110, Tryz.ntmps110
  go_wp2; clear e1 e2
  go_loopw [3, 9] (fun v i wr => ∃ k : Nat, k ≤ pl.length ∧ i = .int .i64 k ∧ (∃ g cap, v = .slice (some ⟨g, 0, none⟩) (k + 1) cap ∧ Hid (wr.ownsRow w1.heap.size 3 1 (.slice (some ⟨g, 0, none⟩) (k + 1) cap) (k + 1) (inV (begTo pl k)))) ∧ Below w1.heap.size w1 wr) (fun _ i _ => pl.length - (intOf i).toNat)
  case atStart => exact ⟨0, by omega, rfl, ⟨w1.heap.size, 1, rfl, HO0⟩, HB2.out⟩
  case round =>
    obtain ⟨k, hk, rfl, ⟨g, cap, rfl, HO⟩, hnx⟩ := hrel; have hbx := Lib.hid (hnx.block w.heap.size (by have := HS1.out; omega)); have HN := Lib.hid hnx
    by_cases hlt : k < pl.length
    · obtain ⟨b, off, rfl, hc⟩ := (HQ.out.below hnx).at hlt
      have e1 := hc k hlt; have e2 := own_cell HO.out (j := k) (by rw [begTo_len]; omega); have hsk := HP.out.sum k (by omega); have hsp := HP.out.in' k hlt; have HE := Lib.hid (begTo_at pl k k (Nat.le_refl _)); have hw : IntKind.i64.wrap (gi (begTo pl k) k - gi pl k) = gi (begTo pl k) k - gi pl k := by rw [HE.out]; exact w64 _ (by omega) (by omega)
      have HT := Lib.hid (begTo_succ pl k); have hsz := hnx.size; clear hc hnx hsk hsp; go_wp2_with (at_builtin; refine wpList_append_own _ rfl _ _ 24 rfl w1.heap.size 3 i0 _ 1 8 Tryz.underlying24 hi0 hz0 hz1 hz2 rfl (by decide) _ _ _ rfl (HO.out.alloc _) ⟨wr.heap.size, 0, none⟩ 1 1 [.int .i64 (gi (begTo pl k) k - gi pl k)] rfl rfl ?c1 ?c2 ?c3 ?c4 ?c5 ?_)
      case c1 => exact news_of _ _ _
      case c2 => intro u hu; simp at hu; subst hu; rfl
      case c3 => unfold maxLen; omega
      case c4 => omega
      case c5 => simp; omega
      intro v' w3 hown' hgrow _; have hlt' := HO.out.lt; have HN' := Lib.hid (HN.out.trans (((Below.refl w1.heap.size wr).alloc HN.out.size _).grown hgrow (by have := HN.out.size; simp; omega) (fun j hj => (hlt' j hj).1))); have HO' := Lib.hid hown'
      obtain ⟨g', cap', rfl⟩ : ∃ g' cap', v' = .slice (some ⟨g', 0, none⟩) (k + 1 + 1) cap' := by
        rcases hown'.2 with ⟨_, h0⟩ | ⟨g', cap', cur, h1, _⟩
        · omega
        · exact ⟨g', cap', h1⟩
      clear hown' hgrow hlt'; go_wp2; go_roundw
      case rel =>
        refine ⟨k + 1, by omega, by go_num, ⟨g', cap', rfl, Lib.hid ?_⟩, HN'.out⟩; have := HO'.out; rw [HT.out, inV_append]; exact this
      case measure => simp [intOf]; omega
    · obtain rfl : k = pl.length := by omega
      have HKR := Lib.hid (hbx.out.trans HKB.out); obtain ⟨w3, w4, s1, s2, ⟨c0, f0⟩, ⟨c1, f1⟩, hx4, hxk, HZ, hxb⟩ := set2 wr w.heap.size 98 _ _ (.slice q pl.length cq) (.slice (some ⟨g, 0, none⟩) (pl.length + 1) cap) HKR.out; obtain ⟨r0, r1⟩ := cells2 hx4; have HOW := Lib.hid (own_same HO.out (w' := w4) (fun g' hg' => hxk g' (by have := own_lt HO.out; have h2 := HS1.out; simp [Value.ownBlock] at hg'; omega))); have HBB := Lib.hid (hxb w w.heap.size (Nat.le_refl _) (HB1.out.trans (hnx.mono HB1.out.size))); clear hnx hbx hx4 hxk hxb; go_wp2; refine bodyPost_ret (v := .agg #[.slice q pl.length cq, .slice (some ⟨g, 0, none⟩) (pl.length + 1) cap]) ?_ rfl ⟨_, rfl, ?_, HBB.out⟩
      · simp [results, Tryz.results110, go_sem, r0, r1]
      · rw [← begTo_all]; exact own_mono HOW.out (by have := HS1.out; omega)
end Go.Proofs.YtbknfddaoolagaaGreatDoor
end

section
namespace Go.Proofs.YtbknfddaoolagaaGreatDoor
open Go Go.RowKit Go.Proofs
set_option linter.unusedVariables false
attribute [local go_sem] imax2 imin2

theorem wq_inv {P : Program} {C : World → Prop} {ops : Array Oper} {Q : Act → Prop} {rest : List Oper} {a : Act} {d : Nat} {x : Operand} {ty : TypeId} {pos nm : String} {af : Array Edge} {g : Option (Nat × Bool)} {ats : Array TypeId} {v : Value} {f : FuncId} {ars : Array Value}
    (hr : ∀ w, (execOp a.eval ⟨some d, .call ⟨.invoke x nm, #[], ats⟩, ty, pos, af, g⟩).run P w = .ok (.enter f ars) w)
    (hc : ∀ w, C w → Calls P f ars w fun e w' => e = .returned v ∧ C w') (hw : Region.wanted ⟨some d, .call ⟨.invoke x nm, #[], ats⟩, ty, pos, af, g⟩ (yielded ops a.tmps) = true)
    (hk : wpQuiet P ops C Q rest (a.put (some d) v)) : wpQuiet P ops C Q (⟨some d, .call ⟨.invoke x nm, #[], ats⟩, ty, pos, af, g⟩ :: rest) a :=
  wq hw (q_call v f ars (fun w _ => hr w) hc hk)

def AfterPost (q : Option Addr) (cq : Nat) (pl pc : List Int) (m : Int) (w : World) (e : Ending) (w' : World) : Prop :=
  ∃ hv, e = .returned (.agg #[.slice q pl.length cq, hv]) ∧ w'.ownsRow w.heap.size 3 1 hv (pl.length + 1) (inV (mvF pl pc m)) ∧ Below w.heap.size w w'
theorem asOn (v : Value) (w : World) : (Instr.typeAssert (.iface 184 v) 156 184 true).run Tryz.prog w = .ok (.tuple #[v, .bool true]) w := by kernel_rfl
theorem asBackOn (v : Value) (w : World) : (Instr.typeAssert (.iface 185 v) 156 184 true).run Tryz.prog w = .ok (.tuple #[.int .i64 0, .bool false]) w := by kernel_rfl
theorem asBack (v : Value) (w : World) : (Instr.typeAssert (.iface 185 v) 156 185 true).run Tryz.prog w = .ok (.tuple #[v, .bool true]) w := by kernel_rfl
attribute [local go_sem] asOn asBackOn asBack
set_option maxHeartbeats 1600000 in
set_option maxRecDepth 100000 in
theorem c_after_on (q : Option Addr) (cq : Nat) (pl : List Int) (pb po pcap : Nat) (pc : List Int) (m : Int) (w : World) (hq : RdI w q pl) (hpc : RdI w (some ⟨pb, po, none⟩) pc) (hp : PlOk pl) (hch : Chain pl pc) (hr : ∀ i, i < pc.length → -100000 ≤ gi pc i ∧ gi pc i ≤ 100000) (hm : 0 ≤ m) (hm2 : m ≤ 100000) :
    Calls Tryz.prog 111 #[.agg #[.slice q pl.length cq, .slice (some ⟨pb, po, none⟩) pc.length pcap], .iface 184 (.int .i64 m)] w (AfterPost q cq pl pc m w) := by
  obtain ⟨w1, e1, HS1, k0, k1, b1⟩ := box2 w (.slice q pl.length cq) (.slice (some ⟨pb, po, none⟩) pc.length pcap) 98; have kb := alloc_new w1 (.cells #[.slice none 0 0, .slice none 0 0] 98); obtain ⟨w2, e2, HS2, _, _, b2⟩ := box2 w1 (.slice none 0 0) (.slice none 0 0) 98; rw [e2] at kb; have hcl := c_Clone pb po pcap pc w2 ((hpc.below b1).below b2) (by have := hch.len; have := hp.len; omega); have k0 := (b2.cell (lt_of_cellq k0)).trans k0; have k1 := (b2.cell (lt_of_cellq k1)).trans k1; have HQ := Lib.hid ((hq.below b1).below b2); have HB := Lib.hid (b1.trans (b2.mono b1.size)); have HK0 := Lib.hid k0; have HKB := Lib.hid kb; have HP := Lib.hid hp; have HCH := Lib.hid hch; have HR := Lib.hid hr; have HLE := Lib.hid hch.len; have HNB := Lib.hid (show -100000 ≤ -m ∧ -m ≤ 100000 ∨ 0 ≤ m by omega); clear hq hpc hp hch hr b1 b2
  go_enter Tryz.func111, Tryz.ntmps111
  go_wp2_with fail; refine hcl.mono ?_; rintro e w3 ⟨v, rfl, hown, hb3⟩; clear e1 e2 hcl
  obtain ⟨g, cap, rfl⟩ : ∃ g cap, v = .slice (some ⟨g, 0, none⟩) pc.length cap := by
    rcases hown.2 with ⟨_, h0⟩ | ⟨g', cap', cur, h1, _⟩
    · have := HLE.out; omega
    · exact ⟨g', cap', h1⟩
  have e0 := own_cell hown (j := 0) (by have := HLE.out; omega); have HOW := Lib.hid hown; have HB3 := Lib.hid hb3; have hr0 := HR.out 0 (by have := HLE.out; omega); obtain ⟨hr01, hr02⟩ := hr0; have h0l : 0 < pc.length := by have := HLE.out; omega
  clear hown hb3 kb k0 k1; go_upto_region 2 with (fail); refine wp_region_below_tail 7 (by kernel_rfl) (by kernel_rfl) ?_; simp only [List.take_succ_cons, List.take_zero, List.drop_succ_cons, List.drop_zero]; (repeat (first | ((with_reducible first | apply wq_fg faP0 | apply wq_fg faP1 | apply wq_fg faP2 | apply wq_fg faM0 | apply wq_fg faS0 | apply wq_fg faS1 | apply wq_fg faR0 | apply wq_fg faR1 | apply wq_fg faR2 | apply wq_fg faR3 | apply wq_fg faT0 | apply wq_fg faT1 | apply wq_fg faQ0 | apply wq_fg faQ1 | apply wq_fg faH0 | apply wq_fg faH1 | apply wq_fg faH2 | apply wq_fg faH3); (focus rfl); (focus rfl); go_frame) | ((with_reducible refine wq_inv (v := .int .i64 m) (f := 184) (ars := #[.int .i64 m]) (fun _ => by kernel_rfl) (fun w' hw => (c_on m w').mono fun e w'' h => ⟨h.1, h.2 ▸ hw⟩) ?_ ?_); (focus rfl); go_frame) | ((with_reducible first | apply wq_ix Tryz.underlying24 szI | apply wq_ix Tryz.underlying38 szSp | apply wq_ix Tryz.underlying23 szM | apply wq_ix Tryz.underlying25 szR | apply wq_ix Tryz.underlying51 szL | apply wq_ix Tryz.underlying91 szT); (focus rfl); (focus rfl); (focus rfl); (focus omega); (try simp only [Nat.mul_one]); go_frame) | ((with_reducible first | apply wq_ld agI | apply wq_ld agB | apply wq_ld agLI | apply wq_ld agLS | apply wq_ld agLM | apply wq_ld agLR | apply wq_ld agLL | apply wq_ld agLT); (focus rfl); (focus rfl); (focus (intro _ hbq; first | exact (hbq.cell (lt_of_cellq e0)).trans e0)); go_frame) | ((with_reducible first | apply wq_add | apply wq_sub | apply wq_mul | apply wq_rem); (focus rfl); (focus rfl); (focus rfl); (focus omega); (focus omega); go_frame) | ((with_reducible first | apply wq_eql | apply wq_neq | apply wq_lss | apply wq_leq | apply wq_gtr | apply wq_geq | apply wq_max2 | apply wq_min2); (focus rfl); (focus rfl); (focus rfl); go_frame) | ((with_reducible first | apply wq_max3 | apply wq_min3); (focus rfl); (focus rfl); (focus rfl); (focus rfl); go_frame) | go_big_quiet_step (fail))); refine wpQuiet_nil ?_; intro wq hbq
  have e0 := (hbq.cell (lt_of_cellq e0)).trans e0; have f0 := (hbq.frozen (p := ⟨g, 0, none⟩) (own_lt HOW.out).2).trans (own_frozen HOW.out 0); obtain ⟨w4, s4⟩ : ∃ w4, wq.setCell ⟨g, 0, none⟩ (.int .i64 (gi pc 0 + m)) = w4 := ⟨_, rfl⟩
  have HO4 := Lib.hid (show w4.ownsRow w2.heap.size 3 1 (.slice (some ⟨g, 0, none⟩) pc.length cap) pc.length (inV (mvTo pl pc m 0)) by
    have := own_put (own_kept HOW.out hbq) (j := 0) h0l (.int .i64 (gi pc 0 + m)); rw [inV_set, mvTo_zero m HLE.out, s4] at this; exact this)
  have HB4 := Lib.hid (show Below w2.heap.size w2 w4 by
    have := (HB3.out.trans (hbq.mono HB3.out.size)).setCell (p := ⟨g, 0, none⟩) (own_lt HOW.out).1 (.int .i64 (gi pc 0 + m)); rw [s4] at this; exact this)
  have k0 := (HB4.out.cell (lt_of_cellq HK0.out)).trans HK0.out; clear hbq; go_wp2; clear s4 e0 f0
  go_loopw [21] (fun i wr => ∃ k : Nat, k ≤ pl.length ∧ i = .int .i64 k ∧ Hid (wr.ownsRow w2.heap.size 3 1 (.slice (some ⟨g, 0, none⟩) pc.length cap) pc.length (inV (mvTo pl pc m k))) ∧ Below w2.heap.size w2 wr) (fun i _ => pl.length - (intOf i).toNat)
  case atStart => exact ⟨0, by omega, rfl, HO4, HB4.out⟩
  case round =>
    obtain ⟨k, hk, rfl, HO, hnx⟩ := hrel; have HN := Lib.hid hnx
    by_cases hlt : k < pl.length
    · obtain ⟨b, off, rfl, hc⟩ := (HQ.out.below hnx).at hlt
      have e1 := hc k hlt; have hle := HLE.out; have e2 : wr.cell? ⟨g, 0 + k, none⟩ = some (.int .i64 (gi (mvTo pl pc m k) k)) := by rw [Nat.zero_add]; exact own_cell HO.out (by rw [mvTo_len]; omega)
      have e3 : wr.cell? ⟨g, 0 + (k + 1), none⟩ = some (.int .i64 (gi (mvTo pl pc m k) (k + 1))) := by rw [Nat.zero_add]; exact own_cell HO.out (by rw [mvTo_len]; omega)
      have f3 : wr.frozen? ⟨g, 0 + (k + 1), none⟩ = false := own_frozen HO.out _
      have hrk : -1000000 ≤ gi (mvTo pl pc m k) k ∧ gi (mvTo pl pc m k) k ≤ 1000000 := by
        rw [mvTo_done pl pc m k (by omega), mvF_on hm k (by omega)]; have h1 := HP.out.sum k (by omega); have h2 := HR.out k (by omega); omega
      have hrp := HP.out.in' k hlt; obtain ⟨hrk1, hrk2⟩ := hrk; obtain ⟨hrp1, hrp2⟩ := hrp; have HV := Lib.hid (show max (gi (mvTo pl pc m k) (k + 1)) (gi (mvTo pl pc m k) k - gi pl k) = gi (mvF pl pc m) (k + 1) by rw [mvTo_next pl pc m k hlt, mvTo_done pl pc m k (by omega)]; exact (mvF_stepOn HCH.out hm k hlt).symm); have HKS := Lib.hid (show (k : Int) + 1 = ((k + 1 : Nat) : Int) by omega); have HLEH := Lib.hid hle; have hpl := HP.out.len; have hl1 : k + 1 < pc.length := by omega
      have hl0 : k < pc.length := by omega
      clear hc hnx hle; go_upto_region 8 with (fail); refine wp_region_below_tail 16 (by kernel_rfl) (by kernel_rfl) ?_; simp only [List.take_succ_cons, List.take_zero, List.drop_succ_cons, List.drop_zero]; (repeat (first | ((with_reducible first | apply wq_fg faP0 | apply wq_fg faP1 | apply wq_fg faP2 | apply wq_fg faM0 | apply wq_fg faS0 | apply wq_fg faS1 | apply wq_fg faR0 | apply wq_fg faR1 | apply wq_fg faR2 | apply wq_fg faR3 | apply wq_fg faT0 | apply wq_fg faT1 | apply wq_fg faQ0 | apply wq_fg faQ1 | apply wq_fg faH0 | apply wq_fg faH1 | apply wq_fg faH2 | apply wq_fg faH3); (focus rfl); (focus rfl); go_frame) | (rw [HKS.out]) | ((with_reducible first | apply wq_ix Tryz.underlying24 szI | apply wq_ix Tryz.underlying38 szSp | apply wq_ix Tryz.underlying23 szM | apply wq_ix Tryz.underlying25 szR | apply wq_ix Tryz.underlying51 szL | apply wq_ix Tryz.underlying91 szT); (focus rfl); (focus rfl); (focus rfl); (focus omega); (try simp only [Nat.mul_one]); go_frame) | ((with_reducible first | apply wq_ld agI | apply wq_ld agB | apply wq_ld agLI | apply wq_ld agLS | apply wq_ld agLM | apply wq_ld agLR | apply wq_ld agLL | apply wq_ld agLT); (focus rfl); (focus rfl); (focus (intro _ hbq; first | exact (hbq.cell (lt_of_cellq e2)).trans e2 | exact (hbq.cell (lt_of_cellq e3)).trans e3)); go_frame) | ((with_reducible first | apply wq_add | apply wq_sub | apply wq_mul | apply wq_rem); (focus rfl); (focus rfl); (focus rfl); (focus omega); (focus omega); go_frame) | ((with_reducible first | apply wq_eql | apply wq_neq | apply wq_lss | apply wq_leq | apply wq_gtr | apply wq_geq | apply wq_max2 | apply wq_min2); (focus rfl); (focus rfl); (focus rfl); go_frame) | ((with_reducible first | apply wq_max3 | apply wq_min3); (focus rfl); (focus rfl); (focus rfl); (focus rfl); go_frame) | go_big_quiet_step (fail))); refine wpQuiet_nil ?_; intro wq hbq
      have e3 := (hbq.cell (lt_of_cellq e3)).trans e3; have f3 := (hbq.frozen (p := ⟨g, 0 + (k + 1), none⟩) (own_lt HO.out).2).trans f3; obtain ⟨w5, s5⟩ : ∃ w5, wq.setCell ⟨g, 0 + (k + 1), none⟩ (.int .i64 (gi (mvF pl pc m) (k + 1))) = w5 := ⟨_, rfl⟩
      have HO5 := Lib.hid (show w5.ownsRow w2.heap.size 3 1 (.slice (some ⟨g, 0, none⟩) pc.length cap) pc.length (inV (mvTo pl pc m (k + 1))) by
        have := own_put (own_kept HO.out hbq) (j := k + 1) hl1 (.int .i64 (gi (mvF pl pc m) (k + 1))); rw [inV_set, mvTo_succ pl pc m k hlt] at this; rw [Nat.zero_add] at s5; rw [s5] at this; exact this)
      have HB5 := Lib.hid (show Below w2.heap.size w2 w5 by
        have := (HN.out.trans (hbq.mono HN.out.size)).setCell (p := ⟨g, 0 + (k + 1), none⟩) (own_lt HO.out).1 (.int .i64 (gi (mvF pl pc m) (k + 1))); rw [s5] at this; exact this)
      clear hbq e1 e2; rw [HV.out]; rw [Nat.zero_add] at e3 f3 s5; go_wp2; clear s5 e3 f3; go_roundw
      case rel => exact ⟨k + 1, by omega, by go_num, HO5, HB5.out⟩
      case measure => simp [intOf]; omega
    · obtain rfl : k = pl.length := by omega
      have k0 := (hnx.cell (lt_of_cellq HK0.out)).trans HK0.out; have HKR := Lib.hid ((hnx.block w1.heap.size (by have := HS2.out; omega)).trans HKB.out); obtain ⟨w5, w6, s1, s2, ⟨c0, f0⟩, ⟨c1, f1⟩, hx4, hxk, HZ, hxb⟩ := set2 wr w1.heap.size 98 _ _ (.slice q pl.length cq) (.slice (some ⟨g, 0, none⟩) pc.length cap) HKR.out; obtain ⟨r0, r1⟩ := cells2 hx4; have HOW6 := Lib.hid (own_same HO.out (w' := w6) (fun g' hg' => hxk g' (by have := own_lt HO.out; have h2 := HS2.out; simp [Value.ownBlock] at hg'; omega))); have HBB := Lib.hid (hxb w w.heap.size (by have := HS1.out; omega) (HB.out.trans (hnx.mono HB.out.size))); clear hnx hx4 hxk hxb; go_wp2; refine bodyPost_ret (v := .agg #[.slice q pl.length cq, .slice (some ⟨g, 0, none⟩) pc.length cap]) ?_ rfl ⟨_, rfl, ?_, HBB.out⟩
      · simp [results, Tryz.results111, go_sem, r0, r1]
      · have := HOW6.out
        rw [mvTo_all] at this; rw [← HLE.out]; exact own_mono this HB.out.size
theorem mvF_backZ {pl pc : List Int} {m : Int} (hc : Chain pl pc) (hm : m ≤ 0) (k : Nat) (h : k ≤ pl.length) : gi (mvF pl pc m) k = min (gi pc k) (gi pc 0 + m) := by
  by_cases h0 : m = 0
  · subst h0
    rw [mvF_on (Int.le_refl 0) k h]; have := hc.low k h; have := hc.top k h; omega
  · exact mvF_back (by omega) k h
theorem mvF_stepBackZ {pl pc : List Int} {m : Int} (hc : Chain pl pc) (hm : m ≤ 0) (k : Nat) (h : k < pl.length) : gi (mvF pl pc m) (k + 1) = min (gi pc (k + 1)) (gi (mvF pl pc m) k) := by
  rw [mvF_backZ hc hm k (by omega), mvF_backZ hc hm (k + 1) (by omega)]; have := hc.le k h; omega
set_option maxHeartbeats 1600000 in
set_option maxRecDepth 100000 in
theorem c_after_back (q : Option Addr) (cq : Nat) (pl : List Int) (pb po pcap : Nat) (pc : List Int) (m : Int) (w : World) (hq : RdI w q pl) (hpc : RdI w (some ⟨pb, po, none⟩) pc) (hp : PlOk pl) (hch : Chain pl pc) (hr : ∀ i, i < pc.length → -100000 ≤ gi pc i ∧ gi pc i ≤ 100000) (hm : m ≤ 0) (hm2 : -100000 ≤ m) :
    Calls Tryz.prog 111 #[.agg #[.slice q pl.length cq, .slice (some ⟨pb, po, none⟩) pc.length pcap], .iface 185 (.int .i64 (-m))] w (AfterPost q cq pl pc m w) := by
  obtain ⟨w1, e1, HS1, k0, k1, b1⟩ := box2 w (.slice q pl.length cq) (.slice (some ⟨pb, po, none⟩) pc.length pcap) 98; have kb := alloc_new w1 (.cells #[.slice none 0 0, .slice none 0 0] 98); obtain ⟨w2, e2, HS2, _, _, b2⟩ := box2 w1 (.slice none 0 0) (.slice none 0 0) 98; rw [e2] at kb; have hcl := c_Clone pb po pcap pc w2 ((hpc.below b1).below b2) (by have := hch.len; have := hp.len; omega); have k0 := (b2.cell (lt_of_cellq k0)).trans k0; have k1 := (b2.cell (lt_of_cellq k1)).trans k1; have HQ := Lib.hid ((hq.below b1).below b2); have HB := Lib.hid (b1.trans (b2.mono b1.size)); have HK0 := Lib.hid k0; have HKB := Lib.hid kb; have HP := Lib.hid hp; have HCH := Lib.hid hch; have HR := Lib.hid hr; have HLE := Lib.hid hch.len; have HNB := Lib.hid (show -100000 ≤ -m ∧ -m ≤ 100000 ∨ 0 ≤ m by omega); clear hq hpc hp hch hr b1 b2
  go_enter Tryz.func111, Tryz.ntmps111
  go_wp2_with fail; refine hcl.mono ?_; rintro e w3 ⟨v, rfl, hown, hb3⟩; clear e1 e2 hcl
  obtain ⟨g, cap, rfl⟩ : ∃ g cap, v = .slice (some ⟨g, 0, none⟩) pc.length cap := by
    rcases hown.2 with ⟨_, h0⟩ | ⟨g', cap', cur, h1, _⟩
    · have := HLE.out; omega
    · exact ⟨g', cap', h1⟩
  have e0 := own_cell hown (j := 0) (by have := HLE.out; omega); have HOW := Lib.hid hown; have HB3 := Lib.hid hb3; have hr0 := HR.out 0 (by have := HLE.out; omega); obtain ⟨hr01, hr02⟩ := hr0; have h0l : 0 < pc.length := by have := HLE.out; omega
  clear hown hb3 kb k0 k1; go_upto_region 2 with (fail); refine wp_region_below_tail 7 (by kernel_rfl) (by kernel_rfl) ?_; simp only [List.take_succ_cons, List.take_zero, List.drop_succ_cons, List.drop_zero]; (repeat (first | ((with_reducible first | apply wq_fg faP0 | apply wq_fg faP1 | apply wq_fg faP2 | apply wq_fg faM0 | apply wq_fg faS0 | apply wq_fg faS1 | apply wq_fg faR0 | apply wq_fg faR1 | apply wq_fg faR2 | apply wq_fg faR3 | apply wq_fg faT0 | apply wq_fg faT1 | apply wq_fg faQ0 | apply wq_fg faQ1 | apply wq_fg faH0 | apply wq_fg faH1 | apply wq_fg faH2 | apply wq_fg faH3); (focus rfl); (focus rfl); go_frame) | ((with_reducible refine wq_inv (v := .int .i64 m) (f := 185) (ars := #[.int .i64 (-m)]) (fun _ => by kernel_rfl) (fun w' hw => (c_back (-m) w' (by omega)).mono fun e w'' h => ⟨by rw [h.1, Int.neg_neg], h.2 ▸ hw⟩) ?_ ?_); (focus rfl); go_frame) | ((with_reducible first | apply wq_ix Tryz.underlying24 szI | apply wq_ix Tryz.underlying38 szSp | apply wq_ix Tryz.underlying23 szM | apply wq_ix Tryz.underlying25 szR | apply wq_ix Tryz.underlying51 szL | apply wq_ix Tryz.underlying91 szT); (focus rfl); (focus rfl); (focus rfl); (focus omega); (try simp only [Nat.mul_one]); go_frame) | ((with_reducible first | apply wq_ld agI | apply wq_ld agB | apply wq_ld agLI | apply wq_ld agLS | apply wq_ld agLM | apply wq_ld agLR | apply wq_ld agLL | apply wq_ld agLT); (focus rfl); (focus rfl); (focus (intro _ hbq; first | exact (hbq.cell (lt_of_cellq e0)).trans e0)); go_frame) | ((with_reducible first | apply wq_add | apply wq_sub | apply wq_mul | apply wq_rem); (focus rfl); (focus rfl); (focus rfl); (focus omega); (focus omega); go_frame) | ((with_reducible first | apply wq_eql | apply wq_neq | apply wq_lss | apply wq_leq | apply wq_gtr | apply wq_geq | apply wq_max2 | apply wq_min2); (focus rfl); (focus rfl); (focus rfl); go_frame) | ((with_reducible first | apply wq_max3 | apply wq_min3); (focus rfl); (focus rfl); (focus rfl); (focus rfl); go_frame) | go_big_quiet_step (fail))); refine wpQuiet_nil ?_; intro wq hbq
  have e0 := (hbq.cell (lt_of_cellq e0)).trans e0; have f0 := (hbq.frozen (p := ⟨g, 0, none⟩) (own_lt HOW.out).2).trans (own_frozen HOW.out 0); obtain ⟨w4, s4⟩ : ∃ w4, wq.setCell ⟨g, 0, none⟩ (.int .i64 (gi pc 0 + m)) = w4 := ⟨_, rfl⟩
  have HO4 := Lib.hid (show w4.ownsRow w2.heap.size 3 1 (.slice (some ⟨g, 0, none⟩) pc.length cap) pc.length (inV (mvTo pl pc m 0)) by
    have := own_put (own_kept HOW.out hbq) (j := 0) h0l (.int .i64 (gi pc 0 + m)); rw [inV_set, mvTo_zero m HLE.out, s4] at this; exact this)
  have HB4 := Lib.hid (show Below w2.heap.size w2 w4 by
    have := (HB3.out.trans (hbq.mono HB3.out.size)).setCell (p := ⟨g, 0, none⟩) (own_lt HOW.out).1 (.int .i64 (gi pc 0 + m)); rw [s4] at this; exact this)
  have k0 := (HB4.out.cell (lt_of_cellq HK0.out)).trans HK0.out; clear hbq; go_wp2; clear s4 e0 f0
  go_loopw [21] (fun i wr => ∃ k : Nat, k ≤ pl.length ∧ i = .int .i64 k ∧ Hid (wr.ownsRow w2.heap.size 3 1 (.slice (some ⟨g, 0, none⟩) pc.length cap) pc.length (inV (mvTo pl pc m k))) ∧ Below w2.heap.size w2 wr) (fun i _ => pl.length - (intOf i).toNat)
  case atStart => exact ⟨0, by omega, rfl, HO4, HB4.out⟩
  case round =>
    obtain ⟨k, hk, rfl, HO, hnx⟩ := hrel; have HN := Lib.hid hnx
    by_cases hlt : k < pl.length
    · obtain ⟨b, off, rfl, hc⟩ := (HQ.out.below hnx).at hlt
      have e1 := hc k hlt; have hle := HLE.out; have e2 : wr.cell? ⟨g, 0 + k, none⟩ = some (.int .i64 (gi (mvTo pl pc m k) k)) := by rw [Nat.zero_add]; exact own_cell HO.out (by rw [mvTo_len]; omega)
      have e3 : wr.cell? ⟨g, 0 + (k + 1), none⟩ = some (.int .i64 (gi (mvTo pl pc m k) (k + 1))) := by rw [Nat.zero_add]; exact own_cell HO.out (by rw [mvTo_len]; omega)
      have f3 : wr.frozen? ⟨g, 0 + (k + 1), none⟩ = false := own_frozen HO.out _
      have hrk : -1000000 ≤ gi (mvTo pl pc m k) k ∧ gi (mvTo pl pc m k) k ≤ 1000000 := by
        rw [mvTo_done pl pc m k (by omega), mvF_backZ HCH.out hm k (by omega)]; have h1 := HP.out.sum k (by omega); have h2 := HR.out k (by omega); omega
      have hrp := HP.out.in' k hlt; obtain ⟨hrk1, hrk2⟩ := hrk; obtain ⟨hrp1, hrp2⟩ := hrp; have HV := Lib.hid (show min (gi (mvTo pl pc m k) (k + 1)) (gi (mvTo pl pc m k) k) = gi (mvF pl pc m) (k + 1) by rw [mvTo_next pl pc m k hlt, mvTo_done pl pc m k (by omega)]; exact (mvF_stepBackZ HCH.out hm k hlt).symm); have HKS := Lib.hid (show (k : Int) + 1 = ((k + 1 : Nat) : Int) by omega); have HLEH := Lib.hid hle; have hpl := HP.out.len; have hl1 : k + 1 < pc.length := by omega
      have hl0 : k < pc.length := by omega
      clear hc hnx hle; go_upto_region 10 with (fail); refine wp_region_below_tail 14 (by kernel_rfl) (by kernel_rfl) ?_; simp only [List.take_succ_cons, List.take_zero, List.drop_succ_cons, List.drop_zero]; (repeat (first | ((with_reducible first | apply wq_fg faP0 | apply wq_fg faP1 | apply wq_fg faP2 | apply wq_fg faM0 | apply wq_fg faS0 | apply wq_fg faS1 | apply wq_fg faR0 | apply wq_fg faR1 | apply wq_fg faR2 | apply wq_fg faR3 | apply wq_fg faT0 | apply wq_fg faT1 | apply wq_fg faQ0 | apply wq_fg faQ1 | apply wq_fg faH0 | apply wq_fg faH1 | apply wq_fg faH2 | apply wq_fg faH3); (focus rfl); (focus rfl); go_frame) | (rw [HKS.out]) | ((with_reducible first | apply wq_ix Tryz.underlying24 szI | apply wq_ix Tryz.underlying38 szSp | apply wq_ix Tryz.underlying23 szM | apply wq_ix Tryz.underlying25 szR | apply wq_ix Tryz.underlying51 szL | apply wq_ix Tryz.underlying91 szT); (focus rfl); (focus rfl); (focus rfl); (focus omega); (try simp only [Nat.mul_one]); go_frame) | ((with_reducible first | apply wq_ld agI | apply wq_ld agB | apply wq_ld agLI | apply wq_ld agLS | apply wq_ld agLM | apply wq_ld agLR | apply wq_ld agLL | apply wq_ld agLT); (focus rfl); (focus rfl); (focus (intro _ hbq; first | exact (hbq.cell (lt_of_cellq e2)).trans e2 | exact (hbq.cell (lt_of_cellq e3)).trans e3)); go_frame) | ((with_reducible first | apply wq_add | apply wq_sub | apply wq_mul | apply wq_rem); (focus rfl); (focus rfl); (focus rfl); (focus omega); (focus omega); go_frame) | ((with_reducible first | apply wq_eql | apply wq_neq | apply wq_lss | apply wq_leq | apply wq_gtr | apply wq_geq | apply wq_max2 | apply wq_min2); (focus rfl); (focus rfl); (focus rfl); go_frame) | ((with_reducible first | apply wq_max3 | apply wq_min3); (focus rfl); (focus rfl); (focus rfl); (focus rfl); go_frame) | go_big_quiet_step (fail))); refine wpQuiet_nil ?_; intro wq hbq
      have e3 := (hbq.cell (lt_of_cellq e3)).trans e3; have f3 := (hbq.frozen (p := ⟨g, 0 + (k + 1), none⟩) (own_lt HO.out).2).trans f3; obtain ⟨w5, s5⟩ : ∃ w5, wq.setCell ⟨g, 0 + (k + 1), none⟩ (.int .i64 (gi (mvF pl pc m) (k + 1))) = w5 := ⟨_, rfl⟩
      have HO5 := Lib.hid (show w5.ownsRow w2.heap.size 3 1 (.slice (some ⟨g, 0, none⟩) pc.length cap) pc.length (inV (mvTo pl pc m (k + 1))) by
        have := own_put (own_kept HO.out hbq) (j := k + 1) hl1 (.int .i64 (gi (mvF pl pc m) (k + 1))); rw [inV_set, mvTo_succ pl pc m k hlt] at this; rw [Nat.zero_add] at s5; rw [s5] at this; exact this)
      have HB5 := Lib.hid (show Below w2.heap.size w2 w5 by
        have := (HN.out.trans (hbq.mono HN.out.size)).setCell (p := ⟨g, 0 + (k + 1), none⟩) (own_lt HO.out).1 (.int .i64 (gi (mvF pl pc m) (k + 1))); rw [s5] at this; exact this)
      clear hbq e1 e2; rw [HV.out]; rw [Nat.zero_add] at e3 f3 s5; go_wp2; clear s5 e3 f3; go_roundw
      case rel => exact ⟨k + 1, by omega, by go_num, HO5, HB5.out⟩
      case measure => simp [intOf]; omega
    · obtain rfl : k = pl.length := by omega
      have k0 := (hnx.cell (lt_of_cellq HK0.out)).trans HK0.out; have HKR := Lib.hid ((hnx.block w1.heap.size (by have := HS2.out; omega)).trans HKB.out); obtain ⟨w5, w6, s1, s2, ⟨c0, f0⟩, ⟨c1, f1⟩, hx4, hxk, HZ, hxb⟩ := set2 wr w1.heap.size 98 _ _ (.slice q pl.length cq) (.slice (some ⟨g, 0, none⟩) pc.length cap) HKR.out; obtain ⟨r0, r1⟩ := cells2 hx4; have HOW6 := Lib.hid (own_same HO.out (w' := w6) (fun g' hg' => hxk g' (by have := own_lt HO.out; have h2 := HS2.out; simp [Value.ownBlock] at hg'; omega))); have HBB := Lib.hid (hxb w w.heap.size (by have := HS1.out; omega) (HB.out.trans (hnx.mono HB.out.size))); clear hnx hx4 hxk hxb; go_wp2; refine bodyPost_ret (v := .agg #[.slice q pl.length cq, .slice (some ⟨g, 0, none⟩) pc.length cap]) ?_ rfl ⟨_, rfl, ?_, HBB.out⟩
      · simp [results, Tryz.results111, go_sem, r0, r1]
      · have := HOW6.out
        rw [mvTo_all] at this; rw [← HLE.out]; exact own_mono this HB.out.size
end Go.Proofs.YtbknfddaoolagaaGreatDoor
end

section
namespace Go.Proofs.YtbknfddaoolagaaGreatDoor
open Go Go.RowKit Go.Proofs
set_option linter.unusedVariables false
attribute [local go_sem] imax2 imin2

theorem PlaysOk.plok {p : Pc} (hp : PieceOk p) {pl : List Int} (h : PlaysOk p pl) : PlOk pl := by
  have h1 := pieceB_iff.2 hp
  rw [pieceB_parts] at h1
  simp only [Bool.and_eq_true, decide_eq_true_eq] at h1
  obtain ⟨⟨⟨⟨⟨h1, _⟩, _⟩, _⟩, _⟩, _⟩ := h1
  have := inB_iff.1 h1
  have h2 := h.len
  exact ⟨by omega, h.in'⟩
theorem c_after (q : Option Addr) (cq : Nat) (pl : List Int) (g cap n : Nat) (pc : List Int) (m : Int) (w : World) (hq : RdI w q pl) (hpc : RdI w (some ⟨g, 0, none⟩) pc) (hn : pc.length = n) (hp : PlOk pl) (hch : Chain pl pc) (hr : ∀ i, i < pc.length → -100000 ≤ gi pc i ∧ gi pc i ≤ 100000) (hm : -100000 ≤ m ∧ m ≤ 100000) :
    Calls Tryz.prog 111 #[.agg #[.slice q pl.length cq, .slice (some ⟨g, 0, none⟩) n cap], mvV m] w (AfterPost q cq pl pc m w) := by
  subst hn
  by_cases h : 0 ≤ m
  · rw [mvV_on h]; exact c_after_on q cq pl g 0 cap pc m w hq hpc hp hch hr h hm.2
  · rw [mvV_back (by omega)]; exact c_after_back q cq pl g 0 cap pc m w hq hpc hp hch hr (by omega) hm.1
def trV (pv : Value) : List Value → List Value
  | [] => []
  | h :: r => pv :: h :: trV pv r
theorem trV_append (pv : Value) (a b : List Value) : trV pv (a ++ b) = trV pv a ++ trV pv b := by
  induction a with
  | nil => rfl
  | cons h r ih => simp [trV, ih]
theorem trV_get (pv : Value) : ∀ (hs : List Value) (i : Nat) (h : Value), hs[i]? = some h → (trV pv hs)[i * 2]? = some pv ∧ (trV pv hs)[i * 2 + 1]? = some h := by
  intro hs
  induction hs with
  | nil => intro i h hh; simp at hh
  | cons x r ih =>
    intro i h hh
    cases i with
    | zero => simp at hh; subst hh; exact ⟨rfl, rfl⟩
    | succ i =>
      rw [show (i + 1) * 2 = i * 2 + 2 by omega]
      exact ih i h (by simpa using hh)
def ElC (w : World) (B : Nat) (css : List (List Int)) (hs : List Value) : Prop := hs.length = css.length ∧ ∀ i, i < css.length → ∃ g cap, hs[i]? = some (.slice (some ⟨g, 0, none⟩) (gl css i).length cap) ∧ w.ownsRow B 3 1 (.slice (some ⟨g, 0, none⟩) (gl css i).length cap) (gl css i).length (inV (gl css i))
theorem ElC.below {w w' : World} {B : Nat} {css : List (List Int)} {hs : List Value} (h : ElC w B css hs) (hb : Below w.heap.size w w') : ElC w' B css hs := by
  refine ⟨h.1, fun i hi => ?_⟩
  obtain ⟨g, cap, e1, e2⟩ := h.2 i hi
  exact ⟨g, cap, e1, own_kept e2 hb⟩
theorem ElC.mono {w : World} {B B' : Nat} {css : List (List Int)} {hs : List Value} (h : ElC w B css hs) (hB : B' ≤ B) : ElC w B' css hs := by
  refine ⟨h.1, fun i hi => ?_⟩
  obtain ⟨g, cap, e1, e2⟩ := h.2 i hi
  exact ⟨g, cap, e1, own_mono e2 hB⟩
theorem ElC.grown {w w' : World} {B B' n size e : Nat} {css : List (List Int)} {hs xs : List Value} {v : Value} (h : ElC w B css hs) (ho : w.ownsRow B' e size v n xs) (he : e ≠ 3) (hg : w.grownBy w' v.ownBlock) : ElC w' B css hs := by
  refine ⟨h.1, fun i hi => ?_⟩
  obtain ⟨g, cap, e1, e2⟩ := h.2 i hi
  exact ⟨g, cap, e1, e2.kept hg (own_apart e2 ho (Ne.symm he))⟩
theorem gl_snoc (css : List (List Int)) (x : List Int) (i : Nat) : gl (css ++ [x]) i = if i < css.length then gl css i else if i = css.length then x else [] := by
  unfold gl
  rw [List.getD_eq_getElem?_getD, List.getD_eq_getElem?_getD]
  by_cases h : i < css.length
  · rw [if_pos h, List.getElem?_append_left h]
  · rw [if_neg h, List.getElem?_append_right (by omega)]
    by_cases h2 : i = css.length
    · subst h2; simp
    · rw [if_neg h2, List.getElem?_eq_none (by simp; omega)]; rfl
theorem ElC.snoc {w : World} {B : Nat} {css : List (List Int)} {hs : List Value} {x : List Int} {g cap : Nat} (h : ElC w B css hs) (hx : w.ownsRow B 3 1 (.slice (some ⟨g, 0, none⟩) x.length cap) x.length (inV x)) : ElC w B (css ++ [x]) (hs ++ [.slice (some ⟨g, 0, none⟩) x.length cap]) := by
  refine ⟨by simp [h.1], fun i hi => ?_⟩
  rw [List.length_append, List.length_singleton] at hi
  rw [gl_snoc]
  by_cases h1 : i < css.length
  · obtain ⟨g', c', e1, e2⟩ := h.2 i h1
    rw [if_pos h1]
    exact ⟨g', c', by rw [List.getElem?_append_left (by rw [h.1]; omega)]; exact e1, e2⟩
  · obtain rfl : i = css.length := by omega
    rw [if_neg h1, if_pos rfl]
    exact ⟨g, cap, by rw [← h.1]; simp, hx⟩
theorem own_form {w : World} {B e size n : Nat} {v : Value} {xs : List Value} (h : w.ownsRow B e size v (n + 1) xs) : ∃ g cap, v = .slice (some ⟨g, 0, none⟩) (n + 1) cap := by
  rcases h.2 with ⟨_, h0⟩ | ⟨g, cap, cur, h1, _⟩
  · omega
  · exact ⟨g, cap, h1⟩
theorem rd_of_own0 {w : World} {B g n cap : Nat} {xs : List Int} (h : w.ownsRow B 3 1 (.slice (some ⟨g, 0, none⟩) n cap) n (inV xs)) : RdI w (some ⟨g, 0, none⟩) xs :=
  .inr ⟨g, 0, rfl, fun i hi => by rw [Nat.zero_add]; exact own_cell h hi⟩

def RunPost (pv : Value) (pl mv : List Int) (w : World) (e : Ending) (w' : World) : Prop :=
  ∃ g cap hs, e = .returned (.slice (some ⟨g, 0, none⟩) (mv.length + 1) cap) ∧ w'.ownsRow w.heap.size 98 2 (.slice (some ⟨g, 0, none⟩) (mv.length + 1) cap) (mv.length + 1) (trV pv hs) ∧ ElC w' w.heap.size (allF pl mv mv.length) hs ∧ Below w.heap.size w w'
set_option maxHeartbeats 1600000 in
set_option maxRecDepth 100000 in
theorem c_run (pm pv pr : Option Addr) (cm cv cr : Nat) (p : Pc) (q : Option Addr) (cq : Nat) (pl : List Int) (w : World) (hv : RdI w pv p.mv) (hq : RdI w q pl) (hp : PieceOk p) (hpl : PlaysOk p pl) :
    Calls Tryz.prog 61 #[.agg #[.slice pm p.ms.length cm, .slice pv p.mv.length cv, .slice pr p.rs.length cr], .slice q pl.length cq] w (RunPost (.slice q pl.length cq) pl p.mv w) := by
  obtain ⟨i0, hi0, hz0, hz1, hz2⟩ := info_parts infT
  obtain ⟨w1, e1, HS1, _, k1, _, b1⟩ := box3 w (.slice pm p.ms.length cm) (.slice pv p.mv.length cv) (.slice pr p.rs.length cr) 27
  have hcl := c_begun q cq pl w1 (hq.below b1) (hpl.plok hp)
  have HQ := Lib.hid (hq.below b1)
  have HV := Lib.hid (hv.below b1)
  have HB1 := Lib.hid b1
  have HP := Lib.hid hp
  have HPL := Lib.hid hpl
  have hml := HP.out
  clear hv hq hp hpl b1
  go_enter Tryz.func61, Tryz.ntmps61
  go_wp2_with fail
  refine hcl.mono ?_
  rintro e w2 ⟨v, rfl, hown, hb2⟩
  clear e1 hcl
  obtain ⟨g0, c0, rfl⟩ := own_form hown
  have k1 := (hb2.cell (lt_of_cellq k1)).trans k1
  obtain ⟨w3, e3, HS3, _, _, b3⟩ := box2 w2 (.slice q pl.length cq) (.slice (some ⟨g0, 0, none⟩) (pl.length + 1) c0) 98
  have hrow := World.ownsRow_lit (base := w1.heap.size) (e := 98) (size := 2) w2 #[.slice q pl.length cq, .slice (some ⟨g0, 0, none⟩) (pl.length + 1) c0] 1 hb2.size (by unfold maxLen; omega) (by simp)
  rw [e3] at hrow
  have k1 := (b3.cell (lt_of_cellq k1)).trans k1
  have HEL := Lib.hid (show ElC w3 w1.heap.size (allF pl p.mv 0) [.slice (some ⟨g0, 0, none⟩) (pl.length + 1) c0] by
    rw [allF_zero]
    refine ⟨rfl, fun i hi => ?_⟩
    obtain rfl : i = 0 := by simp at hi; exact hi
    have e : (gl [begF pl] 0).length = pl.length + 1 := begF_len pl
    rw [e]
    exact ⟨g0, c0, rfl, own_kept hown b3⟩)
  have HRW := Lib.hid hrow
  have HB3 := Lib.hid (show Below w1.heap.size w1 w3 from hb2.trans (b3.mono hb2.size))
  have hs31 := HB3.out.size
  clear hown hb2 hrow b3
  go_wp2
  clear e3
  go_loopw [5, 15] (fun v i wr => ∃ (k g cap : Nat) (hs : List Value), k ≤ p.mv.length ∧ i = .int .i64 k ∧ v = .slice (some ⟨g, 0, none⟩) (k + 1) cap ∧ Hid (wr.ownsRow w1.heap.size 98 2 (.slice (some ⟨g, 0, none⟩) (k + 1) cap) (k + 1) (trV (.slice q pl.length cq) hs)) ∧ Hid (ElC wr w1.heap.size (allF pl p.mv k) hs) ∧ Below w1.heap.size w1 wr) (fun _ i _ => p.mv.length - (intOf i).toNat)
  case atStart => exact ⟨0, w2.heap.size, 1, [.slice (some ⟨g0, 0, none⟩) (pl.length + 1) c0], by omega, rfl, rfl, HRW, HEL, HB3.out⟩
  case round =>
    obtain ⟨k, g, cap, hs, hk, rfl, rfl, HO, HE, hnx⟩ := hrel
    have HN := Lib.hid hnx
    by_cases hlt : k < p.mv.length
    · obtain ⟨b, off, rfl, hc⟩ := (HV.out.below hnx).at hlt
      have e1 := hc k hlt
      obtain ⟨gk, ck, hek, hok⟩ := HE.out.2 k (by rw [allF_len]; omega)
      rw [allF_at _ _ _ _ (Nat.le_refl k)] at hek hok
      have hcn := runF_chain HPL.out.pos p.mv k
      have hlk := hcn.len
      rw [hlk] at hek hok
      obtain ⟨t0, t1⟩ := trV_get (.slice q pl.length cq) hs k _ hek
      have d0 := HO.out.cells (g := g) rfl _ _ t0
      have d1 := HO.out.cells (g := g) rfl _ _ t1
      rw [add_new] at d0 d1
      have HQr := Lib.hid (HQ.out.below hnx)
      have HPC := Lib.hid (rd_of_own0 hok)
      have HNN := Lib.hid hlk
      have HPK := Lib.hid (HPL.out.plok HP.out)
      have HCN := Lib.hid hcn
      have HRG := Lib.hid (show ∀ i, i < (runF pl p.mv k).length → -100000 ≤ gi (runF pl p.mv k) i ∧ gi (runF pl p.mv k) i ≤ 100000 from fun i hi => by
        have := place_range HP.out HPL.out k i (by omega) (by omega)
        omega)
      have HMR := Lib.hid (show -100000 ≤ gi p.mv k ∧ gi p.mv k ≤ 100000 by have := HP.out.move k hlt; omega)
      have HNK := Lib.hid (show runF pl p.mv (k + 1) = mvF pl (runF pl p.mv k) (gi p.mv k) from rfl)
      have h0k : (0 : Int) ≤ (k : Int) := by omega
      have hkk : (k : Int) < (k : Int) + 1 := by omega
      clear hc hnx hcn hlk hek hok t0 t1
      go_upto_region 5 with (fail)
      have HA0 := Lib.hid (show ∀ o : Obj, (wr.alloc o).cell? ⟨g, k * 2, none⟩ = some (.slice q pl.length cq) ∧ (wr.alloc o).cell? ⟨g, k * 2 + 1, none⟩ = some (.slice (some ⟨gk, 0, none⟩) (pl.length + 1) ck) from fun o => ⟨((below_alloc1 wr o).cell (lt_of_cellq d0)).trans d0, ((below_alloc1 wr o).cell (lt_of_cellq d1)).trans d1⟩)
      go_region_held3 (fun w' => w'.cell? ⟨g, k * 2, none⟩ = some (.slice q pl.length cq) ∧ w'.cell? ⟨g, k * 2 + 1, none⟩ = some (.slice (some ⟨gk, 0, none⟩) (pl.length + 1) ck))
          (first | exact HS.out | exact HA.out _ | exact HA0.out _ | exact ⟨d0, d1⟩ | exact kB)
          (first
            | (go_at_call 112; (with_reducible refine (c_turned (gi p.mv k) _ HMR.out).mono ?_); rintro e wa ⟨rfl, rfl⟩)
            | (go_at_call 111; (with_reducible refine (c_after q cq pl gk ck (pl.length + 1) (runF pl p.mv k) (gi p.mv k) wr.drew (HQr.out.below ((Below.refl _ _).drew)) (HPC.out.below ((Below.refl _ _).drew)) HNN.out HPK.out HCN.out HRG.out HMR.out).mono ?_); rintro e wb ⟨hv, rfl, hov, hbv⟩; obtain ⟨ga, ca, rfl⟩ := own_form hov
               have kB : wb.cell? ⟨g, k * 2, none⟩ = some (.slice q pl.length cq) ∧ wb.cell? ⟨g, k * 2 + 1, none⟩ = some (.slice (some ⟨gk, 0, none⟩) (pl.length + 1) ck) := ⟨(hbv.cell (lt_of_cellq d0)).trans d0, (hbv.cell (lt_of_cellq d1)).trans d1⟩
               have HA : Hid (∀ o : Obj, (wb.alloc o).cell? ⟨g, k * 2, none⟩ = some (.slice q pl.length cq) ∧ (wb.alloc o).cell? ⟨g, k * 2 + 1, none⟩ = some (.slice (some ⟨gk, 0, none⟩) (pl.length + 1) ck)) := Lib.hid fun o => ⟨((below_alloc1 wb o).cell (lt_of_cellq kB.1)).trans kB.1, ((below_alloc1 wb o).cell (lt_of_cellq kB.2)).trans kB.2⟩
               obtain ⟨w6, e6, HS6, y0, y1, b6⟩ := box2 wb (.slice q pl.length cq) (.slice (some ⟨ga, 0, none⟩) (pl.length + 1) ca) 98
               have hbw : Below wr.heap.size wr wb := ⟨hbv.os, hbv.tape, hbv.output, hbv.size, hbv.block⟩
               have HBX := Lib.hid (hbw.trans (b6.mono hbw.size))
               have HOX := Lib.hid (own_mono (own_kept hov b6) (show wr.heap.size ≤ wr.drew.heap.size from Nat.le_refl _))
               have HS : Hid (w6.cell? ⟨g, k * 2, none⟩ = some (.slice q pl.length cq) ∧ w6.cell? ⟨g, k * 2 + 1, none⟩ = some (.slice (some ⟨gk, 0, none⟩) (pl.length + 1) ck)) := Lib.hid ⟨(b6.cell (lt_of_cellq kB.1)).trans kB.1, (b6.cell (lt_of_cellq kB.2)).trans kB.2⟩
               clear hbw b6)
            | (go_at_call 111; (with_reducible refine (c_after q cq pl gk ck (pl.length + 1) (runF pl p.mv k) (gi p.mv k) (wr.alloc (.cells #[.slice none 0 0, .slice none 0 0] 98)).drew (HQr.out.below ((below_alloc1 wr _).drew)) (HPC.out.below ((below_alloc1 wr _).drew)) HNN.out HPK.out HCN.out HRG.out HMR.out).mono ?_); rintro e wb ⟨hv, rfl, hov, hbv⟩; obtain ⟨ga, ca, rfl⟩ := own_form hov
               have kB : wb.cell? ⟨g, k * 2, none⟩ = some (.slice q pl.length cq) ∧ wb.cell? ⟨g, k * 2 + 1, none⟩ = some (.slice (some ⟨gk, 0, none⟩) (pl.length + 1) ck) := ⟨(hbv.cell (lt_of_cellq (HA0.out (.cells #[.slice none 0 0, .slice none 0 0] 98)).1)).trans (HA0.out _).1, (hbv.cell (lt_of_cellq (HA0.out (.cells #[.slice none 0 0, .slice none 0 0] 98)).2)).trans (HA0.out _).2⟩
               have hzr : wb.heap[wr.heap.size]? = some (.cells #[.slice none 0 0, .slice none 0 0] 98 (0, 0)) := (hbv.block wr.heap.size (by simp)).trans (alloc_new wr _)
               obtain ⟨w5, w6, s5, s6, ⟨z0, zf0⟩, ⟨z1, zf1⟩, hx4, hxk, HZ, hxb⟩ := set2 wb wr.heap.size 98 _ _ (.slice q pl.length cq) (.slice (some ⟨ga, 0, none⟩) (pl.length + 1) ca) hzr
               obtain ⟨y0, y1⟩ := cells2 hx4
               have hbw : Below wr.heap.size wr wb := (below_alloc1 wr (.cells #[.slice none 0 0, .slice none 0 0] 98)).trans (Below.mono ⟨hbv.os, hbv.tape, hbv.output, hbv.size, hbv.block⟩ (by simp))
               have HBX := Lib.hid (hxb wr wr.heap.size (Nat.le_refl _) hbw)
               have HOX := Lib.hid (own_mono (own_same hov (w' := w6) (fun g' hg' => hxk g' (by have := (hov.lt g' hg').1; simp at this; omega))) (show wr.heap.size ≤ (wr.alloc (.cells #[.slice none 0 0, .slice none 0 0] 98)).drew.heap.size by simp))
               have HS : Hid (w6.cell? ⟨g, k * 2, none⟩ = some (.slice q pl.length cq) ∧ w6.cell? ⟨g, k * 2 + 1, none⟩ = some (.slice (some ⟨gk, 0, none⟩) (pl.length + 1) ck)) := Lib.hid ⟨(HBX.out.cell (lt_of_cellq d0)).trans d0, (HBX.out.cell (lt_of_cellq d1)).trans d1⟩
               clear hbw hx4 hxk hxb hzr))
      all_goals
        have HOw := Lib.hid (own_kept HO.out HBX.out)
        have HEw := Lib.hid (HE.out.below HBX.out)
        have hsw := HBX.out.size
        have hs1 := HN.out.size
        have hsb := HB1.out.size
        have hkm : k ≤ 1000 := by have := (pieceB_iff.2 HP.out); rw [pieceB_parts] at this; simp only [Bool.and_eq_true, decide_eq_true_eq] at this; omega
        go_wp2_with (at_builtin; refine wpList_append_own _ rfl _ _ 91 rfl w1.heap.size 98 i0 _ 2 48 Tryz.underlying91 hi0 hz0 hz1 hz2 rfl (by decide) _ _ _ rfl (HOw.out.alloc _) ⟨w6.heap.size, 0, none⟩ 1 1 [.slice q pl.length cq, .slice (some ⟨ga, 0, none⟩) (pl.length + 1) ca] rfl rfl ?c1 ?c2 ?c3 ?c4 ?c5 ?_)
        case c1 => exact news_of _ _ _
        case c2 => intro u hu; simp at hu; rcases hu with rfl | rfl <;> rfl
        case c3 => unfold maxLen; omega
        case c4 => omega
        case c5 => simp; omega
        intro v' w7 hown' hgrow _
        obtain ⟨g', cap', rfl⟩ := own_form hown'
        have HO7 := Lib.hid hown'
        have HB7 := Lib.hid (show Below w1.heap.size w1 w7 from ((HN.out.trans (HBX.out.mono hs1)).trans ((below_alloc1 w6 _).mono (Nat.le_trans hs1 hsw))).grown hgrow (by simp; omega) (fun j hj => (HO.out.lt j hj).1))
        have HE7 := Lib.hid (show ElC w7 w1.heap.size (allF pl p.mv (k + 1)) (hs ++ [.slice (some ⟨ga, 0, none⟩) (pl.length + 1) ca]) by
          have h1 := (HEw.out.below (below_alloc1 w6 (.cells #[.slice q pl.length cq, .slice (some ⟨ga, 0, none⟩) (pl.length + 1) ca] 98))).grown (HOw.out.alloc _) (by decide) hgrow
          have h3 := own_kept HOX.out (below_alloc1 w6 (.cells #[.slice q pl.length cq, .slice (some ⟨ga, 0, none⟩) (pl.length + 1) ca] 98))
          have h2 := h3.kept hgrow (own_apart h3 (HOw.out.alloc _) (by decide))
          have hl : (runF pl p.mv (k + 1)).length = pl.length + 1 := by rw [HNK.out, mvF_len]
          rw [← HNK.out] at h2
          rw [allF_succ, ← hl]
          exact h1.snoc (by rw [hl]; exact own_mono h2 (by omega)))
        clear hown' hgrow
        go_wp2
        go_roundw
        case rel =>
          refine ⟨k + 1, g', cap', hs ++ [.slice (some ⟨ga, 0, none⟩) (pl.length + 1) ca], by omega, by go_num, rfl, Lib.hid ?_, HE7, HB7.out⟩
          have := HO7.out
          rw [trV_append]
          exact this
        case measure => simp [intOf]; omega
    · obtain rfl : k = p.mv.length := by omega
      go_wp2
      go_ret
      exact ⟨g, cap, hs, rfl, own_mono HO.out HB1.out.size, HE.out.mono HB1.out.size, HB1.out.trans (hnx.mono HB1.out.size)⟩
end Go.Proofs.YtbknfddaoolagaaGreatDoor
end
