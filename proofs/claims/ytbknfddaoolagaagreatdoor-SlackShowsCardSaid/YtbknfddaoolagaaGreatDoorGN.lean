/-
  asked: a piece with its truths, or the error: contract, all arguments.
  Known, Plays, all arguments: contracts (printed by slkknown.py).
  By how much the crank can be turned on, and back, before an arbor moves; arbors, places and limits: contracts.
-/
import Derived.Test.YtbknfddaoolagaaGreatDoorGM
section
namespace Go.Proofs.YtbknfddaoolagaaGreatDoor
open Go Go.RowKit Go.Proofs Go.Shelf
set_option linter.unusedVariables false
attribute [local go_sem] Oper.semAt_some imax2 imin2

theorem KpT.grown {n0 kx size n : Nat} {v : Value} {xs : List Value} {W W' : World} (ho : W.ownsRow n0 98 size v n xs) (hn : n0 ≤ W.heap.size) (hg : W.grownBy W' v.ownBlock) : KpT n0 kx W W' := by
  have key : ∀ j, v.ownBlock = some j → n0 ≤ j ∧ ∃ cur fr, W.heap[j]? = some (.cells cur 98 fr) := by
    intro j hj
    rcases ho.2 with ⟨rfl, _⟩ | ⟨g', cap, cur, rfl, hb, hh, _⟩
    · simp [Value.ownBlock] at hj
    · simp [Value.ownBlock] at hj
      subst hj; exact ⟨hb, _, _, hh⟩
  refine ⟨⟨hg.os, hg.tape, hg.output, hg.size, fun k hk _ => hg.block k (by omega) (fun e => by have := (key k e.symm).1; omega)⟩, fun b cur ty fr hb _ h2 => hg.block b (block_lt hb) (fun e => ?_)⟩; obtain ⟨_, cur', fr', h⟩ := key b e.symm; rw [hb] at h
  cases h
  exact h2 rfl
theorem tvV_at (xs : List Tv) : ∀ i, i < xs.length → ∃ x, xs[i]? = some x ∧ gl (xs.map Tv.pl) i = x.pl := by
  intro i hi; refine ⟨xs[i], List.getElem?_eq_getElem hi, ?_⟩; unfold gl; simp [hi]
theorem rdQ_of {w : World} {n0 g cap : Nat} {p : Pc} {xs : List Tv} (h : w.ownsRow n0 98 2 (.slice (some ⟨g, 0, none⟩) xs.length cap) xs.length (tvV xs)) (hm : ∀ x ∈ xs, MemT p n0 x w) : RdQ w (some ⟨g, 0, none⟩) p (xs.map Tv.pl) := by
  refine ⟨g, rfl, fun i hi => ?_⟩; rw [List.length_map] at hi; obtain ⟨x, hx, he⟩ := tvV_at xs i hi; rw [he]; obtain ⟨h1, h2, h3, h4⟩ := hm x (List.mem_of_getElem? hx); obtain ⟨c0, c1⟩ := tvV_get xs i x hx; have d0 := h.cells (g := g) rfl _ _ c0; have d1 := h.cells (g := g) rfl _ _ c1; rw [add_new] at d0 d1; obtain ⟨q', cq', hqe, hrq⟩ := rd_of_own h3
  injection hqe with e1 e2 e3
  subst e1; rw [h1] at d0 d1; have h2' : (endF p x.pl).length = x.pl.length + 1 := by rw [h2, h1]
  rw [← h2'] at h4
  have hcap : p.ms.length ≤ x.cq := by
    rw [← h1]
    rcases h3.2 with ⟨e, h0⟩ | ⟨g', cap', cur', e, _, _, hle, _⟩
    · injection e with _ _ e3
      rw [h0]; exact Nat.zero_le _
    · injection e with _ _ e3
      rw [e3]; exact hle
  exact ⟨h1, x.q, x.cq, some ⟨x.g, 0, none⟩, x.cg, d0, d1, hrq, rd_of_own0 h4, h2, hcap, x.g, rfl⟩

theorem own_not {w : World} {b : Nat} {cur : Array Value} {ty e : TypeId} {fr : Nat × Nat} {base size n : Nat} {v : Value} {xs : List Value} (hb : w.heap[b]? = some (.cells cur ty fr)) (hne : ty ≠ e) (ho : w.ownsRow base e size v n xs) : some b ≠ v.ownBlock := by
  intro hh
  rcases ho.2 with ⟨rfl, _⟩ | ⟨g', cap, cur', rfl, _, hg, _⟩
  · simp [Value.ownBlock] at hh
  · simp [Value.ownBlock] at hh
    subst hh; rw [hb] at hg
    cases hg
    exact hne rfl
theorem own_any {w : World} {B e size n : Nat} {v : Value} {xs : List Value} (h : w.ownsRow B e size v n xs) : ∃ a cap, v = .slice a n cap := by
  rcases h.2 with ⟨rfl, rfl⟩ | ⟨g, cap, cur, rfl, _⟩
  · exact ⟨none, 0, rfl⟩
  · exact ⟨_, cap, rfl⟩
def nilQ : Value := .agg #[.slice none 0 0, .slice none 0 0, .slice none 0 0, .slice none 0 0]
def AskPost (pm pv pr : Option Addr) (cm cv cr : Nat) (p : Pc) (fine : Bool) (w : World) (e : Ending) (w' : World) : Prop :=
  (((pieceB p && fine) = false ∧ e = .returned (.tuple #[nilQ, .int .i64 2])) ∨ ((pieceB p && fine) = true ∧ truthsF p = [] ∧ e = .returned (.tuple #[nilQ, .int .i64 7])) ∨
   ((pieceB p && fine) = true ∧ truthsF p ≠ [] ∧ ∃ g cap, e = .returned (.tuple #[.agg #[.slice pm p.ms.length cm, .slice pv p.mv.length cv, .slice pr p.rs.length cr, .slice (some ⟨g, 0, none⟩) (truthsF p).length cap], .int .i64 0]) ∧ ∀ W : World, (∀ k, w.heap.size ≤ k → k < w'.heap.size → W.heap[k]? = w'.heap[k]?) → RdQ W (some ⟨g, 0, none⟩) p (truthsF p))) ∧ Below w.heap.size w w'

set_option maxHeartbeats 3200000 in
set_option maxRecDepth 100000 in
theorem c_asked (pm pv pr : Option Addr) (cm cv cr : Nat) (p : Pc) (fine : Bool) (w : World) (hp : RdP w pm pv pr p) (hl : LenOk p) :
    Calls Tryz.prog 49 #[.agg #[.slice pm p.ms.length cm, .slice pv p.mv.length cv, .slice pr p.rs.length cr], .bool fine] w (AskPost pm pv pr cm cv cr p fine w) := by
  obtain ⟨i0, hi0, hzz0, hzz1, hzz2⟩ := info_parts infT; obtain ⟨w1, e1, HS1, k0, k1, k2, b1⟩ := box3 w (.slice pm p.ms.length cm) (.slice pv p.mv.length cv) (.slice pr p.rs.length cr) 27; have kr := alloc_new w1 (.cells #[.slice none 0 0, .slice none 0 0, .slice none 0 0, .slice none 0 0] 93); obtain ⟨w2, e2, HS2, _, _, _, _, b2⟩ := box4 w1 (.slice none 0 0) (.slice none 0 0) (.slice none 0 0) (.slice none 0 0) 93; rw [e2] at kr; have k0 := (b2.cell (lt_of_cellq k0)).trans k0; have k1 := (b2.cell (lt_of_cellq k1)).trans k1; have k2 := (b2.cell (lt_of_cellq k2)).trans k2; have HP := Lib.hid ((hp.below b1).below b2); have HP0 := Lib.hid hp; have HB := Lib.hid (b1.trans (b2.mono b1.size)); have HL := Lib.hid hl; have HZ1 := Lib.hid (show w.heap.size ≤ w1.heap.size ∧ w1.heap.size < w2.heap.size from ⟨b1.size, by have := HS2.out; omega⟩); clear b1 b2 hp hl
  rcases h1 : (pieceB p && fine) with _ | _
  · have HC := Lib.hid h1
    rcases h2 : pieceB p with _ | _
    · go_enter Tryz.func49, Tryz.ntmps49
      go_wp2_with fail; refine (c_isPiece pm pv pr cm cv cr p _ HP.out HL.out).mono ?_; rw [h2]; rintro e wn ⟨rfl, bq⟩; obtain ⟨w3, w4, w5, w6, s3, s4, s5, s6, ⟨c0, f0⟩, ⟨c1, f1⟩, ⟨c2, f2⟩, ⟨c3, f3⟩, hx4, hxk, HZ, hxb⟩ := set4 wn w1.heap.size 93 _ _ _ _ (.slice none 0 0) (.slice none 0 0) (.slice none 0 0) (.slice none 0 0) ((bq.block _ (block_lt kr)).trans kr); obtain ⟨r0, r1, r2, r3⟩ := cells4 hx4; have HBB := Lib.hid (hxb w w.heap.size HZ1.out.1 (HB.out.trans (bq.mono HB.out.size))); clear bq e1 e2 h1 h2 hx4 hxk hxb kr; go_wp2; refine bodyPost_ret (v := .tuple #[nilQ, .int .i64 2]) ?_ rfl ⟨.inl ⟨HC.out, rfl⟩, HBB.out⟩; simp [results, Tryz.results49, go_sem, r0, r1, r2, r3, nilQ]
    · have hf : fine = false := by rw [h2] at h1; simpa using h1
      subst hf
      go_enter Tryz.func49, Tryz.ntmps49
      go_wp2_with fail; refine (c_isPiece pm pv pr cm cv cr p _ HP.out HL.out).mono ?_; rw [h2]; rintro e wn ⟨rfl, bq⟩; obtain ⟨w3, w4, w5, w6, s3, s4, s5, s6, ⟨c0, f0⟩, ⟨c1, f1⟩, ⟨c2, f2⟩, ⟨c3, f3⟩, hx4, hxk, HZ, hxb⟩ := set4 wn w1.heap.size 93 _ _ _ _ (.slice none 0 0) (.slice none 0 0) (.slice none 0 0) (.slice none 0 0) ((bq.block _ (block_lt kr)).trans kr); obtain ⟨r0, r1, r2, r3⟩ := cells4 hx4; have HBB := Lib.hid (hxb w w.heap.size HZ1.out.1 (HB.out.trans (bq.mono HB.out.size))); clear bq e1 e2 h1 h2 hx4 hxk hxb kr; go_wp2; refine bodyPost_ret (v := .tuple #[nilQ, .int .i64 2]) ?_ rfl ⟨.inl ⟨HC.out, rfl⟩, HBB.out⟩; simp [results, Tryz.results49, go_sem, r0, r1, r2, r3, nilQ]
  · have HC := Lib.hid h1
    obtain ⟨h2, rfl⟩ : pieceB p = true ∧ fine = true := by simpa using h1
    have HPO := Lib.hid (pieceB_iff.1 h2); clear h1; refine (callsIn_wide (n := 6)).1 ?_; refine callsIn_of_wp_marks Tryz.func49 rfl trivial ?_ rfl; simp only [Tryz.ntmps49, List.size_toArray, List.length_cons, List.length_nil, Nat.reduceAdd, Nat.reduceSub, Array.replicate_succ, Array.replicate_zero, List.push_toArray, List.append_toArray, List.nil_append, List.cons_append]
    gi_wp2_with fail
    refine ⟨trivial, ?_⟩; refine (callsIn_wide.2 (c_isPiece pm pv pr cm cv cr p _ HP.out HL.out)).mono ?_; rw [h2]; rintro e w3 ⟨rfl, bq⟩; have k0 := (bq.cell (lt_of_cellq k0)).trans k0; have k1 := (bq.cell (lt_of_cellq k1)).trans k1; have k2 := (bq.cell (lt_of_cellq k2)).trans k2; have kr := (bq.block _ (block_lt kr)).trans kr
    -- the box of the piece with its truths
    have kq := alloc_new w3 (.cells #[.slice none 0 0, .slice none 0 0, .slice none 0 0, .slice none 0 0] 93); obtain ⟨w4, e4, HS4, _, _, _, _, b4⟩ := box4 w3 (.slice none 0 0) (.slice none 0 0) (.slice none 0 0) (.slice none 0 0) 93; rw [e4] at kq; have k0 := (b4.cell (lt_of_cellq k0)).trans k0; have k1 := (b4.cell (lt_of_cellq k1)).trans k1; have k2 := (b4.cell (lt_of_cellq k2)).trans k2; have kr := (b4.block _ (block_lt kr)).trans kr; obtain ⟨w5, w6, w7, w8, s5, s6, s7, s8, ⟨c0, f0⟩, ⟨c1, f1⟩, ⟨c2, f2⟩, ⟨c3, f3⟩, hx4, hxk, HZ, hxb⟩ := set4 w4 w3.heap.size 93 _ _ _ _ (.slice pm p.ms.length cm) (.slice pv p.mv.length cv) (.slice pr p.rs.length cr) (.slice none 0 0) kq; have hb38 : Below w3.heap.size w3 w8 := hxb w3 w3.heap.size (Nat.le_refl _) b4; have hB3 : Below w.heap.size w w3 := HB.out.trans (bq.mono HB.out.size); have hz3 : w2.heap.size ≤ w3.heap.size := bq.size; have hz13 : w1.heap.size < w3.heap.size := by have := HZ1.out.2; omega
    have k08 := (hxk w.heap.size (by have := HZ1.out.1; omega)); have hk : ∀ j, w8.cell? ⟨w.heap.size, j, none⟩ = w4.cell? ⟨w.heap.size, j, none⟩ := fun j => World.cell?_of_block k08
    have k0 := (hk 0).trans k0; have k1 := (hk 1).trans k1; have k2 := (hk 2).trans k2; have KR := Lib.hid ((hxk w1.heap.size (by omega)).trans kr); have KX := Lib.hid hx4; have HB8 := Lib.hid (hB3.trans (hb38.mono hB3.size)); have HZ8 := Lib.hid (show w.heap.size ≤ w1.heap.size ∧ w1.heap.size < w3.heap.size ∧ w3.heap.size < w8.heap.size from ⟨HZ1.out.1, hz13, by have := block_lt hx4; omega⟩); clear bq e1 e2 h2 hx4 hxk hxb kr kq b4 hb38 hB3 hz3 hz13 k08 hk HZ1
    gi_wp2_with fail
    refine ⟨trivial, ?_⟩; refine (callsIn_wide.2 (c_truths pm pv pr cm cv cr p _)).mono ?_; rintro e w9 ⟨rfl, e9⟩
    gi_wp2_with fail
    have hz9 : w9.heap.size = w8.heap.size + 1 := by rw [← e9]; simp
    have hz84 : w8.heap.size = w4.heap.size := by rw [← s8, ← s7, ← s6, ← s5]; simp
    have hkp : w9.heap[w4.heap.size]? = some (.cells #[.slice pm p.ms.length cm, .slice pv p.mv.length cv, .slice pr p.rs.length cr] 27 (0, 0)) := by rw [← e9, ← hz84]; exact alloc_new _ _
    have hB9 : Below w.heap.size w w9 := by rw [← e9]; exact HB8.out.alloc HB8.out.size _
    have hX9 : w9.heap[w3.heap.size]? = some (.cells #[.slice pm p.ms.length cm, .slice pv p.mv.length cv, .slice pr p.rs.length cr, .slice none 0 0] 93 (0, 0)) := by rw [← e9]; exact alloc_old _ _ KX.out
    have hR9 : w9.heap[w1.heap.size]? = some (.cells #[.slice none 0 0, .slice none 0 0, .slice none 0 0, .slice none 0 0] 93 (0, 0)) := by rw [← e9]; exact alloc_old _ _ KR.out
    obtain ⟨hz1, hz2, hz3⟩ := HZ8.out; have hseq := truths_seq 5 (by omega) pm pv pr cm cv cr w4.heap.size w9.heap.size w3.heap.size p w w9 HPO.out HP0.out (Nat.le_refl _) hkp (by omega) (by omega) (by omega) hB9; have HN := Lib.hid (truths_le HPO.out); have HZ' := Lib.hid (show w.heap.size ≤ w1.heap.size ∧ w1.heap.size < w3.heap.size ∧ w3.heap.size < w9.heap.size from ⟨hz1, hz2, by omega⟩); clear e9 e4 s5 s6 s7 s8 c0 f0 c1 f1 c2 f2 c3 f3 k0 k1 k2 hkp KX KR HB8 HZ8 HP hz1 hz2 hz3 hz9 hz84 HS4
    refine wpIn_rangeFunc_mem rfl (by omega) (gf := 113) (lb := #[.pointer (some ⟨w4.heap.size, 0, none⟩)]) rfl trivial (enters_of Tryz.func113 (by kernel_rfl) rfl) hseq (fun h k => h.trans k)
      (fun W l o o' hlz hlo ho _ => KpT.putObj hlz hlo ho) (fun x W l o o' hlo ho hm => hm.putObj hlo ho) (Below.refl _ _) (fun _ => rfl)
      (fun pre W => (∃ v, W.heap[w3.heap.size]? = some (.cells #[.slice pm p.ms.length cm, .slice pv p.mv.length cv, .slice pr p.rs.length cr, v] 93 (0, 0)) ∧ W.ownsRow w9.heap.size 98 2 v pre.length (tvV pre)) ∧
        W.heap[w1.heap.size]? = some (.cells #[.slice none 0 0, .slice none 0 0, .slice none 0 0, .slice none 0 0] 93 (0, 0)) ∧ w9.heap.size ≤ W.heap.size ∧ Below w.heap.size w W)
      ?hI ⟨⟨_, hX9, World.ownsRow_nil _ _ _ _⟩, hR9, Nat.le_refl _, hB9⟩
      (fun x a' W => ∃ Bx, W.heap[Bx]? = some (.cells #[.slice x.q x.pl.length x.cq, .slice (some ⟨x.g, 0, none⟩) (x.pl.length + 1) x.cg] 98 (0, 0)) ∧ a' = { tmps := #[.agg #[.slice pm p.ms.length cm, .slice pv p.mv.length cv, .slice pr p.rs.length cr], .bool true, .pointer (some ⟨w.heap.size, 0, none⟩), undef, .pointer (some ⟨w1.heap.size, 0, none⟩), .int .i64 0, .pointer (some ⟨w3.heap.size, 0, none⟩), .pointer (some ⟨Bx, 0, none⟩), .agg #[.slice pm p.ms.length cm, .slice pv p.mv.length cv, .slice pr p.rs.length cr], .bool true, .bool false, .bool false, .bool true, .bool false, .bool false, undef, .agg #[.slice pm p.ms.length cm, .slice pv p.mv.length cv, .slice pr p.rs.length cr], .agg #[.slice pm p.ms.length cm, .slice pv p.mv.length cv, .slice pr p.rs.length cr, .slice none 0 0], .agg #[.slice pm p.ms.length cm, .slice pv p.mv.length cv, .slice pr p.rs.length cr], .func (.func 113) #[] #[.pointer (some ⟨w4.heap.size, 0, none⟩)], tvA x, undef, undef, undef, undef, undef, undef, undef, undef, undef, undef, undef, undef], defers := [] }) ?hAx ?assign ?body ?done
    case hI =>
      rintro s W W' row ⟨⟨v, h1, h2⟩, h3, h4, h5⟩ hg hr
      have hne : ∀ b cur ty fr, W.heap[b]? = some (.cells cur ty fr) → some b ≠ row := by
        intro b cur ty fr hb e; obtain ⟨_, o, ho, hc⟩ := hr b e.symm; rw [hb] at ho
        cases ho
        cases hc
      refine ⟨⟨v, (hg.block _ (block_lt h1) (hne _ _ _ _ h1)).trans h1, own_same h2 fun g hg' => ?_⟩, (hg.block _ (block_lt h3) (hne _ _ _ _ h3)).trans h3, Nat.le_trans h4 hg.size, h5.grown hg h5.size (fun k hk => by have := (hr k hk).1; have := HZ'.out; omega)⟩
      rcases h2.2 with ⟨rfl, _⟩ | ⟨g', cap, cur, rfl, hb, hh, _⟩
      · simp [Value.ownBlock] at hg'
      · simp [Value.ownBlock] at hg'
        subst hg'; exact hg.block _ (block_lt hh) (hne _ _ _ _ hh)
    case hAx =>
      rintro x a' s W W' row ⟨Bx, h1, h2⟩ hg hr; refine ⟨Bx, (hg.block _ (block_lt h1) (fun e => ?_)).trans h1, h2⟩; obtain ⟨_, o, ho, hc⟩ := hr Bx e.symm; rw [h1] at ho
      cases ho
      cases hc
    case assign =>
      rintro l pre x W K ⟨⟨v, h1, h2⟩, h3, h4, h5⟩ hm hK; have ka := alloc_new W (.cells #[.slice none 0 0, .slice none 0 0] 98); obtain ⟨wa, ea, HSa, _, _, ba⟩ := box2 W (.slice none 0 0) (.slice none 0 0) 98; rw [ea] at ka; obtain ⟨wb, wc, sb, sc, ⟨d0, g0⟩, ⟨d1, g1⟩, hx4, hxk, HZ, hxb⟩ := set2 wa W.heap.size 98 _ _ (.slice x.q x.pl.length x.cq) (.slice (some ⟨x.g, 0, none⟩) (x.pl.length + 1) x.cg) ka; have hb : Below W.heap.size W wc := hxb W W.heap.size (Nat.le_refl _) ba
      have hkf : KeepsFrom w9.heap.size W wc := by
        rw [← sc, ← sb, ← ea]; exact (((KeepsOthers.alloc _ _).trans (KeepsOthers.setCell _ _ _)).trans (KeepsOthers.setCell _ _ _)).from _
      have hkp := KpT.of_below (kx := w3.heap.size) hb h4; have hK' := hK _ wc hkf hkp ⟨⟨v, (hb.block _ (block_lt h1)).trans h1, own_kept h2 hb⟩, (hb.block _ (block_lt h3)).trans h3, Nat.le_trans h4 hb.size, h5.trans (hb.mono h5.size)⟩ (hm.kept hkp HZ'.out.2.2) ⟨W.heap.size, hx4, rfl⟩; clear hK h1 h2 h3 h4 h5 hm hkf hkp hb hx4 hxk hxb ka ba; unfold tvA at hK'; unfold tvE tvA; simp only [List.zip_toArray, List.zip_cons_cons, List.zip_nil_right]
      gi_wp2
      exact hK'
    case body =>
      rintro l pre x a' W ⟨⟨v, h1, h2⟩, h3, h4, h5⟩ hm ⟨Bx, hbx, rfl⟩ hlen; have q3 : W.cell? ⟨w3.heap.size, 3, none⟩ = some v := by rw [cell_of_row _ _ _ _ _ _ h1]; rfl
      obtain ⟨b0, b1⟩ := cells2 hbx; have hoa : (W.alloc (.cells #[.slice x.q x.pl.length x.cq, .slice (some ⟨x.g, 0, none⟩) (x.pl.length + 1) x.cg] 98)).ownsRow w9.heap.size 98 2 v pre.length (tvV pre) := h2.alloc _; have HOA := Lib.hid hoa; have H1 := Lib.hid h1; have H3 := Lib.hid h3; have H4 := Lib.hid h4; have H5 := Lib.hid h5; have HLN := Lib.hid (show pre.length < 625 by have := HN.out; omega); clear h1 h2 h3 h4 h5 hm hbx hoa hlen; unfold tvA
      gi_wp2_with (gi_at_builtin; refine wpListIn_append_own _ rfl _ _ 91 rfl w9.heap.size 98 i0 _ 2 48 Tryz.underlying91 hi0 hzz0 hzz1 hzz2 rfl (by decide) _ _ _ rfl HOA.out ⟨W.heap.size, 0, none⟩ 1 1 [.slice x.q x.pl.length x.cq, .slice (some ⟨x.g, 0, none⟩) (x.pl.length + 1) x.cg] rfl rfl ?c1 ?c2 ?c3 ?c4 ?c5 ?_)
      case c1 => exact news_of _ _ _
      case c2 => intro u hu; simp at hu; rcases hu with rfl | rfl <;> rfl
      case c3 => have := HLN.out; unfold maxLen; omega
      case c4 => have := HLN.out; omega
      case c5 => have := H4.out; simp; omega
      intro v' wd hown' hgrow _; obtain ⟨g', cap', rfl⟩ := own_form hown'; have h1' : (W.alloc (.cells #[.slice x.q x.pl.length x.cq, .slice (some ⟨x.g, 0, none⟩) (x.pl.length + 1) x.cg] 98)).heap[w3.heap.size]? = _ := alloc_old _ _ H1.out; have h3' : (W.alloc (.cells #[.slice x.q x.pl.length x.cq, .slice (some ⟨x.g, 0, none⟩) (x.pl.length + 1) x.cg] 98)).heap[w1.heap.size]? = _ := alloc_old _ _ H3.out; have hd1 := (hgrow.block _ (block_lt h1') (own_not h1' (by decide) HOA.out)).trans h1'; have hd3 := (hgrow.block _ (block_lt h3') (own_not h3' (by decide) HOA.out)).trans h3'; have z3 : wd.cell? ⟨w3.heap.size, 3, none⟩ = some v := by rw [cell_of_row _ _ _ _ _ _ hd1]; rfl
      have zf : wd.frozen? ⟨w3.heap.size, 3, none⟩ = false := frozen_of_row _ _ _ _ _ hd1; have hza : w9.heap.size ≤ (W.alloc (.cells #[.slice x.q x.pl.length x.cq, .slice (some ⟨x.g, 0, none⟩) (x.pl.length + 1) x.cg] 98)).heap.size := by have := H4.out; simp; omega
      have hkp : KpT w9.heap.size w3.heap.size W wd := (KpT.alloc (KpT.refl _ _ _) H4.out _).trans (KpT.grown HOA.out hza hgrow)
      have hko : KeepsFrom w9.heap.size W wd := ((KeepsOthers.alloc W _).trans (KeepsOthers.of_grownBy hgrow (fun j o ej hj => by
        rcases HOA.out.2 with ⟨rfl, _⟩ | ⟨g', cap, cur, rfl, hb, hh, _⟩
        · simp [Value.ownBlock] at ej
        · simp [Value.ownBlock] at ej
          subst ej; rw [hh] at hj
          cases hj
          rfl))).from _
      have hbb : Below w.heap.size w wd := (H5.out.alloc H5.out.size _).grown hgrow (by have := H5.out.size; simp; omega) (fun j hj => by have := (HOA.out.lt j hj).1; have := HZ'.out; omega); have hne : g' ≠ w3.heap.size := fun e => by have := (hown'.lt g' rfl).1; have := HZ'.out; omega
      obtain ⟨wz, ez⟩ : ∃ wz, wd.setCell ⟨w3.heap.size, 3, none⟩ (.slice (some ⟨g', 0, none⟩) (pre.length + 1) cap') = wz := ⟨_, rfl⟩
      have HFIN := Lib.hid (show KeepsFrom w9.heap.size W wz ∧ KpT w9.heap.size w3.heap.size W wz ∧ (∃ v, wz.heap[w3.heap.size]? = some (.cells #[.slice pm p.ms.length cm, .slice pv p.mv.length cv, .slice pr p.rs.length cr, v] 93 (0, 0)) ∧ wz.ownsRow w9.heap.size 98 2 v (pre ++ [x]).length (tvV (pre ++ [x]))) ∧
          wz.heap[w1.heap.size]? = some (.cells #[.slice none 0 0, .slice none 0 0, .slice none 0 0, .slice none 0 0] 93 (0, 0)) ∧ w9.heap.size ≤ wz.heap.size ∧ Below w.heap.size w wz by
        have hz := HZ'.out; rw [← ez]; refine ⟨hko.trans ((KeepsOthers.setCell _ _ _).from _), KpT.setCell hkp _ _, ⟨.slice (some ⟨g', 0, none⟩) (pre.length + 1) cap', ?_, ?_⟩, (Below.heap_setCell _ _ _ _ (by show w1.heap.size ≠ w3.heap.size; omega)).trans hd3, ?_, hbb.setCell (by show w.heap.size ≤ w3.heap.size; omega) _⟩
        · rw [heap_setCell_same wd w3.heap.size 3 _ _ _ hd1]; rfl
        · refine own_same ?_ (fun g hg => Below.heap_setCell _ _ _ _ (by simp [Value.ownBlock] at hg; subst hg; exact hne))
          rw [tvV_append, List.length_append]; exact hown'
        · have := hkp.1.size; have := H4.out; simp [World.setCell]; omega)
      clear h1' h3' hd1 hd3 hza hkp hko hbb hne hown' hgrow
      gi_wp2
      exact HFIN.out
    case done =>
      rintro D xs W hD hS ⟨⟨v, h1, h2⟩, h3, h4, h5⟩ hm hK; obtain ⟨ga, cap, rfl⟩ := own_any h2; have q0 : W.cell? ⟨w3.heap.size, 0, none⟩ = some (.slice pm p.ms.length cm) := by rw [cell_of_row _ _ _ _ _ _ h1]; rfl
      have q1 : W.cell? ⟨w3.heap.size, 1, none⟩ = some (.slice pv p.mv.length cv) := by rw [cell_of_row _ _ _ _ _ _ h1]; rfl
      have q2 : W.cell? ⟨w3.heap.size, 2, none⟩ = some (.slice pr p.rs.length cr) := by rw [cell_of_row _ _ _ _ _ _ h1]; rfl
      have q3 : W.cell? ⟨w3.heap.size, 3, none⟩ = some (.slice ga xs.length cap) := by rw [cell_of_row _ _ _ _ _ _ h1]; rfl
      have hl : xs.length = (truthsF p).length := by rw [← hS, List.length_map]
      have hz := HZ'.out
      by_cases h0 : xs.length = 0
      · have hx : (((xs.length : Nat) : Int) == 0) = true := by rw [h0]; rfl
        have HT := Lib.hid (show truthsF p = [] from List.length_eq_zero_iff.1 (by omega)); obtain ⟨wa, wb, wc, wd, sa, sb, sc, sd, ⟨c0, f0⟩, ⟨c1, f1⟩, ⟨c2, f2⟩, ⟨c3, f3⟩, hx4, hxk, HZs, hxb⟩ := set4 W w1.heap.size 93 _ _ _ _ (.slice none 0 0) (.slice none 0 0) (.slice none 0 0) (.slice none 0 0) h3; obtain ⟨r0, r1, r2, r3⟩ := cells4 hx4; have hKd : wd.heap[D]? = some (.deferred (some [])) := by rw [hxk D (by omega)]; exact hK
        have HBD := Lib.hid (hxb w w.heap.size (by omega) h5); have hpo : ∀ j v, wd.cell? ⟨w1.heap.size, j, none⟩ = some v → (wd.putObj D (.deferred none)).cell? ⟨w1.heap.size, j, none⟩ = some v := fun j v hc => cell_kept hc (grownBy_putObj' _ D (.deferred none)) (fun r e => by cases e; exact ⟨_, hKd, rfl⟩)
        have HPO' := Lib.hid hpo; have HDD := Lib.hid (show w.heap.size ≤ D by omega); have HKD := Lib.hid hKd; clear h1 h2 h3 h4 h5 hS hm hK hx4 hxk hxb hl h0 hz hpo hKd
        gi_wp2
        refine ⟨by simp, .inl ⟨_, _, rfl, run_takeDeferred HKD.out, ?_⟩⟩; refine ⟨.tuple #[nilQ, .int .i64 7], ?_, .inr (.inl ⟨HC.out, HT.out, rfl⟩), HBD.out.trans (belowK_b (w := w) (Nat.le_refl _) wd D _ _ HDD.out HKD.out rfl rfl)⟩; simp [results, Tryz.results49, go_sem, HPO'.out 0 _ r0, HPO'.out 1 _ r1, HPO'.out 2 _ r2, HPO'.out 3 _ r3, nilQ]
      · have hx : (((xs.length : Nat) : Int) == 0) = false := by simp; exact fun e => h0 (by rw [e]; rfl)
        have hne : truthsF p ≠ [] := fun e => h0 (by rw [hl, e]; rfl)
        obtain ⟨g, rfl⟩ : ∃ g, ga = some ⟨g, 0, none⟩ := by
          rcases h2.2 with ⟨_, e⟩ | ⟨g, cap', cur, e, _⟩
          · exact absurd e h0
          · injection e with e1 _ _
            exact ⟨g, e1⟩
        have hrd := rdQ_of h2 hm; rw [hS] at hrd; obtain ⟨wa, wb, wc, wd, sa, sb, sc, sd, ⟨c0, f0⟩, ⟨c1, f1⟩, ⟨c2, f2⟩, ⟨c3, f3⟩, hx4, hxk, HZs, hxb⟩ := set4 W w1.heap.size 93 _ _ _ _ (.slice pm p.ms.length cm) (.slice pv p.mv.length cv) (.slice pr p.rs.length cr) (.slice (some ⟨g, 0, none⟩) xs.length cap) h3; obtain ⟨r0, r1, r2, r3⟩ := cells4 hx4; have hKd : wd.heap[D]? = some (.deferred (some [])) := by rw [hxk D (by omega)]; exact hK
        have HBD := Lib.hid (hxb w w.heap.size (by omega) h5); have hpo : ∀ j v, wd.cell? ⟨w1.heap.size, j, none⟩ = some v → (wd.putObj D (.deferred none)).cell? ⟨w1.heap.size, j, none⟩ = some v := fun j v hc => cell_kept hc (grownBy_putObj' _ D (.deferred none)) (fun r e => by cases e; exact ⟨_, hKd, rfl⟩)
        have HPO' := Lib.hid hpo; have HDD := Lib.hid (show w.heap.size ≤ D by omega); have HKD := Lib.hid hKd; have HNE := Lib.hid hne
        have hm' : ∀ x ∈ xs, MemT p w9.heap.size x (wd.putObj D (.deferred none)) := by
          intro x hx; obtain ⟨m1, m2, m3, m4⟩ := hm x hx; have hk : ∀ (v : Value) (n : Nat) (ys : List Value), W.ownsRow w9.heap.size 3 1 v n ys → wd.ownsRow w9.heap.size 3 1 v n ys := fun v n ys ho => own_same ho fun g' hg' => hxk g' (by have := (ho.lt g' hg').1; omega)
          exact MemT.putObj hKd rfl ⟨m1, m2, hk _ _ _ m3, hk _ _ _ m4⟩
        have ho' : (wd.putObj D (.deferred none)).ownsRow w9.heap.size 98 2 (.slice (some ⟨g, 0, none⟩) xs.length cap) xs.length (tvV xs) :=
          ownsRow_putObj (own_same h2 fun g' hg' => hxk g' (by have := (h2.lt g' hg').1; omega)) _ hKd rfl
        have hrd' : ∀ W' : World, (∀ k, w.heap.size ≤ k → k < (wd.putObj D (.deferred none)).heap.size → W'.heap[k]? = (wd.putObj D (.deferred none)).heap[k]?) → RdQ W' (some ⟨g, 0, none⟩) p (truthsF p) := by
          intro W' hW'; have hwz : w.heap.size ≤ w9.heap.size := by omega
          have hk : ∀ (ty : TypeId) (sz : Nat) (v : Value) (n : Nat) (ys : List Value), (wd.putObj D (.deferred none)).ownsRow w9.heap.size ty sz v n ys → W'.ownsRow w9.heap.size ty sz v n ys := fun ty sz v n ys ho => own_same ho fun g' hg' => hW' g' (by have := (ho.lt g' hg').1; omega) (ho.lt g' hg').2
          have h := rdQ_of (hk _ _ _ _ _ ho') (fun x hx => ⟨(hm' x hx).1, (hm' x hx).2.1, hk _ _ _ _ _ (hm' x hx).2.2.1, hk _ _ _ _ _ (hm' x hx).2.2.2⟩); rw [hS] at h; exact h
        have HRD := Lib.hid hrd'; have HL := Lib.hid hl; clear h1 h2 h3 h4 h5 hS hm hK hx4 hxk hxb hl h0 hz hpo hKd hne hrd hm' ho' hrd'
        gi_wp2
        refine ⟨by simp, .inl ⟨_, _, rfl, run_takeDeferred HKD.out, ?_⟩⟩; refine ⟨.tuple #[.agg #[.slice pm p.ms.length cm, .slice pv p.mv.length cv, .slice pr p.rs.length cr, .slice (some ⟨g, 0, none⟩) xs.length cap], .int .i64 0], ?_, .inr (.inr ⟨HC.out, HNE.out, g, cap, by rw [HL.out], HRD.out⟩), HBD.out.trans (belowK_b (w := w) (Nat.le_refl _) wd D _ _ HDD.out HKD.out rfl rfl)⟩; simp [results, Tryz.results49, go_sem, HPO'.out 0 _ r0, HPO'.out 1 _ r1, HPO'.out 2 _ r2, HPO'.out 3 _ r3]
end Go.Proofs.YtbknfddaoolagaaGreatDoor
end

section
namespace Go.Proofs.YtbknfddaoolagaaGreatDoor
open Go Go.RowKit Go.Proofs
set_option linter.unusedVariables false
attribute [local go_sem] imax2 imin2

theorem ovTo_all (p : Pc) (of : List Int → Int × Int) : ovTo of (truthsF p) (truthsF p).length = ovF p of := by unfold ovTo ovF; rw [List.take_length]
theorem spV_one (m : Int × Int) : spV [m] = [.int .i64 m.1, .int .i64 m.2] := by cases m; rfl
def SpansPost (p : Pc) (L : List (Int × Int)) (w : World) (e : Ending) (w' : World) : Prop :=
  ((pieceB p = false ∧ e = .returned (.tuple #[.slice none 0 0, .int .i64 2])) ∨ (pieceB p = true ∧ truthsF p = [] ∧ e = .returned (.tuple #[.slice none 0 0, .int .i64 7])) ∨
   (pieceB p = true ∧ truthsF p ≠ [] ∧ ∃ g cap, e = .returned (.tuple #[.slice (some ⟨g, 0, none⟩) L.length cap, .int .i64 0]) ∧ w'.ownsRow w.heap.size 44 2 (.slice (some ⟨g, 0, none⟩) L.length cap) L.length (spV L))) ∧ Below w.heap.size w w'

set_option maxHeartbeats 3200000 in
set_option maxRecDepth 100000 in
theorem c_Known (pm pv pr : Option Addr) (cm cv cr : Nat) (p : Pc) (w : World) (hp : RdP w pm pv pr p) (hl : LenOk p) :
    Calls Tryz.prog 26 #[.agg #[.slice pm p.ms.length cm, .slice pv p.mv.length cv, .slice pr p.rs.length cr]] w (SpansPost p (knownF p) w) := by
  obtain ⟨i0, hi0, hzz0, hzz1, hzz2⟩ := info_parts infSp; obtain ⟨w1, e1, HS1, k0, k1, k2, b1⟩ := box3 w (.slice pm p.ms.length cm) (.slice pv p.mv.length cv) (.slice pr p.rs.length cr) 27; have hcl := c_asked pm pv pr cm cv cr p true w1 (hp.below b1) hl; have HB := Lib.hid b1; clear b1 hp hl
  go_enter Tryz.func26, Tryz.ntmps26
  go_wp2_with fail; refine hcl.mono ?_; clear hcl; rintro e w2 ⟨hc, bq⟩
  rcases hc with ⟨hc, rfl⟩ | ⟨hc, ht, rfl⟩ | ⟨hc, ht, ga, ca, rfl, hq⟩
  · have HC := Lib.hid (show pieceB p = false by simpa using hc)
    have b12 := HB.out.trans (bq.mono HB.out.size); have HBB := Lib.hid (b12.alloc b12.size (.cells #[.slice none 0 0, .slice none 0 0, .slice none 0 0, .slice none 0 0] 93)); clear bq e1 hc b12; unfold nilQ; go_wp2; refine bodyPost_ret (v := .tuple #[.slice none 0 0, .int .i64 2]) (by simp [results, Tryz.results26, go_sem]) rfl ?_; exact ⟨.inl ⟨HC.out, rfl⟩, HBB.out⟩
  · have HC := Lib.hid (show pieceB p = true ∧ truthsF p = [] from ⟨by simpa using hc, ht⟩)
    have b12 := HB.out.trans (bq.mono HB.out.size); have HBB := Lib.hid (b12.alloc b12.size (.cells #[.slice none 0 0, .slice none 0 0, .slice none 0 0, .slice none 0 0] 93)); clear bq e1 hc ht b12; unfold nilQ; go_wp2; refine bodyPost_ret (v := .tuple #[.slice none 0 0, .int .i64 7]) (by simp [results, Tryz.results26, go_sem]) rfl ?_; exact ⟨.inr (.inl ⟨HC.out.1, HC.out.2, rfl⟩), HBB.out⟩
  · have hpB : pieceB p = true := by simpa using hc
    have hpo := pieceB_iff.1 hpB; have HC := Lib.hid (And.intro hpB ht); obtain ⟨w7, e7, HS7, x0, x1, x2, x3, b27⟩ := box4 w2 (.slice pm p.ms.length cm) (.slice pv p.mv.length cv) (.slice pr p.rs.length cr) (.slice (some ⟨ga, 0, none⟩) (truthsF p).length ca) 93; have b12 := HB.out.trans (bq.mono HB.out.size); have HBB := Lib.hid (b12.trans (b27.mono b12.size)); have HQ := Lib.hid ((hq w2 (fun _ _ _ => rfl)).below b27); have k0 := ((bq.trans (b27.mono bq.size)).cell (lt_of_cellq k0)).trans k0; have HTL := Lib.hid (truths_le hpo); have hml := (piece_len hpo).1; have HML := Lib.hid hml; have hml4 : p.ms.length ≤ 4 := hml.2; clear bq e1 hc ht b12 b27 hq hpo hpB hml; go_wp2
    go_loopw [6, 21] (fun v i wr => ∃ k : Nat, k ≤ p.ms.length + 1 ∧ i = .int .i64 k ∧ Hid (wr.ownsRow w7.heap.size 44 2 v k (spV ((knownF p).take k))) ∧ Hid (Below w7.heap.size w7 wr)) (fun _ i _ => p.ms.length + 1 - (intOf i).toNat)
    case atStart => exact ⟨0, by omega, rfl, Lib.hid (World.ownsRow_nil _ _ _ _), Lib.hid (Below.refl _ _)⟩
    case round =>
      obtain ⟨k, hk, rfl, HV, HY⟩ := hrel
      by_cases hlt : k < p.ms.length + 1
      · have hki : (k : Int) < (p.ms.length : Int) + 1 := by omega
        have HTK := Lib.hid (show (knownF p).take (k + 1) = (knownF p).take k ++ [ovTo (fun pl => just (gi (endF p pl) k)) (truthsF p) (truthsF p).length] by
          rw [List.take_succ_eq_append_getElem (by rw [knownF_len]; omega), ← gm_get _ _ (by rw [knownF_len]; omega), knownF_at p k (by omega), ovTo_all])
        obtain ⟨w9, e9, HS9, ka, nf, b9⟩ := box1 wr (.int .i64 (k : Int)) 3; have b79 := HY.out.trans (b9.mono HY.out.size); have y0 := (b79.cell (lt_of_cellq x0)).trans x0; have y1 := (b79.cell (lt_of_cellq x1)).trans x1; have y2 := (b79.cell (lt_of_cellq x2)).trans x2; have y3 := (b79.cell (lt_of_cellq x3)).trans x3; have hov := over_known pm pv pr cm cv cr p (some ⟨ga, 0, none⟩) ca (truthsF p) wr.heap.size k w9 (HQ.out.below b79) (by have := HTL.out; omega) ka (by omega); have HV9 := Lib.hid (own_kept HV.out b9); have HY9 := Lib.hid b79; have HKB := Lib.hid (show k ≤ 4 by have := HML.out; omega); clear b9 b79 ka nf; go_wp2_with fail; refine hov.mono ?_; clear hov; rintro e w10 ⟨rfl, bo⟩; have HVo := Lib.hid (own_kept HV9.out bo); have HYo := Lib.hid (HY9.out.trans (bo.mono HY9.out.size)); clear bo e9; go_wp2_with (at_builtin; refine wpList_append_own _ rfl _ _ 38 rfl w7.heap.size 44 i0 _ 2 16 Tryz.underlying38 hi0 hzz0 hzz1 hzz2 rfl (by decide) _ _ _ rfl (HVo.out.alloc _) ⟨w10.heap.size, 0, none⟩ 1 1 [.int .i64 (ovTo (fun pl => just (gi (endF p pl) k)) (truthsF p) (truthsF p).length).1, .int .i64 (ovTo (fun pl => just (gi (endF p pl) k)) (truthsF p) (truthsF p).length).2] rfl rfl ?c1 ?c2 ?c3 ?c4 ?c5 ?_)
        case c1 => exact news_of _ _ _
        case c2 => intro u hu; simp at hu; rcases hu with rfl | rfl <;> rfl
        case c3 => have := HKB.out; unfold maxLen; omega
        case c4 => have := HKB.out; omega
        case c5 => have := HYo.out.size; simp; omega
        intro v' w11 hown' hgrow _; have HV11 := Lib.hid hown'; have HY11 := Lib.hid ((HYo.out.alloc HYo.out.size _).grown hgrow (by have := HYo.out.size; simp; omega) (fun j hj => (HVo.out.lt j hj).1)); clear hown' hgrow; go_wp2; go_roundw
        case rel =>
          refine ⟨k + 1, by omega, by go_num, Lib.hid ?_, HY11⟩; rw [HTK.out, spV_append, spV_one]; exact HV11.out
        case measure => simp [intOf]; omega
      · obtain rfl : k = p.ms.length + 1 := by omega
        have hki : ¬ ((p.ms.length + 1 : Nat) : Int) < (p.ms.length : Int) + 1 := by omega
        skip
        have hv := HV.out; rw [List.take_of_length_le (by rw [knownF_len]; exact Nat.le_refl _)] at hv
        obtain ⟨g', c', rfl⟩ : ∃ g' c', u6 = .slice (some ⟨g', 0, none⟩) (p.ms.length + 1) c' := by
          rcases hv.2 with ⟨_, h0⟩ | ⟨g', cap', cur, e, _⟩
          · have := HML.out; omega
          · exact ⟨g', cap', e⟩
        have HVV := Lib.hid hv; clear hv; go_wp2; refine bodyPost_ret (v := .tuple #[.slice (some ⟨g', 0, none⟩) (p.ms.length + 1) c', .int .i64 0]) (by simp [results, Tryz.results26, go_sem]) rfl ?_; refine ⟨.inr (.inr ⟨HC.out.1, HC.out.2, g', c', by rw [knownF_len], ?_⟩), HBB.out.trans (HY.out.mono HBB.out.size)⟩; rw [knownF_len]; exact own_mono HVV.out HBB.out.size

set_option maxHeartbeats 3200000 in
set_option maxRecDepth 100000 in
theorem c_Plays (pm pv pr : Option Addr) (cm cv cr : Nat) (p : Pc) (w : World) (hp : RdP w pm pv pr p) (hl : LenOk p) :
    Calls Tryz.prog 27 #[.agg #[.slice pm p.ms.length cm, .slice pv p.mv.length cv, .slice pr p.rs.length cr]] w (SpansPost p (provedF p) w) := by
  obtain ⟨i0, hi0, hzz0, hzz1, hzz2⟩ := info_parts infSp; obtain ⟨w1, e1, HS1, k0, k1, k2, b1⟩ := box3 w (.slice pm p.ms.length cm) (.slice pv p.mv.length cv) (.slice pr p.rs.length cr) 27; have hcl := c_asked pm pv pr cm cv cr p true w1 (hp.below b1) hl; have HB := Lib.hid b1; clear b1 hp hl
  go_enter Tryz.func27, Tryz.ntmps27
  go_wp2_with fail; refine hcl.mono ?_; clear hcl; rintro e w2 ⟨hc, bq⟩
  rcases hc with ⟨hc, rfl⟩ | ⟨hc, ht, rfl⟩ | ⟨hc, ht, ga, ca, rfl, hq⟩
  · have HC := Lib.hid (show pieceB p = false by simpa using hc)
    have b12 := HB.out.trans (bq.mono HB.out.size); have HBB := Lib.hid (b12.alloc b12.size (.cells #[.slice none 0 0, .slice none 0 0, .slice none 0 0, .slice none 0 0] 93)); clear bq e1 hc b12; unfold nilQ; go_wp2; refine bodyPost_ret (v := .tuple #[.slice none 0 0, .int .i64 2]) (by simp [results, Tryz.results27, go_sem]) rfl ?_; exact ⟨.inl ⟨HC.out, rfl⟩, HBB.out⟩
  · have HC := Lib.hid (show pieceB p = true ∧ truthsF p = [] from ⟨by simpa using hc, ht⟩)
    have b12 := HB.out.trans (bq.mono HB.out.size); have HBB := Lib.hid (b12.alloc b12.size (.cells #[.slice none 0 0, .slice none 0 0, .slice none 0 0, .slice none 0 0] 93)); clear bq e1 hc ht b12; unfold nilQ; go_wp2; refine bodyPost_ret (v := .tuple #[.slice none 0 0, .int .i64 7]) (by simp [results, Tryz.results27, go_sem]) rfl ?_; exact ⟨.inr (.inl ⟨HC.out.1, HC.out.2, rfl⟩), HBB.out⟩
  · have hpB : pieceB p = true := by simpa using hc
    have hpo := pieceB_iff.1 hpB; have HC := Lib.hid (And.intro hpB ht); obtain ⟨w7, e7, HS7, x0, x1, x2, x3, b27⟩ := box4 w2 (.slice pm p.ms.length cm) (.slice pv p.mv.length cv) (.slice pr p.rs.length cr) (.slice (some ⟨ga, 0, none⟩) (truthsF p).length ca) 93; have b12 := HB.out.trans (bq.mono HB.out.size); have HBB := Lib.hid (b12.trans (b27.mono b12.size)); have HQ := Lib.hid ((hq w2 (fun _ _ _ => rfl)).below b27); have k0 := ((bq.trans (b27.mono bq.size)).cell (lt_of_cellq k0)).trans k0; have HTL := Lib.hid (truths_le hpo); have hml := (piece_len hpo).1; have HML := Lib.hid hml; have hml4 : p.ms.length ≤ 4 := hml.2; clear bq e1 hc ht b12 b27 hq hpo hpB hml; go_wp2
    go_loopw [6, 19] (fun v i wr => ∃ k : Nat, k ≤ p.ms.length ∧ i = .int .i64 k ∧ Hid (wr.ownsRow w7.heap.size 44 2 v k (spV ((provedF p).take k))) ∧ Hid (Below w7.heap.size w7 wr)) (fun _ i _ => p.ms.length - (intOf i).toNat)
    case atStart => exact ⟨0, by omega, rfl, Lib.hid (World.ownsRow_nil _ _ _ _), Lib.hid (Below.refl _ _)⟩
    case round =>
      obtain ⟨k, hk, rfl, HV, HY⟩ := hrel
      by_cases hlt : k < p.ms.length
      · have hki : (k : Int) < (p.ms.length : Int) := by omega
        have HTK := Lib.hid (show (provedF p).take (k + 1) = (provedF p).take k ++ [ovTo (fun pl => just (gi pl k)) (truthsF p) (truthsF p).length] by
          rw [List.take_succ_eq_append_getElem (by rw [provedF_len]; omega), ← gm_get _ _ (by rw [provedF_len]; omega), provedF_at p k (by omega), ovTo_all])
        obtain ⟨w9, e9, HS9, ka, nf, b9⟩ := box1 wr (.int .i64 (k : Int)) 3; have b79 := HY.out.trans (b9.mono HY.out.size); have y0 := (b79.cell (lt_of_cellq x0)).trans x0; have y1 := (b79.cell (lt_of_cellq x1)).trans x1; have y2 := (b79.cell (lt_of_cellq x2)).trans x2; have y3 := (b79.cell (lt_of_cellq x3)).trans x3; have hov := over_plays pm pv pr cm cv cr p (some ⟨ga, 0, none⟩) ca (truthsF p) wr.heap.size k w9 (HQ.out.below b79) (by have := HTL.out; omega) ka (by omega); have HV9 := Lib.hid (own_kept HV.out b9); have HY9 := Lib.hid b79; have HKB := Lib.hid (show k ≤ 4 by have := HML.out; omega); clear b9 b79 ka nf; go_wp2_with fail; refine hov.mono ?_; clear hov; rintro e w10 ⟨rfl, bo⟩; have HVo := Lib.hid (own_kept HV9.out bo); have HYo := Lib.hid (HY9.out.trans (bo.mono HY9.out.size)); clear bo e9; go_wp2_with (at_builtin; refine wpList_append_own _ rfl _ _ 38 rfl w7.heap.size 44 i0 _ 2 16 Tryz.underlying38 hi0 hzz0 hzz1 hzz2 rfl (by decide) _ _ _ rfl (HVo.out.alloc _) ⟨w10.heap.size, 0, none⟩ 1 1 [.int .i64 (ovTo (fun pl => just (gi pl k)) (truthsF p) (truthsF p).length).1, .int .i64 (ovTo (fun pl => just (gi pl k)) (truthsF p) (truthsF p).length).2] rfl rfl ?c1 ?c2 ?c3 ?c4 ?c5 ?_)
        case c1 => exact news_of _ _ _
        case c2 => intro u hu; simp at hu; rcases hu with rfl | rfl <;> rfl
        case c3 => have := HKB.out; unfold maxLen; omega
        case c4 => have := HKB.out; omega
        case c5 => have := HYo.out.size; simp; omega
        intro v' w11 hown' hgrow _; have HV11 := Lib.hid hown'; have HY11 := Lib.hid ((HYo.out.alloc HYo.out.size _).grown hgrow (by have := HYo.out.size; simp; omega) (fun j hj => (HVo.out.lt j hj).1)); clear hown' hgrow; go_wp2; go_roundw
        case rel =>
          refine ⟨k + 1, by omega, by go_num, Lib.hid ?_, HY11⟩; rw [HTK.out, spV_append, spV_one]; exact HV11.out
        case measure => simp [intOf]; omega
      · obtain rfl : k = p.ms.length := by omega
        have hki : ¬ ((p.ms.length : Nat) : Int) < (p.ms.length : Int) := by omega
        skip
        have hv := HV.out; rw [List.take_of_length_le (by rw [provedF_len]; exact Nat.le_refl _)] at hv
        obtain ⟨g', c', rfl⟩ : ∃ g' c', u6 = .slice (some ⟨g', 0, none⟩) (p.ms.length) c' := by
          rcases hv.2 with ⟨_, h0⟩ | ⟨g', cap', cur, e, _⟩
          · have := HML.out; omega
          · exact ⟨g', cap', e⟩
        have HVV := Lib.hid hv; clear hv; go_wp2; refine bodyPost_ret (v := .tuple #[.slice (some ⟨g', 0, none⟩) (p.ms.length) c', .int .i64 0]) (by simp [results, Tryz.results27, go_sem]) rfl ?_; refine ⟨.inr (.inr ⟨HC.out.1, HC.out.2, g', c', by rw [provedF_len], ?_⟩), HBB.out.trans (HY.out.mono HBB.out.size)⟩; rw [provedF_len]; exact own_mono HVV.out HBB.out.size
end Go.Proofs.YtbknfddaoolagaaGreatDoor
end

section
namespace Go.Proofs.YtbknfddaoolagaaGreatDoor
open Go Go.RowKit Go.Proofs
set_option linter.unusedVariables false
attribute [local go_sem] imax2 imin2

theorem c_isArbor (pm pv pr : Option Addr) (cm cv cr : Nat) (p : Pc) (n least : Int) (w : World) :
    Calls Tryz.prog 66 #[.agg #[.slice pm p.ms.length cm, .slice pv p.mv.length cv, .slice pr p.rs.length cr], .int .i64 n, .int .i64 least] w fun e w' => e = .returned (.bool (inB n least (p.ms.length : Int))) ∧ Below w.heap.size w w' := by
  obtain ⟨w1, e1, HS1, k0, k1, k2, b1⟩ := box3 w (.slice pm p.ms.length cm) (.slice pv p.mv.length cv) (.slice pr p.rs.length cr) 27; have HB := Lib.hid b1; clear b1
  go_enter Tryz.func66, Tryz.ntmps66
  go_wp2_with fail; refine (c_in n least (p.ms.length : Int) _).mono ?_; rintro e w2 ⟨rfl, rfl⟩; clear e1; go_wp2; go_ret; exact ⟨rfl, HB.out⟩
theorem c_isPlace (n : Int) (w : World) : Calls Tryz.prog 53 #[.int .i64 n] w fun e w' => e = .returned (.bool (inB n (-5000) 5000)) ∧ w = w' := by
  go_enter Tryz.func53, Tryz.ntmps53
  go_wp2_with fail; refine (c_in n (-5000) 5000 _).mono ?_; rintro e w2 ⟨rfl, rfl⟩; go_wp2; go_ret; exact ⟨rfl, rfl⟩
theorem c_isLimit (n : Int) (w : World) : Calls Tryz.prog 54 #[.int .i64 n] w fun e w' => e = .returned (.bool (inB n 0 5000)) ∧ w = w' := by
  go_enter Tryz.func54, Tryz.ntmps54
  go_wp2_with fail; refine (c_in n 0 5000 _).mono ?_; rintro e w2 ⟨rfl, rfl⟩; go_wp2; go_ret; exact ⟨rfl, rfl⟩
theorem sumT_take (pl : List Int) : ∀ a k, k ≤ a → sumT (pl.take a) k = sumT pl k := by
  intro a k
  induction k with
  | zero => intro _; rfl
  | succ k ih =>
    intro h; simp only [sumT]; rw [ih (by omega)]
    congr 1
    unfold gi; rw [List.getD_eq_getElem?_getD, List.getD_eq_getElem?_getD, List.getElem?_take_of_lt (by omega)]
theorem RdI.take {w : World} {p : Option Addr} {xs : List Int} (h : RdI w p xs) (a : Nat) : RdI w p (xs.take a) := by
  rcases h with h | ⟨b, off, rfl, hc⟩
  · exact .inl (by rw [h]; simp)
  · refine .inr ⟨b, off, rfl, fun i hi => ?_⟩
    rw [List.length_take] at hi; have := hc i (by omega); rw [this]
    congr 2
    unfold gi; rw [List.getD_eq_getElem?_getD, List.getD_eq_getElem?_getD, List.getElem?_take_of_lt (by omega)]
theorem PlOk.take {pl : List Int} (h : PlOk pl) (a : Nat) : PlOk (pl.take a) := by
  refine ⟨by have := h.len; rw [List.length_take]; omega, fun i hi => ?_⟩; rw [List.length_take] at hi; have := h.in' i (by omega)
  have e : gi (pl.take a) i = gi pl i := by
    unfold gi; rw [List.getD_eq_getElem?_getD, List.getD_eq_getElem?_getD, List.getElem?_take_of_lt (by omega)]
  rw [e]; exact this
theorem c_sumTo (p : Option Addr) (cap : Nat) (xs : List Int) (a : Nat) (w : World) (hx : RdI w p xs) (hp : PlOk xs) (ha : a ≤ xs.length) :
    Calls Tryz.prog 75 #[.slice p a cap] w fun e w' => e = .returned (.int .i64 (sumT xs a)) ∧ Below w.heap.size w w' := by
  have h := c_sum p cap (xs.take a) w (hx.take a) (hp.take a); rw [List.length_take, Nat.min_eq_left ha, sumT_take xs a a (Nat.le_refl _)] at h; exact h.mono fun e w' hh => ⟨hh.1, by rw [← hh.2]; exact Below.refl _ _⟩

theorem wq_slh {P : Program} {C : World → Prop} {ops : Array Oper} {Q : Act → Prop} {rest : List Oper} {a : Act} {d : Nat} {x y : Operand} {t ty : TypeId} {pos : String} {af : Array Edge} {g : Option (Nat × Bool)} {v i u : Value}
    (hr : ∀ w, (Instr.sliceAt t v none (some i) none).run P w = .ok u w) (hw : Region.wanted ⟨some d, .slice t x none (some y) none, ty, pos, af, g⟩ (yielded ops a.tmps) = true) (hx : a.eval x = v) (hy : a.eval y = i)
    (hk : wpQuiet P ops C Q rest (a.put (some d) u)) : wpQuiet P ops C Q (⟨some d, .slice t x none (some y) none, ty, pos, af, g⟩ :: rest) a :=
  wq hw (q_val (o := ⟨some d, .slice t x none (some y) none, ty, pos, af, g⟩) u (fun w _ => by unfold execOp; dsimp only; simp [hx, hy, hr]) hk)
theorem szLI (w : World) : (sizeOf 3).run Tryz.prog w = .ok 1 w := by kernel_rfl
theorem run_cut (ad : Addr) (n cap a : Nat) (ha : a ≤ cap) (w : World) : (Instr.sliceAt 24 (.slice (some ad) n cap) none (some (.int .i64 (a : Int))) none).run Tryz.prog w = .ok (.slice (some ad) a cap) w := by
  have e : Tryz.prog.elem 24 = 3 := by kernel_rfl
  have hu : Tryz.prog.underlying 24 = some (.slice (Tryz.prog.elem 24)) := by rw [e]; exact Tryz.underlying24
  rw [run_sliceAt_slice (h := hu), run_slice_h (ht := hu) (h0 := by omega) (h2 := by omega), e, szLI]; simp only [Result.andThen, sliced, Int.toNat_natCast, Nat.sub_zero]
  by_cases h : cap = 0
  · simp [h]
  · rw [if_neg h]
    simp [Addr.add]

set_option maxRecDepth 100000 in
theorem c_ahead (q : Option Addr) (nq cq : Nat) (p2 : Option Addr) (n c2 : Nat) (pl e : List Int) (a : Nat) (w : World) (h1 : RdI w q pl) (hq : pl.length = nq) (h2 : RdI w p2 e) (hn : e.length = n) (hc : nq ≤ cq) (ha1 : 1 ≤ a) (haq : a ≤ nq) (ha : a < n) (hp : PlOk pl) (hr : ∀ i, i < e.length → -100000 ≤ gi e i ∧ gi e i ≤ 100000) :
    Calls Tryz.prog 117 #[.agg #[.slice q nq cq, .slice p2 n c2], .int .i64 a] w fun e' w' => e' = .returned (.int .i64 (ahdF pl e a)) ∧ Below w.heap.size w w' := by
  obtain ⟨w1, e1, HS1, t0, t1, b1⟩ := box2 w (.slice q nq cq) (.slice p2 n c2) 98; obtain ⟨b, off, rfl, hcc⟩ := (h1.below b1).at (i := 0) (by omega); have H1 := Lib.hid (h1.below b1); have H2 := Lib.hid (h2.below b1); have HN := Lib.hid hn; have HQ := Lib.hid hq; have HP := Lib.hid hp; have HR := Lib.hid hr; have HB := Lib.hid b1; have HAQ := Lib.hid (show a ≤ pl.length by omega); have HE := Lib.hid (show ahdF pl e a = sumT pl a - behF e a from rfl); have hs := hp.sum a (by omega); have hb0 := hr 0 (by omega); have hba := hr a (by omega); have hbe : -200000 ≤ behF e a ∧ behF e a ≤ 200000 := by unfold behF; omega
  obtain ⟨hs1, hs2⟩ := hs; obtain ⟨hb1, hb2⟩ := hbe; have hac : a ≤ cq := by omega
  have hsl := run_cut ⟨b, off, none⟩ nq cq a hac; clear hcc h1 h2 hn hq hp hr b1 hb0 hba
  go_enter Tryz.func117, Tryz.ntmps117
  go_upto_region 1 with (fail); clear e1; refine wp_region_quiet_below (by kernel_rfl) (by kernel_rfl) ?_; (repeat (first | ((with_reducible first | apply wq_fg faP0 | apply wq_fg faP1 | apply wq_fg faP2 | apply wq_fg faM0 | apply wq_fg faS0 | apply wq_fg faS1 | apply wq_fg faR0 | apply wq_fg faR1 | apply wq_fg faR2 | apply wq_fg faR3 | apply wq_fg faT0 | apply wq_fg faT1 | apply wq_fg faQ0 | apply wq_fg faQ1 | apply wq_fg faH0 | apply wq_fg faH1 | apply wq_fg faH2 | apply wq_fg faH3); (focus rfl); (focus rfl); go_frame) | ((with_reducible refine wq_lda agT szT ?_ ?_ ?_ (fun _ hbq => bcells2 t0 t1 hbq) ?_); (focus rfl); (focus rfl); (focus rfl); go_frame) | ((with_reducible apply wq_slh hsl); (focus rfl); (focus rfl); (focus rfl); go_frame) | ((with_reducible first | apply wq_ix Tryz.underlying24 szI | apply wq_ix Tryz.underlying38 szSp | apply wq_ix Tryz.underlying23 szM | apply wq_ix Tryz.underlying25 szR | apply wq_ix Tryz.underlying51 szL | apply wq_ix Tryz.underlying91 szT); (focus rfl); (focus rfl); (focus rfl); (focus omega); (try simp only [Nat.mul_one]); go_frame) | ((with_reducible first | apply wq_ld agI | apply wq_ld agB | apply wq_ld agLI | apply wq_ld agLS | apply wq_ld agLM | apply wq_ld agLR | apply wq_ld agLL | apply wq_ld agLT); (focus rfl); (focus rfl); (focus (intro _ hbq; first | exact (hbq.cell (lt_of_cellq t0)).trans t0)); go_frame) | ((with_reducible first | apply wq_add | apply wq_sub | apply wq_mul | apply wq_rem); (focus rfl); (focus rfl); (focus rfl); (focus omega); (focus omega); go_frame) | ((with_reducible first | apply wq_eql | apply wq_neq | apply wq_lss | apply wq_leq | apply wq_gtr | apply wq_geq | apply wq_max2 | apply wq_min2); (focus rfl); (focus rfl); (focus rfl); go_frame) | ((with_reducible first | apply wq_max3 | apply wq_min3); (focus rfl); (focus rfl); (focus rfl); (focus rfl); go_frame) | go_big_quiet_step ((first | (intro hbq; exact calls_below hbq (c_sumTo (some ⟨b, off, none⟩) cq pl a _ (H1.out.below hbq) HP.out HAQ.out)) | (intro hbq; exact calls_below hbq (c_behind (some ⟨b, off, none⟩) nq cq p2 n c2 e a _ (H2.out.below hbq) HN.out (by assumption) HR.out)))))); refine wpQuiet_nil ?_; intro wq hbq
  go_wp2; go_ret; exact ⟨by rw [HE.out]; rfl, HB.out.trans (hbq.mono HB.out.size)⟩
end Go.Proofs.YtbknfddaoolagaaGreatDoor
end
