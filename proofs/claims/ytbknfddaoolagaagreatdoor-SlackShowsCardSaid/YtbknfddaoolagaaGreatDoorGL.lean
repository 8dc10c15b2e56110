/-
  The chapter's examples, plain values.
  The chapter's examples as the laws lay them: contracts.
  The references' comparison of lists of lists of numbers.
  The references' comparison of pieces.
-/
import Derived.Test.YtbknfddaoolagaaGreatDoorGC
import Derived.Test.YtbknfddaoolagaaGreatDoorGI
import Derived.Test.YtbknfddaoolagaaGreatDoorGK
import Derived.Test.YtbknfddaoolagaaGreatDoorGG
section
namespace Go.Proofs.YtbknfddaoolagaaGreatDoor
set_option linter.unusedVariables false

def exP : Pc := ⟨[(10, 12), (5, 5), (20, 24)], [100, -30, 8], []⟩
def exQ : Pc := ⟨[(10, 12), (5, 5), (20, 24)], [100, -30, 8], [⟨1, 1, 89, 0⟩, ⟨3, 3, 62, 1⟩]⟩
def exA : Hd := ⟨3, 3, 2, [(-1, 2), (0, 0), (0, 0), (0, 0)]⟩
def exB : Hd := ⟨1, 1, 1, [(0, 0)]⟩
def exY : Pc := ⟨[(0, 0)], [], []⟩
def exT : ByteArray := ⟨#[112, 105, 101, 99, 101, 32, 49, 10, 109, 101, 115, 104, 32, 48, 32, 48, 10, 109, 111, 118, 101, 115, 10, 101, 110, 100, 32, 48, 48, 57, 10]⟩
theorem ex_piece : pieceB exP = true ∧ pieceB exQ = true := by decide +kernel
theorem ex_fit : (pieceB exP && playsB exP [10, 5, 20] && withinB exP [10, 5, 20]) = true := by decide +kernel
theorem ex_run : allF [10, 5, 20] exP.mv exP.mv.length = [[0, -10, -15, -35], [100, 90, 85, 65], [70, 70, 70, 65], [78, 70, 70, 65]] := by decide +kernel
theorem ex_truths : (truthsF exQ).length = 3 := by decide +kernel
theorem ex_some : truthsF exP ≠ [] ∧ truthsF exQ ≠ [] := by decide +kernel
theorem ex_known : knownF exP = [(78, 78), (70, 70), (70, 70), (59, 65)] := by decide +kernel
theorem ex_plays : provedF exQ = [(11, 11), (5, 5), (21, 23)] := by decide +kernel
theorem ex_lost : lostOn exP 3 = (22, 22) ∧ lostBack exP 3 = (13, 19) := by decide +kernel
theorem ex_shows : handB exP.ms.length exA = true ∧ handB exP.ms.length exB = true ∧ showsF exP exA = (87, 99) := by decide +kernel
theorem ex_apart : apartF exP exB exA = (-29, -17) := by decide +kernel
theorem ex_aim : aimF exP 3 90 3 = some 50 := by decide +kernel
theorem ex_renew : renewF exP [5, 3, 9] 24 = [0, 1] ∧ priceF [5, 3, 9] [0, 1] = 8 := by decide +kernel
theorem ex_look : lookF exP 1 = (3, 9) := by decide +kernel
theorem ex_many : (truthsF exP).length = 15 := by decide +kernel
theorem ex_yok : pieceB exY = true := by decide +kernel
theorem ex_text : textP exY = exT := by
  apply ba_inj
  decide +kernel
theorem ex_book : BkP exT exY := by
  have h := bk_text (pieceB_iff.1 ex_yok); rw [ex_text] at h; exact h
theorem ex_read {q : Pc} {er : Int} (h : ReadR exT q er) : q = exY ∧ er = 0 := read_good (by decide +kernel) ex_book ex_yok h
end Go.Proofs.YtbknfddaoolagaaGreatDoor
end

section
namespace Go.Proofs.YtbknfddaoolagaaGreatDoor
open Go Go.RowKit Go.Proofs Go.Shelf
set_option linter.unusedVariables false
set_option linter.unusedSimpArgs false

theorem rds_lit (w : World) (ss : List (Int × Int)) (t : TypeId) : RdS (w.alloc (.cells (spV ss).toArray t)) (some ⟨w.heap.size, 0, none⟩) ss := by
  refine .inr ⟨w.heap.size, 0, rfl, fun i hi => ?_⟩; obtain ⟨e1, e2⟩ := spV_get ss i hi; rw [Nat.zero_add, at_new, at_new, List.getElem?_toArray, List.getElem?_toArray]; exact ⟨e1, e2⟩
theorem rdr_lit (w : World) (rs : List Rd) (t : TypeId) : RdR (w.alloc (.cells (rdV rs).toArray t)) (some ⟨w.heap.size, 0, none⟩) rs := by
  refine .inr ⟨w.heap.size, 0, rfl, fun i hi => ?_⟩; obtain ⟨e1, e2, e3, e4⟩ := rdV_get rs i hi; rw [Nat.zero_add, at_new, at_new, at_new, at_new, List.getElem?_toArray, List.getElem?_toArray, List.getElem?_toArray, List.getElem?_toArray]; exact ⟨e1, e2, e3, e4⟩
theorem c_span (a b : Int) (w : World) : Calls Tryz.prog 37 #[.int .i64 a, .int .i64 b] w fun e w' => e = .returned (.agg #[.int .i64 a, .int .i64 b]) ∧ Below w.heap.size w w' := by
  obtain ⟨w1, e1, HS1, y0, y1, b1⟩ := box2 w (.int .i64 a) (.int .i64 b) 44; have HB := Lib.hid b1; clear b1
  go_enter Tryz.func37, Tryz.ntmps37
  go_wp2; refine bodyPost_ret (v := .agg #[.int .i64 a, .int .i64 b]) ?_ rfl ⟨rfl, HB.out⟩; simp [results, Tryz.results37, go_sem, y0, y1]
def meshes3 : List (Int × Int) := [(10, 12), (5, 5), (20, 24)]
set_option maxRecDepth 100000 in
theorem c_P (w : World) : Calls Tryz.prog 23 #[] w fun e w' => (∃ ga gb, w.heap.size < ga ∧ w.heap.size < gb ∧ e = .returned (.agg #[.slice (some ⟨ga, 0, none⟩) 3 3, .slice (some ⟨gb, 0, none⟩) 3 3, .slice none 0 0]) ∧ RdP w' (some ⟨ga, 0, none⟩) (some ⟨gb, 0, none⟩) none exP) ∧ Below w.heap.size w w' := by
  have kp := alloc_new w (.cells #[.slice none 0 0, .slice none 0 0, .slice none 0 0] 27); obtain ⟨w1, e1, HS1, _, _, _, b1⟩ := box3 w (.slice none 0 0) (.slice none 0 0) (.slice none 0 0) 27; rw [e1] at kp; have HB1 := Lib.hid b1; have HK1 := Lib.hid kp; clear b1 kp
  go_enter Tryz.func23, Tryz.ntmps23
  go_wp2_with fail; refine (c_span 10 12 _).mono ?_; rintro e w2 ⟨rfl, b2⟩; go_wp2_with fail; refine (c_span 5 5 _).mono ?_; rintro e w3 ⟨rfl, b3⟩; go_wp2_with fail; refine (c_span 20 24 _).mono ?_; rintro e w4 ⟨rfl, b4⟩; obtain ⟨w5, e5⟩ : ∃ w5, w4.alloc (.cells #[.int .i64 10, .int .i64 12, .int .i64 5, .int .i64 5, .int .i64 20, .int .i64 24] 78) = w5 := ⟨_, rfl⟩; obtain ⟨w6, e6⟩ : ∃ w6, w5.alloc (.cells #[.int .i64 100, .int .i64 (-30), .int .i64 8] 3) = w6 := ⟨_, rfl⟩; have b5 : Below w4.heap.size w4 w5 := by rw [← e5]; exact below_alloc1 _ _
  have b6 : Below w5.heap.size w5 w6 := by rw [← e6]; exact below_alloc1 _ _
  have b16 := b2.trans ((b3.trans ((b4.trans ((b5.trans (b6.mono b5.size)).mono b4.size)).mono b3.size)).mono b2.size); have hm : RdS w5 (some ⟨w4.heap.size, 0, none⟩) meshes3 := by rw [← e5]; exact rds_lit w4 meshes3 78
  have hv : RdI w6 (some ⟨w5.heap.size, 0, none⟩) [100, -30, 8] := by rw [← e6]; exact rd_lit w5 [100, -30, 8] 3
  have hm6 := hm.below b6; obtain ⟨x1, x2, x3, s1, s2, s3, ⟨c0, f0⟩, ⟨c1, f1⟩, ⟨c2, f2⟩, hx4, hxk, HZ, hxb⟩ := set3 w6 w.heap.size 27 _ _ _ (.slice (some ⟨w4.heap.size, 0, none⟩) 3 3) (.slice (some ⟨w5.heap.size, 0, none⟩) 3 3) (.slice none 0 0) ((b16.block _ (block_lt HK1.out)).trans HK1.out); obtain ⟨r0, r1, r2⟩ := cells3 hx4; have hz : w.heap.size < w4.heap.size := by have := HS1.out; have := b2.size; have := b3.size; have := b4.size; omega
  have hz5 : w.heap.size < w5.heap.size := by have := b5.size; omega
  have HZ45 := Lib.hid (And.intro hz hz5); have HBB := Lib.hid (hxb w w.heap.size (Nat.le_refl _) (HB1.out.trans (b16.mono HB1.out.size)))
  have HRP := Lib.hid (show RdP x3 (some ⟨w4.heap.size, 0, none⟩) (some ⟨w5.heap.size, 0, none⟩) none exP from by
    have hk : ∀ b j v, b ≠ w.heap.size → w6.cell? ⟨b, j, none⟩ = some v → x3.cell? ⟨b, j, none⟩ = some v := fun b j v hb h => (World.cell?_of_block (hxk b hb)).trans h
    refine ⟨?_, ?_, .inl rfl⟩
    · rcases hm6 with h | ⟨b, off, hb, hc⟩
      · exact absurd h (by decide)
      · cases hb
        exact .inr ⟨_, _, rfl, fun i hi => ⟨hk _ _ _ (by omega) (hc i hi).1, hk _ _ _ (by omega) (hc i hi).2⟩⟩
    · rcases hv with h | ⟨b, off, hb, hc⟩
      · exact absurd h (by decide)
      · cases hb
        exact .inr ⟨_, _, rfl, fun i hi => hk _ _ _ (by have := b5.size; omega) (hc i hi)⟩)
  clear b2 b3 b4 b5 b6 b16 hm hv hm6 hx4 hxk hxb hz hz5; go_wp2; refine bodyPost_ret (v := .agg #[.slice (some ⟨w4.heap.size, 0, none⟩) 3 3, .slice (some ⟨w5.heap.size, 0, none⟩) 3 3, .slice none 0 0]) ?_ rfl ⟨⟨_, _, HZ45.out.1, HZ45.out.2, rfl, HRP.out⟩, HBB.out⟩; simp [results, Tryz.results23, go_sem, r0, r1, r2]

def reads2 : List Rd := [⟨1, 1, 89, 0⟩, ⟨3, 3, 62, 1⟩]
set_option maxRecDepth 100000 in
theorem c_Q (w : World) : Calls Tryz.prog 25 #[] w fun e w' => (∃ ga gb gc, e = .returned (.agg #[.slice (some ⟨ga, 0, none⟩) 3 3, .slice (some ⟨gb, 0, none⟩) 3 3, .slice (some ⟨gc, 0, none⟩) 2 2]) ∧ RdP w' (some ⟨ga, 0, none⟩) (some ⟨gb, 0, none⟩) (some ⟨gc, 0, none⟩) exQ) ∧ Below w.heap.size w w' := by
  have kp := alloc_new w (.cells #[.slice none 0 0, .slice none 0 0, .slice none 0 0] 27); obtain ⟨w1, e1, HS1, _, _, _, b1⟩ := box3 w (.slice none 0 0) (.slice none 0 0) (.slice none 0 0) 27; rw [e1] at kp; have HB1 := Lib.hid b1; have HK1 := Lib.hid kp; clear b1 kp
  go_enter Tryz.func25, Tryz.ntmps25
  go_wp2_with fail; refine (c_P _).mono ?_; rintro e w2 ⟨⟨ga, gb, hga, hgb, rfl, hrp⟩, b2⟩; have kq := alloc_new w2 (.cells #[.slice (some ⟨ga, 0, none⟩) 3 3, .slice (some ⟨gb, 0, none⟩) 3 3, .slice none 0 0] 27); obtain ⟨wb, e3, HSb, _, _, _, b3⟩ := box3 w2 (.slice (some ⟨ga, 0, none⟩) 3 3) (.slice (some ⟨gb, 0, none⟩) 3 3) (.slice none 0 0) 27; rw [e3] at kq; obtain ⟨w3, s3', _, _, kq, _, HZb, hb3⟩ := put3_2 wb w2.heap.size 27 _ _ _ (.slice none 0 0) kq; have b3 := hb3 w2 w2.heap.size (Nat.le_refl _) b3; have HS3 := Lib.hid (show w3.heap.size = w2.heap.size + 1 by rw [HZb.out, HSb.out]); clear hb3; obtain ⟨w4, e4⟩ : ∃ w4, w3.alloc (.cells #[.int .i64 1, .int .i64 1, .int .i64 89, .int .i64 0, .int .i64 3, .int .i64 3, .int .i64 62, .int .i64 1] 87) = w4 := ⟨_, rfl⟩; have b4 : Below w3.heap.size w3 w4 := by rw [← e4]; exact below_alloc1 _ _
  have hr4 : RdR w4 (some ⟨w3.heap.size, 0, none⟩) reads2 := by rw [← e4]; exact rdr_lit w3 reads2 87
  have b34 := b3.trans (b4.mono b3.size); have hrp4 := hrp.below b34; obtain ⟨w5, s5, d0, df, hx5, hk5, HZ5, hb5⟩ := put3_2 w4 w2.heap.size 27 _ _ _ (.slice (some ⟨w3.heap.size, 0, none⟩) 2 2) ((b4.block _ (block_lt kq)).trans kq); obtain ⟨o0, o1, o2⟩ := cells3 hx5; have hs1 := HS1.out; have hs3 := HS3.out; have hz2 := b2.size; obtain ⟨x1, x2, x3, s1, s2, s3, ⟨c0, f0⟩, ⟨c1, f1⟩, ⟨c2, f2⟩, hx4, hxk, HZ, hxb⟩ := set3 w5 w.heap.size 27 _ _ _ (.slice (some ⟨ga, 0, none⟩) 3 3) (.slice (some ⟨gb, 0, none⟩) 3 3) (.slice (some ⟨w3.heap.size, 0, none⟩) 2 2) ((hk5 w.heap.size (by omega)).trans ((b34.block _ (by omega)).trans ((b2.block _ (block_lt HK1.out)).trans HK1.out))); obtain ⟨r0, r1, r2⟩ := cells3 hx4; have HBB := Lib.hid (hxb w w.heap.size (Nat.le_refl _) (hb5 w w.heap.size (by omega) (HB1.out.trans ((b2.trans (b34.mono b2.size)).mono HB1.out.size))))
  have HRP := Lib.hid (show RdP x3 (some ⟨ga, 0, none⟩) (some ⟨gb, 0, none⟩) (some ⟨w3.heap.size, 0, none⟩) exQ from by
    have hk : ∀ b j v, b ≠ w.heap.size → b ≠ w2.heap.size → w4.cell? ⟨b, j, none⟩ = some v → x3.cell? ⟨b, j, none⟩ = some v := fun b j v hb hb2 h => (World.cell?_of_block (hxk b hb)).trans ((World.cell?_of_block (hk5 b hb2)).trans h)
    refine ⟨?_, ?_, ?_⟩
    · rcases hrp.ms with h | ⟨b, off, hb, hc⟩
      · exact absurd h (by decide)
      · cases hb
        refine .inr ⟨_, _, rfl, fun i hi => ?_⟩; obtain ⟨q1, q2⟩ := hc i hi; have hlt := lt_of_cellq q1
        dsimp only at hlt
        exact ⟨hk _ _ _ (by omega) (by omega) ((b34.cell (lt_of_cellq q1)).trans q1), hk _ _ _ (by omega) (by omega) ((b34.cell (lt_of_cellq q2)).trans q2)⟩
    · rcases hrp.mv with h | ⟨b, off, hb, hc⟩
      · exact absurd h (by decide)
      · cases hb
        refine .inr ⟨_, _, rfl, fun i hi => ?_⟩; have q1 := hc i hi; have hlt := lt_of_cellq q1
        dsimp only at hlt
        exact hk _ _ _ (by omega) (by omega) ((b34.cell (lt_of_cellq q1)).trans q1)
    · rcases hr4 with h | ⟨b, off, hb, hc⟩
      · exact absurd h (by unfold reads2; decide)
      · cases hb
        refine .inr ⟨_, _, rfl, fun i hi => ?_⟩; obtain ⟨q1, q2, q3, q4⟩ := hc i hi; exact ⟨hk _ _ _ (by omega) (by omega) q1, hk _ _ _ (by omega) (by omega) q2, hk _ _ _ (by omega) (by omega) q3, hk _ _ _ (by omega) (by omega) q4⟩)
  clear b2 b3 b4 b34 hr4 hrp hrp4 hx4 hxk hxb hx5 hk5 hb5 kq hs1 hs3 hz2 hga hgb; go_wp2; refine bodyPost_ret (v := .agg #[.slice (some ⟨ga, 0, none⟩) 3 3, .slice (some ⟨gb, 0, none⟩) 3 3, .slice (some ⟨w3.heap.size, 0, none⟩) 2 2]) ?_ rfl ⟨⟨_, _, _, rfl, HRP.out⟩, HBB.out⟩; simp [results, Tryz.results25, go_sem, r0, r1, r2]
def errs4 : List (Int × Int) := [(-1, 2), (0, 0), (0, 0), (0, 0)]
set_option maxRecDepth 100000 in
theorem c_A (w : World) : Calls Tryz.prog 29 #[] w fun e w' => (∃ ga, e = .returned (.agg #[.int .i64 3, .int .i64 3, .int .i64 2, .slice (some ⟨ga, 0, none⟩) 4 4]) ∧ RdS w' (some ⟨ga, 0, none⟩) exA.er) ∧ Below w.heap.size w w' := by
  have kp := alloc_new w (.cells #[.int .i64 0, .int .i64 0, .int .i64 0, .slice none 0 0] 40); obtain ⟨w1, e1, HS1, _, _, _, _, b1⟩ := box4 w (.int .i64 0) (.int .i64 0) (.int .i64 0) (.slice none 0 0) 40; rw [e1] at kp; have HB1 := Lib.hid b1; have HK1 := Lib.hid kp; clear b1 kp
  go_enter Tryz.func29, Tryz.ntmps29
  go_wp2_with fail; refine (c_span (-1) 2 _).mono ?_; rintro e w2 ⟨rfl, b2⟩; obtain ⟨w3, e3⟩ : ∃ w3, w2.alloc (.cells #[.int .i64 (-1), .int .i64 2, .int .i64 0, .int .i64 0, .int .i64 0, .int .i64 0, .int .i64 0, .int .i64 0] 44) = w3 := ⟨_, rfl⟩; have b3 : Below w2.heap.size w2 w3 := by rw [← e3]; exact below_alloc1 _ _
  have hr : RdS w3 (some ⟨w2.heap.size, 0, none⟩) errs4 := by rw [← e3]; exact rds_lit w2 errs4 44
  have b23 := b2.trans (b3.mono b2.size); obtain ⟨x1, x2, x3, x4, s1, s2, s3, s4, ⟨c0, f0⟩, ⟨c1, f1⟩, ⟨c2, f2⟩, ⟨c3, f3⟩, hx4, hxk, HZ, hxb⟩ := set4 w3 w.heap.size 40 _ _ _ _ (.int .i64 3) (.int .i64 3) (.int .i64 2) (.slice (some ⟨w2.heap.size, 0, none⟩) 4 4) ((b23.block _ (block_lt HK1.out)).trans HK1.out); obtain ⟨r0, r1, r2, r3⟩ := cells4 hx4; have HBB := Lib.hid (hxb w w.heap.size (Nat.le_refl _) (HB1.out.trans (b23.mono HB1.out.size))); have hne : w2.heap.size ≠ w.heap.size := by have := HS1.out; have := b2.size; omega
  have HRS := Lib.hid (show RdS x4 (some ⟨w2.heap.size, 0, none⟩) exA.er from by
    rcases hr with h | ⟨b, off, hb, hc⟩
    · exact absurd h (by decide)
    · cases hb
      exact .inr ⟨_, _, rfl, fun i hi => ⟨(World.cell?_of_block (hxk _ hne)).trans (hc i hi).1, (World.cell?_of_block (hxk _ hne)).trans (hc i hi).2⟩⟩)
  clear b2 b3 b23 hr hx4 hxk hxb hne; go_wp2; refine bodyPost_ret (v := .agg #[.int .i64 3, .int .i64 3, .int .i64 2, .slice (some ⟨w2.heap.size, 0, none⟩) 4 4]) ?_ rfl ⟨⟨_, rfl, HRS.out⟩, HBB.out⟩; simp [results, Tryz.results29, go_sem, r0, r1, r2, r3]
def errs1 : List (Int × Int) := [(0, 0)]
set_option maxRecDepth 100000 in
theorem c_B (w : World) : Calls Tryz.prog 31 #[] w fun e w' => (∃ ga, e = .returned (.agg #[.int .i64 1, .int .i64 1, .int .i64 1, .slice (some ⟨ga, 0, none⟩) 1 1]) ∧ RdS w' (some ⟨ga, 0, none⟩) exB.er) ∧ Below w.heap.size w w' := by
  have kp := alloc_new w (.cells #[.int .i64 0, .int .i64 0, .int .i64 0, .slice none 0 0] 40); obtain ⟨w1, e1, HS1, _, _, _, _, b1⟩ := box4 w (.int .i64 0) (.int .i64 0) (.int .i64 0) (.slice none 0 0) 40; rw [e1] at kp; obtain ⟨w3, e3⟩ : ∃ w3, w1.alloc (.cells #[.int .i64 0, .int .i64 0] 44) = w3 := ⟨_, rfl⟩; have b3 : Below w1.heap.size w1 w3 := by rw [← e3]; exact below_alloc1 _ _
  have hr : RdS w3 (some ⟨w1.heap.size, 0, none⟩) errs1 := by rw [← e3]; exact rds_lit w1 errs1 44
  obtain ⟨x1, x2, x3, x4, s1, s2, s3, s4, ⟨c0, f0⟩, ⟨c1, f1⟩, ⟨c2, f2⟩, ⟨c3, f3⟩, hx4, hxk, HZ, hxb⟩ := set4 w3 w.heap.size 40 _ _ _ _ (.int .i64 1) (.int .i64 1) (.int .i64 1) (.slice (some ⟨w1.heap.size, 0, none⟩) 1 1) ((b3.block _ (block_lt kp)).trans kp); obtain ⟨r0, r1, r2, r3⟩ := cells4 hx4; have HBB := Lib.hid (hxb w w.heap.size (Nat.le_refl _) (b1.trans (b3.mono b1.size))); have hne : w1.heap.size ≠ w.heap.size := by have := HS1.out; omega
  have HRS := Lib.hid (show RdS x4 (some ⟨w1.heap.size, 0, none⟩) exB.er from by
    rcases hr with h | ⟨b, off, hb, hc⟩
    · exact absurd h (by decide)
    · cases hb
      exact .inr ⟨_, _, rfl, fun i hi => ⟨(World.cell?_of_block (hxk _ hne)).trans (hc i hi).1, (World.cell?_of_block (hxk _ hne)).trans (hc i hi).2⟩⟩)
  clear b1 b3 hr hx4 hxk hxb hne kp
  go_enter Tryz.func31, Tryz.ntmps31
  go_wp2; refine bodyPost_ret (v := .agg #[.int .i64 1, .int .i64 1, .int .i64 1, .slice (some ⟨w1.heap.size, 0, none⟩) 1 1]) ?_ rfl ⟨⟨_, rfl, HRS.out⟩, HBB.out⟩; simp [results, Tryz.results31, go_sem, r0, r1, r2, r3]
end Go.Proofs.YtbknfddaoolagaaGreatDoor
end

section
namespace Go.Proofs.YtbknfddaoolagaaGreatDoor
open Go Go.RowKit Go.Proofs
set_option linter.unusedVariables false
set_option linter.unusedSimpArgs false

theorem gl_ext {xs ys : List (List Int)} (hl : xs.length = ys.length) (h : ∀ j, j < xs.length → gl xs j = gl ys j) : xs = ys := by
  apply List.ext_getElem hl; intro i h1 h2; have h3 := h i h1; have e1 : gl xs i = xs[i] := by unfold gl; simp [h1]
  have e2 : gl ys i = ys[i] := by unfold gl; simp [h2]
  rw [e1, e2] at h3; exact h3
theorem rdI_drew {w : World} {p : Option Addr} {xs : List Int} {n : Nat} (h : RdI w p xs) : RdI (w.drewN n) p xs := h.below (below_drewN (Below.refl _ _) n)
theorem c_sameN {n m : Nat} {p q : Option Addr} {xs ys : List Int} {c d : Nat} {w : World} (hn : xs.length = n) (hm : ys.length = m) (hx : RdI w p xs) (hy : RdI w q ys) (hl : n ≤ 1000000) :
    Calls Tryz.prog 38 #[.slice p n c, .slice q m d] w fun e w' => e = .returned (.bool (decide (xs = ys))) ∧ ∃ n, w' = w.drewN n := by
  subst hn; subst hm; exact c_same p c xs q d ys w hx hy hl
def RdLs (w : World) (p : Option Addr) (ls : List (List Int)) : Prop :=
  ls = [] ∨ ∃ b off, p = some ⟨b, off, none⟩ ∧ ∀ i, i < ls.length → ∃ q c, w.cell? ⟨b, off + i, none⟩ = some (.slice q (gl ls i).length c) ∧ RdI w q (gl ls i)
theorem RdLs.at {w : World} {p : Option Addr} {ls : List (List Int)} (h : RdLs w p ls) {i : Nat} (hi : i < ls.length) :
    ∃ b off, p = some ⟨b, off, none⟩ ∧ ∀ i, i < ls.length → ∃ q c, w.cell? ⟨b, off + i, none⟩ = some (.slice q (gl ls i).length c) ∧ RdI w q (gl ls i) := by
  rcases h with h | h
  · subst h; simp at hi
  · exact h
theorem RdLs.below {w w' : World} {p : Option Addr} {ls : List (List Int)} (h : RdLs w p ls) (hb : Below w.heap.size w w') : RdLs w' p ls := by
  rcases h with h | ⟨b, off, rfl, hc⟩
  · exact .inl h
  · refine .inr ⟨b, off, rfl, fun i hi => ?_⟩
    obtain ⟨q, c, h1, h2⟩ := hc i hi; exact ⟨q, c, (hb.cell (lt_of_cellq h1)).trans h1, h2.below hb⟩

set_option maxRecDepth 100000 in
theorem c_sameLists (p : Option Addr) (cap : Nat) (xs : List (List Int)) (q : Option Addr) (cap' : Nat) (ys : List (List Int)) (w : World) (hx : RdLs w p xs) (hy : RdLs w q ys) (hl : xs.length ≤ 1000000) (hs : ∀ i, i < xs.length → (gl xs i).length ≤ 1000000) :
    Calls Tryz.prog 35 #[.slice p xs.length cap, .slice q ys.length cap'] w fun e w' => e = .returned (.bool (decide (xs = ys))) ∧ ∃ n, w' = w.drewN n := by
  have HSM := Lib.hid hs; clear hs
  by_cases h3 : xs.length = ys.length
  · have HL := Lib.hid h3
    have h3' : ((xs.length : Int) != (ys.length : Int)) = false := by simp [h3]
    clear h3
    go_enter Tryz.func35, Tryz.ntmps35
    go_wp2
    go_loopw [5] (fun i wr => ∃ k : Nat, k ≤ xs.length ∧ i = .int .i64 k ∧ Hid (∀ j, j < k → gl xs j = gl ys j) ∧ ∃ m, wr = w.drewN m) (fun i _ => xs.length - (intOf i).toNat)
    case atStart => exact ⟨0, by omega, rfl, Lib.hid (by intro j hj; omega), 0, by rfl⟩
    case round =>
      obtain ⟨k, hk, rfl, HK, m, hv⟩ := hrel; have HV := Lib.hid hv; clear hv
      by_cases hlt : k < xs.length
      · have hltI : decide ((k : Int) < (xs.length : Int)) = true := by simp; omega
        obtain ⟨b, off, rfl, hc⟩ := hx.at hlt; have hlt2 : k < ys.length := by have := HL.out; omega
        obtain ⟨b', off', rfl, hc'⟩ := hy.at hlt2; obtain ⟨a1, c1, e1, r1⟩ := hc k hlt; obtain ⟨a2, c2, e2, r2⟩ := hc' k hlt2; have f1 : wr.cell? ⟨b, off + k, none⟩ = some (.slice a1 (gl xs k).length c1) := by rw [HV.out]; exact e1
        have f2 : wr.cell? ⟨b', off' + k, none⟩ = some (.slice a2 (gl ys k).length c2) := by rw [HV.out]; exact e2
        have R1 := Lib.hid (show RdI wr a1 (gl xs k) by rw [HV.out]; exact rdI_drew r1); have R2 := Lib.hid (show RdI wr a2 (gl ys k) by rw [HV.out]; exact rdI_drew r2); clear hc hx hc' hy e1 e2 r1 r2
        by_cases he : gl xs k = gl ys k
        · have HE := Lib.hid he
          have HD := decide_eq_true he
          have H30 := Lib.hid (fun n' => show Calls Tryz.prog 38 #[.slice a1 (gl xs k).length c1, .slice a2 (gl ys k).length c2] (wr.drewN n') fun e w' => e = .returned (.bool true) ∧ ∃ n, w' = (wr.drewN n').drewN n by
            have h := c_sameN (c := c1) (d := c2) rfl rfl (rdI_drew (n := n') R1.out) (rdI_drew (n := n') R2.out) (HSM.out k hlt); rw [HD] at h; exact h)
          clear he HD; go_wp2; refine wp_region_quiet_lit (by kernel_rfl) (by kernel_rfl) ?_; (repeat (first | ((with_reducible first | apply wq_ix Tryz.underlying24 szI | apply wq_ix Tryz.underlying38 szSp | apply wq_ix Tryz.underlying23 szM | apply wq_ix Tryz.underlying25 szR | apply wq_ix Tryz.underlying51 szL | apply wq_ix Tryz.underlying91 szT); (focus rfl); (focus rfl); (focus rfl); (focus omega); (try simp only [Nat.mul_one]); go_frame) | ((with_reducible first | apply wq_ld agI | apply wq_ld agB | apply wq_ld agLI | apply wq_ld agLS | apply wq_ld agLM | apply wq_ld agLR | apply wq_ld agLL | apply wq_ld agLT); (focus rfl); (focus rfl); (focus (rintro _ ⟨_, rfl⟩; first | exact f1 | exact f2)); go_frame) | ((with_reducible first | apply wq_add | apply wq_sub | apply wq_mul | apply wq_rem); (focus rfl); (focus rfl); (focus rfl); (focus omega); (focus omega); go_frame) | ((with_reducible first | apply wq_eql | apply wq_neq | apply wq_lss | apply wq_leq | apply wq_gtr | apply wq_geq | apply wq_max2 | apply wq_min2); (focus rfl); (focus rfl); (focus rfl); go_frame) | ((with_reducible first | apply wq_max3 | apply wq_min3); (focus rfl); (focus rfl); (focus rfl); (focus rfl); go_frame) | go_big_quiet_step ((exact Calls.quiet_of (H30.out _))))); refine wpQuiet_nil ?_; rintro _ ⟨nq, rfl⟩
          go_wp2; go_roundw
          case rel =>
            refine ⟨k + 1, by omega, by go_num, Lib.hid fun j hj => ?_, m + nq, by rw [HV.out]; exact drew_add _ _ _⟩
            rcases Nat.lt_or_ge j k with h | h
            · exact HK.out j h
            · obtain rfl : j = k := by omega
              exact HE.out
          case measure => simp [intOf]; omega
        · have HE := Lib.hid he
          have HD := decide_eq_false he
          have H30 := Lib.hid (fun n' => show Calls Tryz.prog 38 #[.slice a1 (gl xs k).length c1, .slice a2 (gl ys k).length c2] (wr.drewN n') fun e w' => e = .returned (.bool false) ∧ ∃ n, w' = (wr.drewN n').drewN n by
            have h := c_sameN (c := c1) (d := c2) rfl rfl (rdI_drew (n := n') R1.out) (rdI_drew (n := n') R2.out) (HSM.out k hlt); rw [HD] at h; exact h)
          clear he HD; go_wp2; refine wp_region_quiet_lit (by kernel_rfl) (by kernel_rfl) ?_; (repeat (first | ((with_reducible first | apply wq_ix Tryz.underlying24 szI | apply wq_ix Tryz.underlying38 szSp | apply wq_ix Tryz.underlying23 szM | apply wq_ix Tryz.underlying25 szR | apply wq_ix Tryz.underlying51 szL | apply wq_ix Tryz.underlying91 szT); (focus rfl); (focus rfl); (focus rfl); (focus omega); (try simp only [Nat.mul_one]); go_frame) | ((with_reducible first | apply wq_ld agI | apply wq_ld agB | apply wq_ld agLI | apply wq_ld agLS | apply wq_ld agLM | apply wq_ld agLR | apply wq_ld agLL | apply wq_ld agLT); (focus rfl); (focus rfl); (focus (rintro _ ⟨_, rfl⟩; first | exact f1 | exact f2)); go_frame) | ((with_reducible first | apply wq_add | apply wq_sub | apply wq_mul | apply wq_rem); (focus rfl); (focus rfl); (focus rfl); (focus omega); (focus omega); go_frame) | ((with_reducible first | apply wq_eql | apply wq_neq | apply wq_lss | apply wq_leq | apply wq_gtr | apply wq_geq | apply wq_max2 | apply wq_min2); (focus rfl); (focus rfl); (focus rfl); go_frame) | ((with_reducible first | apply wq_max3 | apply wq_min3); (focus rfl); (focus rfl); (focus rfl); (focus rfl); go_frame) | go_big_quiet_step ((exact Calls.quiet_of (H30.out _))))); refine wpQuiet_nil ?_; rintro _ ⟨nq, rfl⟩
          go_wp2; go_ret; refine ⟨?_, m + nq, by rw [HV.out]; exact drew_add _ _ _⟩; rw [decide_eq_false (fun e => HE.out (by rw [e]))]; rfl
      · obtain rfl : k = xs.length := by omega
        have hltI : decide ((xs.length : Int) < (xs.length : Int)) = false := by simp
        go_wp2; go_ret; refine ⟨?_, m, HV.out⟩; rw [decide_eq_true (gl_ext HL.out HK.out)]; rfl
  · have h3' : ((xs.length : Int) != (ys.length : Int)) = true := by simp; omega
    have HL := Lib.hid h3; clear h3
    go_enter Tryz.func35, Tryz.ntmps35
    go_wp2; go_ret; refine ⟨?_, 0, rfl⟩; rw [decide_eq_false (fun e => HL.out (by rw [e]))]; rfl
end Go.Proofs.YtbknfddaoolagaaGreatDoor
end

section
namespace Go.Proofs.YtbknfddaoolagaaGreatDoor
open Go Go.RowKit Go.Proofs Go.Shelf
set_option linter.unusedVariables false
set_option linter.unusedSimpArgs false
attribute [local go_sem] imax2 imin2

theorem wq_neqM {C : World → Prop} {ops : Array Oper} {Q : Act → Prop} {rest : List Oper} {a : Act} {d : Nat} {x y : Operand} {ty : TypeId} {pos : String} {af : Array Edge} {g : Option (Nat × Bool)} {a1 a2 b1 b2 : Int}
    (hw : Region.wanted ⟨some d, .binOp .neq 78 x y 78, ty, pos, af, g⟩ (yielded ops a.tmps) = true) (hx : a.eval x = .agg #[.int .i64 a1, .int .i64 a2]) (hy : a.eval y = .agg #[.int .i64 b1, .int .i64 b2])
    (hk : wpQuiet Tryz.prog ops C Q rest (a.put (some d) (.bool (!(a1 == b1 && a2 == b2))))) : wpQuiet Tryz.prog ops C Q (⟨some d, .binOp .neq 78 x y 78, ty, pos, af, g⟩ :: rest) a :=
  wq hw (q_val (o := ⟨some d, .binOp .neq 78 x y 78, ty, pos, af, g⟩) (.bool (!(a1 == b1 && a2 == b2))) (fun w _ => by
    unfold execOp; dsimp only; rw [hx, hy]; by_cases h1 : a1 = b1 <;> by_cases h2 : a2 = b2 <;> simp [go_sem, h1, h2]) hk)
theorem wq_neqR {C : World → Prop} {ops : Array Oper} {Q : Act → Prop} {rest : List Oper} {a : Act} {d : Nat} {x y : Operand} {ty : TypeId} {pos : String} {af : Array Edge} {g : Option (Nat × Bool)} {a1 a2 a3 a4 b1 b2 b3 b4 : Int}
    (hw : Region.wanted ⟨some d, .binOp .neq 87 x y 87, ty, pos, af, g⟩ (yielded ops a.tmps) = true) (hx : a.eval x = .agg #[.int .i64 a1, .int .i64 a2, .int .i64 a3, .int .i64 a4]) (hy : a.eval y = .agg #[.int .i64 b1, .int .i64 b2, .int .i64 b3, .int .i64 b4])
    (hk : wpQuiet Tryz.prog ops C Q rest (a.put (some d) (.bool (!(a1 == b1 && a2 == b2 && a3 == b3 && a4 == b4))))) : wpQuiet Tryz.prog ops C Q (⟨some d, .binOp .neq 87 x y 87, ty, pos, af, g⟩ :: rest) a :=
  wq hw (q_val (o := ⟨some d, .binOp .neq 87 x y 87, ty, pos, af, g⟩) (.bool (!(a1 == b1 && a2 == b2 && a3 == b3 && a4 == b4))) (fun w _ => by
    unfold execOp; dsimp only; rw [hx, hy]; by_cases h1 : a1 = b1 <;> by_cases h2 : a2 = b2 <;> by_cases h3 : a3 = b3 <;> by_cases h4 : a4 = b4 <;> simp [go_sem, h1, h2, h3, h4]) hk)
theorem rcells {w : World} {b o : Nat} {v0 v1 v2 v3 : Value} (h0 : w.cell? ⟨b, o, none⟩ = some v0) (h1 : w.cell? ⟨b, o + 1, none⟩ = some v1) (h2 : w.cell? ⟨b, o + 2, none⟩ = some v2) (h3 : w.cell? ⟨b, o + 3, none⟩ = some v3) :
    ∀ j v, [v0, v1, v2, v3][j]? = some v → w.cell? ((⟨b, o, none⟩ : Addr).add j) = some v := by
  intro j v hj; have e : (⟨b, o, none⟩ : Addr).add j = ⟨b, o + j, none⟩ := by unfold Addr.add; split <;> simp_all
  rw [e]
  match j, hj with
  | 0, hj => simp at hj; subst hj; exact h0
  | 1, hj => simp at hj; subst hj; exact h1
  | 2, hj => simp at hj; subst hj; exact h2
  | 3, hj => simp at hj; subst hj; exact h3
theorem grx_ext {a b : List Rd} (hl : a.length = b.length) (h : ∀ i, i < a.length → gr a i = gr b i) : a = b := gr_ext hl h
theorem pc_ext {p q : Pc} (h1 : p.ms = q.ms) (h2 : p.mv = q.mv) (h3 : p.rs = q.rs) : p = q := by cases p; cases q; simp_all
def BoolIs (P : Prop) (e : Ending) : Prop := ∃ b, e = .returned (.bool b) ∧ (b = true ↔ P)
set_option maxHeartbeats 3200000 in
set_option maxRecDepth 100000 in
theorem c_samePieces (pm pv pr : Option Addr) (cm cv cr : Nat) (p : Pc) (qm qv qr : Option Addr) (dm dv dr : Nat) (q : Pc) (w : World) (hp : RdP w pm pv pr p) (hq : RdP w qm qv qr q) (hl : LenOk p) :
    Calls Tryz.prog 9 #[.agg #[.slice pm p.ms.length cm, .slice pv p.mv.length cv, .slice pr p.rs.length cr], .agg #[.slice qm q.ms.length dm, .slice qv q.mv.length dv, .slice qr q.rs.length dr]] w fun e w' => BoolIs (p = q) e ∧ Below w.heap.size w w' := by
  obtain ⟨w1, e1, HS1, k0, k1, k2, b1⟩ := box3 w (.slice pm p.ms.length cm) (.slice pv p.mv.length cv) (.slice pr p.rs.length cr) 27; obtain ⟨w2, e2, HS2, q0, q1, q2, b2⟩ := box3 w1 (.slice qm q.ms.length dm) (.slice qv q.mv.length dv) (.slice qr q.rs.length dr) 27; have HB := Lib.hid (b1.trans (b2.mono b1.size)); have HP := Lib.hid (hp.below HB.out); have HQ := Lib.hid (hq.below HB.out); have k0 := (b2.cell (lt_of_cellq k0)).trans k0; have k1 := (b2.cell (lt_of_cellq k1)).trans k1; have k2 := (b2.cell (lt_of_cellq k2)).trans k2; have hl1 := hl.ms; have hl3 := hl.rs; have HLV := Lib.hid hl.mv; clear b1 b2 hp hq hl
  by_cases h1 : p.ms.length = q.ms.length
  case neg =>
    have h1' : ((p.ms.length : Int) != (q.ms.length : Int)) = true := by simp; omega
    have HN := Lib.hid (show ¬ p = q from fun e => h1 (by rw [e])); clear h1
    go_enter Tryz.func9, Tryz.ntmps9
    go_wp2; go_ret; exact ⟨⟨false, rfl, by simp [HN.out]⟩, HB.out⟩
  have h1' : ((p.ms.length : Int) != (q.ms.length : Int)) = false := by simp [h1]
  have H1 := Lib.hid h1; clear h1
  by_cases h2 : p.mv = q.mv
  case neg =>
    have HN := Lib.hid (show ¬ p = q from fun e => h2 (by rw [e])); have hsm := c_same pv cv p.mv qv dv q.mv w2 HP.out.mv HQ.out.mv HLV.out; rw [decide_eq_false h2] at hsm; clear h2
    go_enter Tryz.func9, Tryz.ntmps9
    go_wp2_with fail; refine hsm.mono ?_; clear hsm; rintro e w3 ⟨rfl, n, rfl⟩; go_wp2; go_ret; exact ⟨⟨false, rfl, by simp [HN.out]⟩, below_drewN HB.out _⟩
  by_cases h3 : p.rs.length = q.rs.length
  case neg =>
    have h3' : ((p.rs.length : Int) != (q.rs.length : Int)) = true := by simp; omega
    have HN := Lib.hid (show ¬ p = q from fun e => h3 (by rw [e])); have hsm := c_same pv cv p.mv qv dv q.mv w2 HP.out.mv HQ.out.mv HLV.out; rw [decide_eq_true h2] at hsm; clear h2 h3
    go_enter Tryz.func9, Tryz.ntmps9
    go_wp2_with fail; refine hsm.mono ?_; clear hsm; rintro e w3 ⟨rfl, n, rfl⟩; go_wp2; go_ret; exact ⟨⟨false, rfl, by simp [HN.out]⟩, below_drewN HB.out _⟩
  have h3' : ((p.rs.length : Int) != (q.rs.length : Int)) = false := by simp [h3]
  have H2 := Lib.hid h2; have H3 := Lib.hid h3; have hsm := c_same pv cv p.mv qv dv q.mv w2 HP.out.mv HQ.out.mv HLV.out; rw [decide_eq_true h2] at hsm; clear h2 h3
  go_enter Tryz.func9, Tryz.ntmps9
  go_wp2_with fail; refine hsm.mono ?_; clear hsm; rintro e w3 ⟨rfl, n0, rfl⟩; clear e1 e2; go_wp2
  go_loopw [5] (fun i wr => ∃ k : Nat, k ≤ p.ms.length ∧ i = .int .i64 k ∧ Hid (∀ j, j < k → gm p.ms j = gm q.ms j) ∧ ∃ m, wr = w2.drewN m) (fun i _ => p.ms.length - (intOf i).toNat)
  case atStart => exact ⟨0, by omega, rfl, Lib.hid (by intro j hj; omega), _, rfl⟩
  case round =>
    obtain ⟨k, hk, rfl, HK, m, rfl⟩ := hrel
    by_cases hlt : k < p.ms.length
    · have hki : (k : Int) < (p.ms.length : Int) := by omega
      obtain ⟨b, off, rfl, hc⟩ := HP.out.ms.at hlt; have hlt2 : k < q.ms.length := by have := H1.out; omega
      have hki2 : (k : Int) < (q.ms.length : Int) := by omega
      obtain ⟨b', off', rfl, hc'⟩ := HQ.out.ms.at hlt2; have G1 := Lib.hid (qcells (w := w2.drewN m) (scells (w := w2.drewN m) (hc k hlt).1 (hc k hlt).2)); have G2 := Lib.hid (qcells (w := w2.drewN m) (scells (w := w2.drewN m) (hc' k hlt2).1 (hc' k hlt2).2)); clear hc hc'
      by_cases he : gm p.ms k = gm q.ms k
      · have HE := Lib.hid he
        have he' : (!((gm p.ms k).1 == (gm q.ms k).1 && (gm p.ms k).2 == (gm q.ms k).2)) = false := by simp [he]
        clear he; go_wp2; refine wp_region_quiet_lit (by kernel_rfl) (by kernel_rfl) ?_; (repeat (first | ((with_reducible refine wq_lda agM szM ?_ ?_ ?_ G1.out ?_); (focus rfl); (focus rfl); (focus rfl); go_frame) | ((with_reducible refine wq_lda agM szM ?_ ?_ ?_ G2.out ?_); (focus rfl); (focus rfl); (focus rfl); go_frame) | ((with_reducible apply wq_neqM); (focus rfl); (focus rfl); (focus rfl); go_frame) | (rw [he']) | ((with_reducible first | apply wq_ix Tryz.underlying24 szI | apply wq_ix Tryz.underlying38 szSp | apply wq_ix Tryz.underlying23 szM | apply wq_ix Tryz.underlying25 szR | apply wq_ix Tryz.underlying51 szL | apply wq_ix Tryz.underlying91 szT); (focus rfl); (focus rfl); (focus rfl); (focus omega); (try simp only [Nat.mul_one]); go_frame) | ((with_reducible first | apply wq_ld agI | apply wq_ld agB | apply wq_ld agLI | apply wq_ld agLS | apply wq_ld agLM | apply wq_ld agLR | apply wq_ld agLL | apply wq_ld agLT); (focus rfl); (focus rfl); (focus (rintro _ ⟨_, rfl⟩; first | exact k0 | exact q0)); go_frame) | ((with_reducible first | apply wq_add | apply wq_sub | apply wq_mul | apply wq_rem); (focus rfl); (focus rfl); (focus rfl); (focus omega); (focus omega); go_frame) | ((with_reducible first | apply wq_eql | apply wq_neq | apply wq_lss | apply wq_leq | apply wq_gtr | apply wq_geq | apply wq_max2 | apply wq_min2); (focus rfl); (focus rfl); (focus rfl); go_frame) | ((with_reducible first | apply wq_max3 | apply wq_min3); (focus rfl); (focus rfl); (focus rfl); (focus rfl); go_frame) | go_big_quiet_step (fail))); refine wpQuiet_nil ?_; rintro _ ⟨nq, rfl⟩
        go_wp2; go_roundw
        case rel =>
          refine ⟨k + 1, by omega, by go_num, Lib.hid fun j hj => ?_, _, rfl⟩
          rcases Nat.lt_or_ge j k with h | h
          · exact HK.out j h
          · obtain rfl : j = k := by omega
            exact HE.out
        case measure => simp [intOf]; omega
      · have HN := Lib.hid (show ¬ p = q from fun e => he (by rw [e]))
        have he' : (!((gm p.ms k).1 == (gm q.ms k).1 && (gm p.ms k).2 == (gm q.ms k).2)) = true := by
          rw [Bool.not_eq_true', Bool.and_eq_false_iff]
          by_cases h : (gm p.ms k).1 = (gm q.ms k).1
          · right; simp; intro h2; exact he (Prod.ext h h2)
          · left; simp [h]
        clear he; go_wp2; refine wp_region_quiet_lit (by kernel_rfl) (by kernel_rfl) ?_; (repeat (first | ((with_reducible refine wq_lda agM szM ?_ ?_ ?_ G1.out ?_); (focus rfl); (focus rfl); (focus rfl); go_frame) | ((with_reducible refine wq_lda agM szM ?_ ?_ ?_ G2.out ?_); (focus rfl); (focus rfl); (focus rfl); go_frame) | ((with_reducible apply wq_neqM); (focus rfl); (focus rfl); (focus rfl); go_frame) | (rw [he']) | ((with_reducible first | apply wq_ix Tryz.underlying24 szI | apply wq_ix Tryz.underlying38 szSp | apply wq_ix Tryz.underlying23 szM | apply wq_ix Tryz.underlying25 szR | apply wq_ix Tryz.underlying51 szL | apply wq_ix Tryz.underlying91 szT); (focus rfl); (focus rfl); (focus rfl); (focus omega); (try simp only [Nat.mul_one]); go_frame) | ((with_reducible first | apply wq_ld agI | apply wq_ld agB | apply wq_ld agLI | apply wq_ld agLS | apply wq_ld agLM | apply wq_ld agLR | apply wq_ld agLL | apply wq_ld agLT); (focus rfl); (focus rfl); (focus (rintro _ ⟨_, rfl⟩; first | exact k0 | exact q0)); go_frame) | ((with_reducible first | apply wq_add | apply wq_sub | apply wq_mul | apply wq_rem); (focus rfl); (focus rfl); (focus rfl); (focus omega); (focus omega); go_frame) | ((with_reducible first | apply wq_eql | apply wq_neq | apply wq_lss | apply wq_leq | apply wq_gtr | apply wq_geq | apply wq_max2 | apply wq_min2); (focus rfl); (focus rfl); (focus rfl); go_frame) | ((with_reducible first | apply wq_max3 | apply wq_min3); (focus rfl); (focus rfl); (focus rfl); (focus rfl); go_frame) | go_big_quiet_step (fail))); refine wpQuiet_nil ?_; rintro _ ⟨nq, rfl⟩
        go_wp2; go_ret; exact ⟨⟨false, rfl, by simp [HN.out]⟩, below_drewN (below_drewN HB.out _) _⟩
    · obtain rfl : k = p.ms.length := by omega
      have hki : ¬ (p.ms.length : Int) < (p.ms.length : Int) := by omega
      have HMS := Lib.hid (gm_ext H1.out HK.out); clear HK; go_wp2
      go_loopw [6] (fun i wr => ∃ k : Nat, k ≤ p.rs.length ∧ i = .int .i64 k ∧ Hid (∀ j, j < k → gr p.rs j = gr q.rs j) ∧ ∃ m, wr = w2.drewN m) (fun i _ => p.rs.length - (intOf i).toNat)
      case atStart => exact ⟨0, by omega, rfl, Lib.hid (by intro j hj; omega), _, rfl⟩
      case round =>
        obtain ⟨k, hk, rfl, HK, m, rfl⟩ := hrel
        by_cases hlt : k < p.rs.length
        · have hki : (k : Int) < (p.rs.length : Int) := by omega
          obtain ⟨b, off, rfl, hc⟩ := HP.out.rs.at hlt; have hlt2 : k < q.rs.length := by have := H3.out; omega
          have hki2 : (k : Int) < (q.rs.length : Int) := by omega
          obtain ⟨b', off', rfl, hc'⟩ := HQ.out.rs.at hlt2; have G1 := Lib.hid (qcells (w := w2.drewN m) (rcells (w := w2.drewN m) (hc k hlt).1 (hc k hlt).2.1 (hc k hlt).2.2.1 (hc k hlt).2.2.2)); have G2 := Lib.hid (qcells (w := w2.drewN m) (rcells (w := w2.drewN m) (hc' k hlt2).1 (hc' k hlt2).2.1 (hc' k hlt2).2.2.1 (hc' k hlt2).2.2.2)); clear hc hc'
          by_cases he : gr p.rs k = gr q.rs k
          · have HE := Lib.hid he
            have he' : (!((gr p.rs k).aft == (gr q.rs k).aft && (gr p.rs k).arb == (gr q.rs k).arb && (gr p.rs k).seen == (gr q.rs k).seen && (gr p.rs k).off == (gr q.rs k).off)) = false := by simp [he]
            clear he; go_wp2; refine wp_region_quiet_lit (by kernel_rfl) (by kernel_rfl) ?_; (repeat (first | ((with_reducible refine wq_lda agR szR ?_ ?_ ?_ G1.out ?_); (focus rfl); (focus rfl); (focus rfl); go_frame) | ((with_reducible refine wq_lda agR szR ?_ ?_ ?_ G2.out ?_); (focus rfl); (focus rfl); (focus rfl); go_frame) | ((with_reducible apply wq_neqR); (focus rfl); (focus rfl); (focus rfl); go_frame) | (rw [he']) | ((with_reducible first | apply wq_ix Tryz.underlying24 szI | apply wq_ix Tryz.underlying38 szSp | apply wq_ix Tryz.underlying23 szM | apply wq_ix Tryz.underlying25 szR | apply wq_ix Tryz.underlying51 szL | apply wq_ix Tryz.underlying91 szT); (focus rfl); (focus rfl); (focus rfl); (focus omega); (try simp only [Nat.mul_one]); go_frame) | ((with_reducible first | apply wq_ld agI | apply wq_ld agB | apply wq_ld agLI | apply wq_ld agLS | apply wq_ld agLM | apply wq_ld agLR | apply wq_ld agLL | apply wq_ld agLT); (focus rfl); (focus rfl); (focus (rintro _ ⟨_, rfl⟩; first | exact k2 | exact q2)); go_frame) | ((with_reducible first | apply wq_add | apply wq_sub | apply wq_mul | apply wq_rem); (focus rfl); (focus rfl); (focus rfl); (focus omega); (focus omega); go_frame) | ((with_reducible first | apply wq_eql | apply wq_neq | apply wq_lss | apply wq_leq | apply wq_gtr | apply wq_geq | apply wq_max2 | apply wq_min2); (focus rfl); (focus rfl); (focus rfl); go_frame) | ((with_reducible first | apply wq_max3 | apply wq_min3); (focus rfl); (focus rfl); (focus rfl); (focus rfl); go_frame) | go_big_quiet_step (fail))); refine wpQuiet_nil ?_; rintro _ ⟨nq, rfl⟩
            go_wp2; go_roundw
            case rel =>
              refine ⟨k + 1, by omega, by go_num, Lib.hid fun j hj => ?_, _, rfl⟩
              rcases Nat.lt_or_ge j k with h | h
              · exact HK.out j h
              · obtain rfl : j = k := by omega
                exact HE.out
            case measure => simp [intOf]; omega
          · have HN := Lib.hid (show ¬ p = q from fun e => he (by rw [e]))
            have he' : (!((gr p.rs k).aft == (gr q.rs k).aft && (gr p.rs k).arb == (gr q.rs k).arb && (gr p.rs k).seen == (gr q.rs k).seen && (gr p.rs k).off == (gr q.rs k).off)) = true := by
              rw [Bool.not_eq_true']
              cases hb : ((gr p.rs k).aft == (gr q.rs k).aft && (gr p.rs k).arb == (gr q.rs k).arb && (gr p.rs k).seen == (gr q.rs k).seen && (gr p.rs k).off == (gr q.rs k).off) with
              | false => rfl
              | true =>
                simp only [Bool.and_eq_true, beq_iff_eq] at hb; obtain ⟨⟨⟨ha, hb⟩, hc⟩, hd⟩ := hb; exact absurd (by cases h1 : gr p.rs k; cases h2 : gr q.rs k; rw [h1, h2] at ha hb hc hd; simp_all) he
            clear he; go_wp2; refine wp_region_quiet_lit (by kernel_rfl) (by kernel_rfl) ?_; (repeat (first | ((with_reducible refine wq_lda agR szR ?_ ?_ ?_ G1.out ?_); (focus rfl); (focus rfl); (focus rfl); go_frame) | ((with_reducible refine wq_lda agR szR ?_ ?_ ?_ G2.out ?_); (focus rfl); (focus rfl); (focus rfl); go_frame) | ((with_reducible apply wq_neqR); (focus rfl); (focus rfl); (focus rfl); go_frame) | (rw [he']) | ((with_reducible first | apply wq_ix Tryz.underlying24 szI | apply wq_ix Tryz.underlying38 szSp | apply wq_ix Tryz.underlying23 szM | apply wq_ix Tryz.underlying25 szR | apply wq_ix Tryz.underlying51 szL | apply wq_ix Tryz.underlying91 szT); (focus rfl); (focus rfl); (focus rfl); (focus omega); (try simp only [Nat.mul_one]); go_frame) | ((with_reducible first | apply wq_ld agI | apply wq_ld agB | apply wq_ld agLI | apply wq_ld agLS | apply wq_ld agLM | apply wq_ld agLR | apply wq_ld agLL | apply wq_ld agLT); (focus rfl); (focus rfl); (focus (rintro _ ⟨_, rfl⟩; first | exact k2 | exact q2)); go_frame) | ((with_reducible first | apply wq_add | apply wq_sub | apply wq_mul | apply wq_rem); (focus rfl); (focus rfl); (focus rfl); (focus omega); (focus omega); go_frame) | ((with_reducible first | apply wq_eql | apply wq_neq | apply wq_lss | apply wq_leq | apply wq_gtr | apply wq_geq | apply wq_max2 | apply wq_min2); (focus rfl); (focus rfl); (focus rfl); go_frame) | ((with_reducible first | apply wq_max3 | apply wq_min3); (focus rfl); (focus rfl); (focus rfl); (focus rfl); go_frame) | go_big_quiet_step (fail))); refine wpQuiet_nil ?_; rintro _ ⟨nq, rfl⟩
            go_wp2; go_ret; exact ⟨⟨false, rfl, by simp [HN.out]⟩, below_drewN (below_drewN HB.out _) _⟩
        · obtain rfl : k = p.rs.length := by omega
          have hki : ¬ (p.rs.length : Int) < (p.rs.length : Int) := by omega
          have HR := Lib.hid (gr_ext H3.out HK.out); go_wp2; go_ret; exact ⟨⟨true, rfl, by simp; exact pc_ext HMS.out H2.out HR.out⟩, below_drewN HB.out _⟩
end Go.Proofs.YtbknfddaoolagaaGreatDoor
end
