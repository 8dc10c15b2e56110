/-
  Whether the readings after some moves agree: contract.
  The truth after all moves, if all readings agree: what is behind the door of the panics, and the door.
  The truth after all moves, if all readings agree: contract.
  Run, all arguments: contract.
  Spans of numbers; sums: contracts.
  What all truths of a piece have: the span of a number of each: contracts (printed by slkover.py).
-/
import Derived.Test.YtbknfddaoolagaaGreatDoorGD
import Derived.Recover
import Derived.Defers
import Derived.Laws.Pointers
import Derived.Laws.EntriesVeiled
section
namespace Go.Proofs.YtbknfddaoolagaaGreatDoor
open Go Go.RowKit Go.Proofs
set_option linter.unusedVariables false
attribute [local go_sem] imax2 imin2

def agreeR (pc : List Int) (i : Nat) (r : Rd) : Bool := !decide (r.aft = (i : Int)) || inB (gi pc r.arb.toNat - r.seen) (-r.off) r.off
def agreesB (rs : List Rd) (pc : List Int) (i : Nat) : Bool := rs.all (agreeR pc i)
theorem agreeAt_eq (p : Pc) (pl : List Int) (i : Nat) : agreeAt p pl i = agreesB p.rs (runF pl p.mv i) i := rfl
def disE (j : Int) : Ending := .panicked [{ v := .iface 187 (.agg #[.int .i64 j]), recovered := false }]
def AgreePost (ok : Bool) (w : World) (e : Ending) (w' : World) : Prop :=
  ((ok = true ∧ e = .returned (.tuple #[])) ∨ (ok = false ∧ ∃ j, e = disE j)) ∧ Below w.heap.size w w'
structure RdsOk (rs : List Rd) (n : Nat) : Prop where
  len : rs.length ≤ 1000
  arb : ∀ j, j < rs.length → 0 ≤ (gr rs j).arb ∧ (gr rs j).arb < n
  seen : ∀ j, j < rs.length → -5000 ≤ (gr rs j).seen ∧ (gr rs j).seen ≤ 5000
  off : ∀ j, j < rs.length → 0 ≤ (gr rs j).off ∧ (gr rs j).off ≤ 50
set_option maxHeartbeats 1600000 in
set_option maxRecDepth 100000 in
theorem c_agree (q : Option Addr) (nq cq g n cap : Nat) (pc : List Int) (pm pv pr : Option Addr) (cm cv cr : Nat) (p : Pc) (i : Nat) (w : World) (hpc : RdI w (some ⟨g, 0, none⟩) pc) (hn : pc.length = n) (hrs : RdR w pr p.rs) (hro : RdsOk p.rs n) (hr : ∀ i, i < pc.length → -100000 ≤ gi pc i ∧ gi pc i ≤ 100000) :
    Calls Tryz.prog 134 #[.agg #[.slice q nq cq, .slice (some ⟨g, 0, none⟩) n cap], .agg #[.slice pm p.ms.length cm, .slice pv p.mv.length cv, .slice pr p.rs.length cr], .int .i64 i] w (AgreePost (agreesB p.rs pc i) w) := by
  obtain ⟨w1, e1, HS1, t0, t1, b1⟩ := box2 w (.slice q nq cq) (.slice (some ⟨g, 0, none⟩) n cap) 98
  obtain ⟨w2, e2, HS2, k0, k1, k2, b2⟩ := box3 w1 (.slice pm p.ms.length cm) (.slice pv p.mv.length cv) (.slice pr p.rs.length cr) 27
  have t1 := (b2.cell (lt_of_cellq t1)).trans t1
  have HPC := Lib.hid ((hpc.below b1).below b2)
  have HRS := Lib.hid ((hrs.below b1).below b2)
  have HB := Lib.hid (b1.trans (b2.mono b1.size))
  have HRO := Lib.hid hro
  have HR := Lib.hid hr
  have HNE := Lib.hid hn
  have HT1 := Lib.hid t1
  clear hpc hrs hro hr hn b1 b2 t0 t1
  go_enter Tryz.func134, Tryz.ntmps134
  go_wp2
  clear e1 e2
  go_loopw [12] (fun v wr => ∃ k : Nat, k ≤ p.rs.length ∧ v = .int .i64 k ∧ Hid (∀ j, j < k → agreeR pc i (gr p.rs j) = true) ∧ Below w2.heap.size w2 wr) (fun v _ => p.rs.length - (intOf v).toNat)
  case atStart => exact ⟨0, by omega, rfl, Lib.hid (by intro j hj; omega), Below.refl _ _⟩
  case round =>
    obtain ⟨k, hk, rfl, HH, hnx⟩ := hrel
    have HN := Lib.hid hnx
    have hlen := HRO.out.len
    by_cases hlt : k < p.rs.length
    · obtain ⟨b, off, rfl, hc⟩ := (HRS.out.below hnx).at hlt
      obtain ⟨a0, a1, a2, a3⟩ := hc k hlt
      obtain ⟨hb1, hb2⟩ := HRO.out.arb k hlt
      obtain ⟨hs1, hs2⟩ := HRO.out.seen k hlt
      obtain ⟨ho1, ho2⟩ := HRO.out.off k hlt
      obtain ⟨a, ha⟩ : ∃ a : Nat, (gr p.rs k).arb = (a : Int) := ⟨(gr p.rs k).arb.toNat, by omega⟩
      rw [ha] at a1 hb1 hb2
      have han : a < n := by omega
      have hpl := HR.out a (by rw [HNE.out]; exact han)
      obtain ⟨hp1, hp2⟩ := hpl
      have t1 := (hnx.cell (lt_of_cellq HT1.out)).trans HT1.out
      obtain ⟨b', off', hbe, hcc⟩ := (HPC.out.below hnx).at (show a < pc.length by rw [HNE.out]; exact han)
      obtain ⟨rfl, rfl⟩ : g = b' ∧ 0 = off' := by cases hbe; exact ⟨rfl, rfl⟩
      have pa := hcc a (by rw [HNE.out]; exact han)
      obtain ⟨w4, e4, HS4, y0, y1, y2, y3, b4⟩ := box4 wr (.int .i64 (gr p.rs k).aft) (.int .i64 (a : Int)) (.int .i64 (gr p.rs k).seen) (.int .i64 (gr p.rs k).off) 87
      have t1 := (b4.cell (lt_of_cellq t1)).trans t1
      have pa := (b4.cell (lt_of_cellq pa)).trans pa
      have HN4 := Lib.hid (HN.out.trans (b4.mono HN.out.size))
      have HAG := Lib.hid (show agreeR pc i (gr p.rs k) = (!decide ((gr p.rs k).aft = (i : Int)) || inB (gi pc a - (gr p.rs k).seen) (-(gr p.rs k).off) (gr p.rs k).off) by unfold agreeR; rw [ha, Int.toNat_natCast])
      have hw : IntKind.i64.wrap (-(gr p.rs k).off) = -(gr p.rs k).off := w64 _ (by omega) (by omega)
      clear hc hcc hnx hbe b4 ha
      go_upto_region 4 with (fail)
      clear e4
      refine wp_region_quiet_below (by kernel_rfl) (by kernel_rfl) ?_; (repeat (first | ((with_reducible first | apply wq_fg faP0 | apply wq_fg faP1 | apply wq_fg faP2 | apply wq_fg faM0 | apply wq_fg faS0 | apply wq_fg faS1 | apply wq_fg faR0 | apply wq_fg faR1 | apply wq_fg faR2 | apply wq_fg faR3 | apply wq_fg faT0 | apply wq_fg faT1 | apply wq_fg faQ0 | apply wq_fg faQ1 | apply wq_fg faH0 | apply wq_fg faH1 | apply wq_fg faH2 | apply wq_fg faH3); (focus rfl); (focus rfl); go_frame) | ((with_reducible first | apply wq_ix Tryz.underlying24 szI | apply wq_ix Tryz.underlying38 szSp | apply wq_ix Tryz.underlying23 szM | apply wq_ix Tryz.underlying25 szR | apply wq_ix Tryz.underlying51 szL | apply wq_ix Tryz.underlying91 szT); (focus rfl); (focus rfl); (focus rfl); (focus omega); (try simp only [Nat.mul_one]); go_frame) | ((with_reducible first | apply wq_ld agI | apply wq_ld agB | apply wq_ld agLI | apply wq_ld agLS | apply wq_ld agLM | apply wq_ld agLR | apply wq_ld agLL | apply wq_ld agLT); (focus rfl); (focus rfl); (focus (intro _ hbq; first | exact (hbq.cell (lt_of_cellq t1)).trans t1 | exact (hbq.cell (lt_of_cellq y1)).trans y1 | exact (hbq.cell (lt_of_cellq y2)).trans y2 | exact (hbq.cell (lt_of_cellq pa)).trans pa)); go_frame) | ((with_reducible first | apply wq_add | apply wq_sub | apply wq_mul | apply wq_rem); (focus rfl); (focus rfl); (focus rfl); (focus omega); (focus omega); go_frame) | ((with_reducible first | apply wq_eql | apply wq_neq | apply wq_lss | apply wq_leq | apply wq_gtr | apply wq_geq | apply wq_max2 | apply wq_min2); (focus rfl); (focus rfl); (focus rfl); go_frame) | ((with_reducible first | apply wq_max3 | apply wq_min3); (focus rfl); (focus rfl); (focus rfl); (focus rfl); go_frame) | go_big_quiet_step (fail))); refine wpQuiet_nil ?_; intro wq hbq
      have y0 := (hbq.cell (lt_of_cellq y0)).trans y0
      have y3 := (hbq.cell (lt_of_cellq y3)).trans y3
      have HN5 := Lib.hid (HN4.out.trans (hbq.mono HN4.out.size))
      clear hbq y1 y2 t1 pa
      by_cases haft : (gr p.rs k).aft = (i : Int)
      · have haft' : ((gr p.rs k).aft == (i : Int)) = true := by simp [haft]
        rcases hin : inB (gi pc a - (gr p.rs k).seen) (-(gr p.rs k).off) (gr p.rs k).off with _ | _
        · have H := Lib.hid (show agreesB p.rs pc i = false from all_bad (f := agreeR pc i) (d := rd0) (l := p.rs) hlt (show agreeR pc i (gr p.rs k) = false by rw [HAG.out, haft, hin]; simp))
          clear haft
          go_wp2_with (go_at_call 73; refine (c_in _ _ _ _).mono ?_; rintro e w' ⟨rfl, rfl⟩)
          exact ⟨rfl, .inr ⟨H.out, k, rfl⟩, HB.out.trans (HN5.out.mono HB.out.size)⟩
        · have HG := Lib.hid (show agreeR pc i (gr p.rs k) = true by rw [HAG.out, hin]; simp)
          clear haft
          go_wp2_with (go_at_call 73; refine (c_in _ _ _ _).mono ?_; rintro e w' ⟨rfl, rfl⟩)
          go_roundw
          case rel =>
            refine ⟨k + 1, by omega, by go_num, Lib.hid fun j hj => ?_, HN5.out⟩
            rcases Nat.lt_or_ge j k with h | h
            · exact HH.out j h
            · obtain rfl : j = k := by omega
              exact HG.out
          case measure => simp [intOf]; omega
      · have haft' : ((gr p.rs k).aft == (i : Int)) = false := by simp [haft]
        have HG := Lib.hid (show agreeR pc i (gr p.rs k) = true by rw [HAG.out, decide_eq_false haft]; rfl)
        clear haft
        go_wp2_with (go_at_call 73; refine (c_in _ _ _ _).mono ?_; rintro e w' ⟨rfl, rfl⟩)
        go_roundw
        case rel =>
          refine ⟨k + 1, by omega, by go_num, Lib.hid fun j hj => ?_, HN5.out⟩
          rcases Nat.lt_or_ge j k with h | h
          · exact HH.out j h
          · obtain rfl : j = k := by omega
            exact HG.out
        case measure => simp [intOf]; omega
    · obtain rfl : k = p.rs.length := by omega
      have H := Lib.hid (show agreesB p.rs pc i = true from all_ok (f := agreeR pc i) (d := rd0) (l := p.rs) HH.out)
      go_wp2
      refine bodyPost_end (results_none rfl _ _ _) rfl ?_
      exact ⟨.inl ⟨H.out, rfl⟩, HB.out.trans (hnx.mono HB.out.size)⟩
end Go.Proofs.YtbknfddaoolagaaGreatDoor
end

section
namespace Go.Proofs.YtbknfddaoolagaaGreatDoor
open Go Go.RowKit Go.Proofs
set_option linter.unusedVariables false

theorem asDis (v : Value) (w : World) : (Instr.typeAssert (.iface 187 v) 20 187 true).run Tryz.prog w = .ok (.tuple #[v, .bool true]) w := by kernel_rfl
theorem rep10 : Array.replicate 10 undef = #[undef, undef, undef, undef, undef, undef, undef, undef, undef, undef] := by rfl
theorem rep11 : Array.replicate 11 undef = #[undef, undef, undef, undef, undef, undef, undef, undef, undef, undef, undef] := by rfl
theorem rep12 : Array.replicate 12 undef = #[undef, undef, undef, undef, undef, undef, undef, undef, undef, undef, undef, undef] := by rfl
set_option maxRecDepth 100000 in
set_option maxHeartbeats 1000000 in
theorem catch_dis (pt pi : Nat) (a b v0 : Value) (x : Int) (older : List PanicEntry) (w : World) (ht : w.heap[pt]? = some (.cells #[a, b] 98 (0, 0))) (hi : w.heap[pi]? = some (.cells #[v0] 4 (0, 0))) (hne : pt ≠ pi) :
    CallsD Tryz.prog 133 #[.pointer (some ⟨pt, 0, none⟩), .pointer (some ⟨pi, 0, none⟩)] (.panicking ({ v := .iface 187 (.agg #[.int .i64 x]), recovered := false } :: older)) w fun e u' w' =>
      e = .returned (.tuple #[]) ∧ u' = .panicking ({ v := .iface 187 (.agg #[.int .i64 x]), recovered := true } :: older) ∧ w'.heap[pt]? = some (.cells #[.slice none 0 0, .slice none 0 0] 98 (0, 0)) ∧ w'.heap[pi]? = some (.cells #[.bool false] 4 (0, 0)) ∧ (∀ B, B ≤ pt → B ≤ pi → Below B w w') := by
  have hlt := block_lt ht; have hlt2 := block_lt hi; have ha := asDis (.agg #[.int .i64 x]) w; obtain ⟨w1, e1, HS1, y0, _, b1⟩ := box1 w (.int .i64 x) 187; have ht1 := (b1.block pt hlt).trans ht; have hi1 := (b1.block pi hlt2).trans hi; obtain ⟨w2, w3, s2, s3, ⟨c0, f0⟩, ⟨c1, f1⟩, hx4, hxk, HZ, hxb⟩ := set2 w1 pt 98 _ _ (.slice none 0 0) (.slice none 0 0) ht1; have hi3 := (hxk pi (Ne.symm hne)).trans hi1; have d0 : w3.cell? ⟨pi, 0, none⟩ = some v0 := by rw [cell_of_row _ _ _ _ _ _ hi3]; rfl
  have df : w3.frozen? ⟨pi, 0, none⟩ = false := frozen_of_row _ _ _ _ _ hi3; obtain ⟨w4, s4⟩ : ∃ w4, w3.setCell ⟨pi, 0, none⟩ (.bool false) = w4 := ⟨_, rfl⟩; have hi4 : w4.heap[pi]? = some (.cells #[.bool false] 4 (0, 0)) := by rw [← s4]; rw [heap_setCell_same w3 pi 0 _ _ _ hi3]; rfl
  have ht4 : w4.heap[pt]? = some (.cells #[.slice none 0 0, .slice none 0 0] 98 (0, 0)) := by rw [← s4, Below.heap_setCell _ _ _ _ hne]; exact hx4
  have hB4 : ∀ B, B ≤ pt → B ≤ pi → Below B w w4 := fun B h1 h2 => by
    have h3 := hxb w B h1 (b1.mono (by omega)); rw [← s4]; exact h3.setCell h2 _
  have HOUT := Lib.hid (And.intro ht4 (And.intro hi4 hB4)); clear hx4 hxk hxb hi3 ht1 hi1 b1 ht hi hi4 ht4 hB4 y0; refine callsD_of_wpS Tryz.func133 rfl fun c₀ cs hu => ?_
  apply wpS_seq; apply wpS_region; simp [wpOpsS, go_sem, recoverD, hu, Tryz.ntmps133, Exit.thenS, rep10]; refine wpS_of_wp ?_; go_wp2; simp [bodyPostS, results, Tryz.results133]; exact HOUT.out
set_option maxRecDepth 100000 in
theorem catch_dis_idle (pt pi : Nat) (w : World) :
    CallsD Tryz.prog 133 #[.pointer (some ⟨pt, 0, none⟩), .pointer (some ⟨pi, 0, none⟩)] .returning w fun e u' w' => e = .returned (.tuple #[]) ∧ u' = .returning ∧ w' = w := by
  refine callsD_of_wpS Tryz.func133 rfl fun c₀ cs hu => ?_
  apply wpS_seq; apply wpS_region; simp [wpOpsS, go_sem, recoverD, hu, Tryz.ntmps133, Exit.thenS, rep10]; refine wpS_of_wp ?_; go_wp2
  cases c₀
  simp_all [bodyPostS, results, Tryz.results133]
end Go.Proofs.YtbknfddaoolagaaGreatDoor
end

section
namespace Go.Proofs.YtbknfddaoolagaaGreatDoor
open Go Go.RowKit Go.Proofs
set_option linter.unusedVariables false
attribute [local go_sem] imax2 imin2

def LivedPost (pv : Value) (p : Pc) (pl : List Int) (w : World) (e : Ending) (w' : World) : Prop :=
  ((livedB p pl = true ∧ ∃ g cap, e = .returned (.tuple #[.agg #[pv, .slice (some ⟨g, 0, none⟩) (pl.length + 1) cap], .bool true]) ∧ w'.ownsRow w.heap.size 3 1 (.slice (some ⟨g, 0, none⟩) (pl.length + 1) cap) (pl.length + 1) (inV (endF p pl))) ∨
   (livedB p pl = false ∧ e = .returned (.tuple #[.agg #[.slice none 0 0, .slice none 0 0], .bool false]))) ∧ Below w.heap.size w w'
theorem piece_len {p : Pc} (hp : PieceOk p) : (1 ≤ p.ms.length ∧ p.ms.length ≤ 4) ∧ p.mv.length ≤ 8 ∧ p.rs.length ≤ 6 := by
  have h1 := pieceB_iff.2 hp; rw [pieceB_parts] at h1; simp only [Bool.and_eq_true, decide_eq_true_eq] at h1; obtain ⟨⟨⟨⟨⟨h1, _⟩, h2⟩, _⟩, _⟩, _⟩ := h1; have := inB_iff.1 h1; omega
theorem piece_rds {p : Pc} (hp : PieceOk p) : RdsOk p.rs (p.ms.length + 1) := by
  have h1 := pieceB_iff.2 hp; rw [pieceB_parts] at h1; simp only [Bool.and_eq_true, decide_eq_true_eq] at h1; obtain ⟨⟨⟨⟨⟨h1, _⟩, h2⟩, _⟩, _⟩, _⟩ := h1; exact ⟨by omega, fun j hj => by have := hp.read j hj; omega, fun j hj => by have := hp.read j hj; omega, fun j hj => by have := hp.read j hj; omega⟩
set_option maxHeartbeats 1600000 in
set_option maxRecDepth 100000 in
theorem c_lived (pm pv pr : Option Addr) (cm cv cr : Nat) (p : Pc) (q : Option Addr) (cq : Nat) (pl : List Int) (w : World) (hv : RdI w pv p.mv) (hrs : RdR w pr p.rs) (hq : RdI w q pl) (hp : PieceOk p) (hpl : PlaysOk p pl) :
    Calls Tryz.prog 115 #[.agg #[.slice pm p.ms.length cm, .slice pv p.mv.length cv, .slice pr p.rs.length cr], .slice q pl.length cq] w (LivedPost (.slice q pl.length cq) p pl w) := by
  have hml8 := (piece_len hp).2.1; have hmf : ∀ (fn : Fn) (first cap : Array Value) (w : World), (Instr.makeFunc fn first cap).run Tryz.prog w = .ok (.func fn first cap) w := fun _ _ _ _ => rfl
  obtain ⟨w1, e1, HS1, k0, k1, k2, b1⟩ := box3 w (.slice pm p.ms.length cm) (.slice pv p.mv.length cv) (.slice pr p.rs.length cr) 27; have kt := alloc_new w1 (.cells #[.slice none 0 0, .slice none 0 0] 98); obtain ⟨w2, e2, HS2, _, _, b2⟩ := box2 w1 (.slice none 0 0) (.slice none 0 0) 98; rw [e2] at kt; have ki := alloc_new w2 (.cells #[.bool false] 4); obtain ⟨w3, e3, HS3, _, _, b3⟩ := box1 w2 (.bool false) 4; rw [e3] at ki; have kt := (b3.block _ (block_lt kt)).trans kt; have b23 := b2.trans (b3.mono b2.size); have b13 := b1.trans (b23.mono b1.size); have hcl := c_run pm pv pr cm cv cr p q cq pl w3 (hv.below b13) (hq.below b13) hp hpl; have k0 := (b23.cell (lt_of_cellq k0)).trans k0; have k1 := (b23.cell (lt_of_cellq k1)).trans k1; have k2 := (b23.cell (lt_of_cellq k2)).trans k2; have HRS0 := Lib.hid hrs; have HB := Lib.hid b13; have HP := Lib.hid hp; have HPL := Lib.hid hpl; clear hv hrs hq hp hpl b1 b2 b3 b23 b13
  go_enter_defers Tryz.func115, Tryz.ntmps115
  go_wp2_with fail; refine hcl.mono ?_; rintro e w4 ⟨g, cap, hs, rfl, ho, hel, b4⟩; clear e1 e2 e3 hcl; have k0 := (b4.cell (lt_of_cellq k0)).trans k0; have k1 := (b4.cell (lt_of_cellq k1)).trans k1; have k2 := (b4.cell (lt_of_cellq k2)).trans k2; have HKT := Lib.hid ((b4.block _ (block_lt kt)).trans kt); have HKI := Lib.hid ((b4.block _ (block_lt ki)).trans ki); have HO := Lib.hid ho; have HEL := Lib.hid hel; have HB4 := Lib.hid b4; clear ho hel b4 kt ki; go_wp2; have hs0 := Lib.hid (Nat.le_trans HB.out.size HB4.out.size)
  go_loopw [13] (fun i wr => ∃ (k : Nat) (a b : Value), k ≤ p.mv.length + 1 ∧ i = .int .i64 k ∧ Hid (wr.heap[w1.heap.size]? = some (.cells #[a, b] 98 (0, 0))) ∧ Hid (0 < k → a = .slice q pl.length cq ∧ hs[k - 1]? = some b) ∧ Hid (∀ j, j < k → agreesB p.rs (runF pl p.mv j) j = true) ∧ Hid (BelX (fun x => x = w1.heap.size) w4.heap.size w4 wr)) (fun i _ => p.mv.length + 1 - (intOf i).toNat)
  case atStart => exact ⟨0, _, _, by omega, rfl, HKT, Lib.hid (fun h => absurd h (Nat.lt_irrefl _)), Lib.hid (by intro j hj; omega), Lib.hid (BelX.refl _ _ _)⟩
  case round =>
    obtain ⟨k, a, b, hk, rfl, HT, HAB, HAG, HX⟩ := hrel
    by_cases hlt : k < p.mv.length + 1
    · obtain ⟨gk, ck, hek, hok⟩ := HEL.out.2 k (by rw [allF_len]; exact hlt)
      have hle := (runF_chain HPL.out.pos p.mv k).len; rw [allF_at _ _ _ _ (by omega), hle] at hek hok; obtain ⟨t0, t1⟩ := trV_get (.slice q pl.length cq) hs k _ hek; have hz1 := HS1.out; have hz2 := HS2.out; have hz3 := HS3.out; have h4 := HB4.out.size; have hog := own_lt HO.out; have hkg := own_lt hok; have d0 := HO.out.cells (g := g) rfl _ _ t0; have d1 := HO.out.cells (g := g) rfl _ _ t1; rw [add_new] at d0 d1; have d0 := (HX.out.cell (p := ⟨g, k * 2, none⟩) hog.2 (by show ¬ g = w1.heap.size; omega)).trans d0; have d1 := (HX.out.cell (p := ⟨g, k * 2 + 1, none⟩) hog.2 (by show ¬ g = w1.heap.size; omega)).trans d1; have q0 := (HX.out.cell (p := ⟨w.heap.size, 0, none⟩) (lt_of_cellq k0) (by show ¬ w.heap.size = w1.heap.size; omega)).trans k0; have q1 := (HX.out.cell (p := ⟨w.heap.size, 1, none⟩) (lt_of_cellq k1) (by show ¬ w.heap.size = w1.heap.size; omega)).trans k1; have q2 := (HX.out.cell (p := ⟨w.heap.size, 2, none⟩) (lt_of_cellq k2) (by show ¬ w.heap.size = w1.heap.size; omega)).trans k2
      obtain ⟨w5, e5, HS5, y0, y1, b5⟩ := box2 wr (.slice q pl.length cq) (.slice (some ⟨gk, 0, none⟩) (pl.length + 1) ck) 98; have q0 := (b5.cell (lt_of_cellq q0)).trans q0; have q1 := (b5.cell (lt_of_cellq q1)).trans q1; have q2 := (b5.cell (lt_of_cellq q2)).trans q2; have hBr : Below w.heap.size w wr := ((belX_of (X := fun x => x = w1.heap.size) (HB.out.trans (HB4.out.mono HB.out.size))).trans (HX.out.mono (by omega))).below (B' := w.heap.size) (Nat.le_refl _) (fun x hx => by subst hx; omega); have hB5 : Below w.heap.size w w5 := hBr.trans (b5.mono hBr.size); have hokr : wr.ownsRow w3.heap.size 3 1 (.slice (some ⟨gk, 0, none⟩) (pl.length + 1) ck) (pl.length + 1) (inV (runF pl p.mv k)) := own_same hok (fun g' hg' => by simp [Value.ownBlock] at hg'; subst hg'; exact HX.out.block gk hkg.2 (by omega))
      have hag := c_agree q pl.length cq gk (pl.length + 1) ck (runF pl p.mv k) pm pv pr cm cv cr p k w5 (rd_of_own0 (own_kept hokr b5)) hle (HRS0.out.below hB5) (by have := piece_rds HP.out; rw [← HPL.out.len] at this; exact this) (fun i hi => by
        have := place_range HP.out HPL.out k i (by omega) (by omega); omega)
      have HB5 := Lib.hid hB5; have hx5 : BelX (fun x => x = w1.heap.size) w4.heap.size w4 w5 := HX.out.trans ((belX_of b5).mono HX.out.size); have HX5 := Lib.hid hx5; have HT5 := Lib.hid ((b5.block _ (block_lt HT.out)).trans HT.out); have HI5 := Lib.hid ((hx5.block w2.heap.size (by omega) (by omega)).trans HKI.out); have HEK := Lib.hid hek; have hki : (k : Int) < (p.mv.length : Int) + 1 := by omega
      have HZ12 := Lib.hid (show w1.heap.size < w2.heap.size ∧ w2.heap.size < w3.heap.size ∧ w.heap.size < w1.heap.size ∧ w3.heap.size ≤ w4.heap.size from ⟨by omega, by omega, by omega, by omega⟩); clear hx5 hBr hB5 hokr hek hok hle b5 hz1 hz2 hz3 h4 hog hkg t0 t1; go_wp2_with fail; refine hag.mono ?_; rintro e w6 ⟨⟨hok6, rfl⟩ | ⟨hno, j, rfl⟩, b6⟩
      · have y0 := (b6.cell (lt_of_cellq y0)).trans y0
        have y1 := (b6.cell (lt_of_cellq y1)).trans y1; have HT6 := (b6.block _ (block_lt HT5.out)).trans HT5.out; obtain ⟨w7, w8, s1, s2, ⟨c0, f0⟩, ⟨c1, f1⟩, hx4, hxk, HZ, hxb⟩ := set2 w6 w1.heap.size 98 _ _ (.slice q pl.length cq) (.slice (some ⟨gk, 0, none⟩) (pl.length + 1) ck) HT6; have HT8 := Lib.hid hx4
        have HX8 := Lib.hid (show BelX (fun x => x = w1.heap.size) w4.heap.size w4 w8 by
          have h1 := HX5.out.trans ((belX_of b6).mono HX5.out.size); have h2 := (h1.setCell (p := ⟨w1.heap.size, 0, none⟩) (.inl rfl) (.slice q pl.length cq)).setCell (p := ⟨w1.heap.size, 1, none⟩) (.inl rfl) (.slice (some ⟨gk, 0, none⟩) (pl.length + 1) ck); rw [s1, s2] at h2; exact h2)
        have HOK6 := Lib.hid hok6; clear hx4 hxk hxb b6 hag e5 HT6 hok6; go_wp2; go_roundw
        case rel =>
          refine ⟨k + 1, _, _, by omega, by go_num, HT8, Lib.hid (fun _ => ⟨rfl, by rw [Nat.add_sub_cancel]; exact HEK.out⟩), Lib.hid (fun j hj => ?_), HX8⟩
          rcases Nat.lt_or_ge j k with h | h
          · exact HAG.out j h
          · obtain rfl : j = k := by omega
            exact HOK6.out
        case measure => simp [intOf]; omega
      · have HT6 := (b6.block _ (block_lt HT5.out)).trans HT5.out
        have HI6 := (b6.block _ (block_lt HI5.out)).trans HI5.out
        have HNO := Lib.hid (show livedB p pl = false by
          cases hh : livedB p pl with
          | false => rfl
          | true =>
            have h1 := (agree_all HP.out pl).2 hh k (by omega); rw [agreeAt_eq, hno] at h1
            cases h1)
        have HB6 := Lib.hid (HB5.out.trans (b6.mono HB5.out.size)); obtain ⟨hz12, hz23, hz01, hz34⟩ := HZ12.out; have hcd := catch_dis w1.heap.size w2.heap.size a b (.bool false) j [] w6 HT6 HI6 (by omega); have HW := Lib.hid (And.intro hz01 hz12); clear hag b6 e5 HT6 HI6 hno hz12 hz23 hz01 hz34; simp only [disE]; go_wp2; refine leaves_cons (f := 133) (args := #[.pointer (some ⟨w1.heap.size, 0, none⟩), .pointer (some ⟨w2.heap.size, 0, none⟩)]) (by simp) (by simp [go_sem]) ?_; refine hcd.mono ?_; rintro e u' w'' ⟨rfl, rfl, ht'', hi'', hb''⟩; obtain ⟨r0, r1⟩ := cells2 ht''; have r2 : w''.cell? ⟨w2.heap.size, 0, none⟩ = some (.bool false) := by rw [cell_of_row _ _ _ _ _ _ hi'']; rfl
        simp [Leaves, settle, results, Tryz.results115, go_sem, r0, r1, r2]; exact ⟨.inr ⟨HNO.out, rfl⟩, HB6.out.trans (hb'' _ (by have := HW.out; omega) (by have := HW.out; omega))⟩
    · obtain rfl : k = p.mv.length + 1 := by omega
      obtain ⟨rfl, hbb⟩ := HAB.out (by omega); obtain ⟨ge, ce, hee, hoe⟩ := HEL.out.2 p.mv.length (by rw [allF_len]; omega); have hle := (runF_chain HPL.out.pos p.mv p.mv.length).len; rw [allF_at _ _ _ _ (Nat.le_refl _), hle] at hee hoe; rw [Nat.add_sub_cancel, hee] at hbb; obtain rfl := Option.some.inj hbb; have hz1 := HS1.out; have hz2 := HS2.out; have hz3 := HS3.out; have h4 := HB4.out.size; have hKI := (HX.out.block w2.heap.size (by omega) (by omega)).trans HKI.out; obtain ⟨w5, w6, s1, s2, ⟨c0, f0⟩, ⟨c1, f1⟩, hx4, hxk, HZ, hxb⟩ := set2 wr w1.heap.size 98 _ _ (.slice q pl.length cq) (.slice (some ⟨ge, 0, none⟩) (pl.length + 1) ce) HT.out; have c1' : wr.cell? ⟨w1.heap.size, 1, none⟩ = some (.slice (some ⟨ge, 0, none⟩) (pl.length + 1) ce) := (cells2 HT.out).2; have hKI6 := (hxk w2.heap.size (by omega)).trans hKI; have d0 : w6.cell? ⟨w2.heap.size, 0, none⟩ = some (.bool false) := by rw [cell_of_row _ _ _ _ _ _ hKI6]; rfl
      have df : w6.frozen? ⟨w2.heap.size, 0, none⟩ = false := frozen_of_row _ _ _ _ _ hKI6; obtain ⟨w7, s7⟩ : ∃ w7, w6.setCell ⟨w2.heap.size, 0, none⟩ (.bool true) = w7 := ⟨_, rfl⟩; have hI7 : w7.heap[w2.heap.size]? = some (.cells #[.bool true] 4 (0, 0)) := by rw [← s7, heap_setCell_same w6 w2.heap.size 0 _ _ _ hKI6]; rfl
      have hT7 : w7.heap[w1.heap.size]? = some (.cells #[.slice q pl.length cq, .slice (some ⟨ge, 0, none⟩) (pl.length + 1) ce] 98 (0, 0)) := by rw [← s7, Below.heap_setCell _ _ _ _ (by show w1.heap.size ≠ w2.heap.size; omega)]; exact hx4
      obtain ⟨r0, r1⟩ := cells2 hT7; have r2 : w7.cell? ⟨w2.heap.size, 0, none⟩ = some (.bool true) := by rw [cell_of_row _ _ _ _ _ _ hI7]; rfl
      have HLV := Lib.hid (show livedB p pl = true from (agree_all HP.out pl).1 fun i hi => by rw [agreeAt_eq]; exact HAG.out i (by omega)); have hgl := own_lt hoe
      have HOW := Lib.hid (show w7.ownsRow w.heap.size 3 1 (.slice (some ⟨ge, 0, none⟩) (pl.length + 1) ce) (pl.length + 1) (inV (endF p pl)) from own_mono (own_same hoe (w' := w7) (fun g' hg' => by
        simp [Value.ownBlock] at hg'; subst hg'; rw [← s7, Below.heap_setCell _ _ _ _ (by show ge ≠ w2.heap.size; omega), hxk ge (by omega), HX.out.block ge hgl.2 (by omega)])) (by omega))
      have HBB := Lib.hid (show Below w.heap.size w w7 by
        have h1 := (belX_of (X := fun x => x = w1.heap.size) (HB.out.trans (HB4.out.mono HB.out.size))); have h2 := (h1.trans (HX.out.mono (by omega))).below (B' := w.heap.size) (Nat.le_refl _) (fun x hx => by subst hx; omega); rw [← s7]; exact (hxb w w.heap.size (by omega) h2).setCell (by show w.heap.size ≤ w2.heap.size; omega) _)
      clear hx4 hxk hxb hKI hKI6 hI7 hT7 hz1 hz2 hz3 h4 hee hoe hle hbb hgl; go_wp2; refine leaves_cons (f := 133) (args := #[.pointer (some ⟨w1.heap.size, 0, none⟩), .pointer (some ⟨w2.heap.size, 0, none⟩)]) (by simp) (by simp [go_sem]) ?_; refine (catch_dis_idle w1.heap.size w2.heap.size _).mono ?_; rintro e u' w'' ⟨rfl, rfl, rfl⟩; simp [Leaves, settle, results, Tryz.results115, go_sem, r0, r1, r2]; exact ⟨.inl ⟨HLV.out, ge, ce, rfl, HOW.out⟩, HBB.out⟩
end Go.Proofs.YtbknfddaoolagaaGreatDoor
end

section
namespace Go.Proofs.YtbknfddaoolagaaGreatDoor
open Go Go.RowKit Go.Proofs
set_option linter.unusedVariables false
attribute [local go_sem] imax2 imin2

def RunAllPost (p : Pc) (pl : List Int) (w : World) (e : Ending) (w' : World) : Prop :=
  (((pieceB p && playsB p pl && withinB p pl) = true ∧ ∃ g cap hs, e = .returned (.tuple #[.slice (some ⟨g, 0, none⟩) (p.mv.length + 1) cap, .int .i64 0]) ∧ w'.ownsRow w.heap.size 24 1 (.slice (some ⟨g, 0, none⟩) (p.mv.length + 1) cap) (p.mv.length + 1) hs ∧ ElC w' w.heap.size (allF pl p.mv p.mv.length) hs) ∨
   ((pieceB p && playsB p pl && withinB p pl) = false ∧ e = .returned (.tuple #[.slice none 0 0, .int .i64 2]))) ∧ Below w.heap.size w w'
set_option maxHeartbeats 1600000 in
set_option maxRecDepth 100000 in
theorem c_Run (pm pv pr : Option Addr) (cm cv cr : Nat) (p : Pc) (q : Option Addr) (cq : Nat) (pl : List Int) (w : World) (hp : RdP w pm pv pr p) (hl : LenOk p) (hq : RdI w q pl) (hlq : pl.length ≤ 1000000) :
    Calls Tryz.prog 22 #[.agg #[.slice pm p.ms.length cm, .slice pv p.mv.length cv, .slice pr p.rs.length cr], .slice q pl.length cq] w (RunAllPost p pl w) := by
  obtain ⟨i0, hi0, hz0, hz1, hz2⟩ := info_parts infL; obtain ⟨w1, e1, HS1, k0, k1, k2, b1⟩ := box3 w (.slice pm p.ms.length cm) (.slice pv p.mv.length cv) (.slice pr p.rs.length cr) 27; have HP := Lib.hid (hp.below b1); have HQ := Lib.hid (hq.below b1); have HB := Lib.hid b1; have HL := Lib.hid hl; clear b1 hp hq hl
  rcases h1 : pieceB p with _ | _
  · have HC := Lib.hid (show (pieceB p && playsB p pl && withinB p pl) = false by rw [h1]; rfl)
    go_enter Tryz.func22, Tryz.ntmps22
    go_wp2_with fail; refine (c_isPiece pm pv pr cm cv cr p _ HP.out HL.out).mono ?_; rw [h1]; rintro e wn ⟨rfl, bq⟩; replace HB := Lib.hid (HB.out.trans (bq.mono HB.out.size)); clear bq e1; go_wp2; refine bodyPost_ret (v := .tuple #[.slice none 0 0, .int .i64 2]) (by simp [results, Tryz.results22, go_sem]) rfl ?_; exact ⟨.inr ⟨HC.out, rfl⟩, HB.out⟩
  rcases h2 : playsB p pl with _ | _
  · have HC := Lib.hid (show (pieceB p && playsB p pl && withinB p pl) = false by rw [h1, h2]; rfl)
    go_enter Tryz.func22, Tryz.ntmps22
    go_wp2_with fail; refine (c_isPiece pm pv pr cm cv cr p _ HP.out HL.out).mono ?_; rw [h1]; rintro e wn ⟨rfl, bq⟩; replace HB := Lib.hid (HB.out.trans (bq.mono HB.out.size)); replace HQ := Lib.hid (HQ.out.below bq); have k0 := (bq.cell (lt_of_cellq k0)).trans k0; have k1 := (bq.cell (lt_of_cellq k1)).trans k1; have k2 := (bq.cell (lt_of_cellq k2)).trans k2; clear bq e1; go_wp2_with fail; refine (c_arePlays pm pv pr cm cv cr p q cq pl _ HQ.out hlq).mono ?_; rw [h2]; rintro e wn ⟨rfl, bq⟩; replace HB := Lib.hid (HB.out.trans (bq.mono HB.out.size)); clear bq; go_wp2; refine bodyPost_ret (v := .tuple #[.slice none 0 0, .int .i64 2]) (by simp [results, Tryz.results22, go_sem]) rfl ?_; exact ⟨.inr ⟨HC.out, rfl⟩, HB.out⟩
  have HPO := Lib.hid (pieceB_iff.1 h1); have HPL := Lib.hid (playsB_iff.1 h2); have H1 := Lib.hid h1; have H2 := Lib.hid h2
  go_enter Tryz.func22, Tryz.ntmps22
  go_wp2_with fail; refine (c_isPiece pm pv pr cm cv cr p _ HP.out HL.out).mono ?_; rw [h1]; rintro e wn ⟨rfl, bq⟩; replace HB := Lib.hid (HB.out.trans (bq.mono HB.out.size)); replace HQ := Lib.hid (HQ.out.below bq); replace HP := Lib.hid (HP.out.below bq); have k0 := (bq.cell (lt_of_cellq k0)).trans k0; have k1 := (bq.cell (lt_of_cellq k1)).trans k1; have k2 := (bq.cell (lt_of_cellq k2)).trans k2; clear bq e1; go_wp2_with fail; refine (c_arePlays pm pv pr cm cv cr p q cq pl _ HQ.out hlq).mono ?_; rw [h2]; rintro e wn2 ⟨rfl, bq⟩; replace HB := Lib.hid (HB.out.trans (bq.mono HB.out.size)); replace HQ := Lib.hid (HQ.out.below bq); replace HP := Lib.hid (HP.out.below bq); have k0 := (bq.cell (lt_of_cellq k0)).trans k0; have k1 := (bq.cell (lt_of_cellq k1)).trans k1; have k2 := (bq.cell (lt_of_cellq k2)).trans k2; clear bq; go_wp2_with fail; refine (c_meshed pm pv pr cm cv cr p q cq pl _ HP.out.ms HQ.out HPL.out.len hlq).mono ?_
  rcases h3 : withinB p pl with _ | _
  · have HC := Lib.hid (show (pieceB p && playsB p pl && withinB p pl) = false by rw [h3, Bool.and_false])
    rintro e wn3 ⟨rfl, bq⟩; replace HB := Lib.hid (HB.out.trans (bq.mono HB.out.size)); clear bq h1 h2 h3; go_wp2; refine bodyPost_ret (v := .tuple #[.slice none 0 0, .int .i64 2]) (by simp [results, Tryz.results22, go_sem]) rfl ?_; exact ⟨.inr ⟨HC.out, rfl⟩, HB.out⟩
  · have HC := Lib.hid (show (pieceB p && playsB p pl && withinB p pl) = true by rw [h1, h2, h3]; rfl)
    rintro e w4 ⟨rfl, bq⟩; replace HB := Lib.hid (HB.out.trans (bq.mono HB.out.size)); replace HQ := Lib.hid (HQ.out.below bq); replace HP := Lib.hid (HP.out.below bq); have k0 := (bq.cell (lt_of_cellq k0)).trans k0; have k1 := (bq.cell (lt_of_cellq k1)).trans k1; have k2 := (bq.cell (lt_of_cellq k2)).trans k2; clear bq h1 h2 h3; go_wp2_with fail; refine (c_run pm pv pr cm cv cr p q cq pl _ HP.out.mv HQ.out HPO.out HPL.out).mono ?_; rintro e w5 ⟨g, cap, hs, rfl, ho, hel, b5⟩; have HO := Lib.hid ho; have HEL := Lib.hid hel; have HB5 := Lib.hid b5; have hml := (piece_len HPO.out).2.1; clear ho hel b5 k0 k1 k2; go_wp2
    go_loopw [6, 28] (fun v i wr => ∃ k : Nat, k ≤ p.mv.length + 1 ∧ i = .int .i64 k ∧ Hid (wr.ownsRow w5.heap.size 24 1 v k (hs.take k)) ∧ Hid (Below w5.heap.size w5 wr)) (fun _ i _ => p.mv.length + 1 - (intOf i).toNat)
    case atStart => exact ⟨0, by omega, rfl, Lib.hid (World.ownsRow_nil _ _ _ _), Lib.hid (Below.refl _ _)⟩
    case round =>
      obtain ⟨k, hk, rfl, HV, HX⟩ := hrel
      by_cases hlt : k < p.mv.length + 1
      · obtain ⟨gk, ck, hek, hok⟩ := HEL.out.2 k (by rw [allF_len]; exact hlt)
        have hle := (runF_chain HPL.out.pos p.mv k).len; rw [allF_at _ _ _ _ (by omega), hle] at hek hok; obtain ⟨t0, t1⟩ := trV_get (.slice q pl.length cq) hs k _ hek; have d0 := HO.out.cells (g := g) rfl _ _ t0; have d1 := HO.out.cells (g := g) rfl _ _ t1; rw [add_new] at d0 d1; have d0 := (HX.out.cell (lt_of_cellq d0)).trans d0; have d1 := (HX.out.cell (lt_of_cellq d1)).trans d1; obtain ⟨w6, e6, HS6, y0, y1, b6⟩ := box2 wr (.slice q pl.length cq) (.slice (some ⟨gk, 0, none⟩) (pl.length + 1) ck) 98; have HV6 := Lib.hid (own_kept HV.out b6); have HX6 := Lib.hid (HX.out.trans (b6.mono HX.out.size)); have hki : (k : Int) < (p.mv.length : Int) + 1 := by omega
        have HTK := Lib.hid (show hs.take (k + 1) = hs.take k ++ [.slice (some ⟨gk, 0, none⟩) (pl.length + 1) ck] by
          obtain ⟨hh, he⟩ := List.getElem?_eq_some_iff.1 hek; rw [List.take_succ_eq_append_getElem hh, he])
        clear hek hok hle t0 t1 b6; go_wp2_with (at_builtin; refine wpList_append_own _ rfl _ _ 51 rfl w5.heap.size 24 i0 _ 1 24 Tryz.underlying51 hi0 hz0 hz1 hz2 rfl (by decide) _ _ _ rfl (HV6.out.alloc _) ⟨w6.heap.size, 0, none⟩ 1 1 [.slice (some ⟨gk, 0, none⟩) (pl.length + 1) ck] rfl rfl ?c1 ?c2 ?c3 ?c4 ?c5 ?_)
        case c1 => exact news_of _ _ _
        case c2 => intro u hu; simp at hu; subst hu; rfl
        case c3 => unfold maxLen; omega
        case c4 => omega
        case c5 => have := HX6.out.size; simp; omega
        intro v' w7 hown' hgrow _; have HV7 := Lib.hid hown'; have HX7 := Lib.hid ((HX6.out.trans ((below_alloc1 w6 _).mono HX6.out.size)).grown hgrow (by have := HX6.out.size; simp; omega) (fun j hj => (HV6.out.lt j hj).1)); clear hown' hgrow e6; go_wp2; go_roundw
        case rel =>
          refine ⟨k + 1, by omega, by go_num, Lib.hid ?_, HX7⟩; rw [HTK.out]; exact HV7.out
        case measure => simp [intOf]; omega
      · obtain rfl : k = p.mv.length + 1 := by omega
        obtain ⟨g', c', rfl⟩ := own_form HV.out; go_wp2; refine bodyPost_ret (v := .tuple #[.slice (some ⟨g', 0, none⟩) (p.mv.length + 1) c', .int .i64 0]) (by simp [results, Tryz.results22, go_sem]) rfl ?_; have hhl : hs.length = p.mv.length + 1 := by rw [HEL.out.1, allF_len]
        have hv := HV.out; rw [List.take_of_length_le (by omega)] at hv; have hwz : w.heap.size ≤ w5.heap.size := Nat.le_trans HB.out.size HB5.out.size; exact ⟨.inl ⟨HC.out, g', c', hs, rfl, own_mono hv hwz, (HEL.out.below HX.out).mono HB.out.size⟩, HB.out.trans ((HB5.out.trans (HX.out.mono HB5.out.size)).mono HB.out.size)⟩
end Go.Proofs.YtbknfddaoolagaaGreatDoor
end

section
namespace Go.Proofs.YtbknfddaoolagaaGreatDoor
open Go Go.RowKit Go.Proofs
set_option linter.unusedVariables false
attribute [local go_sem] imax2 imin2

theorem c_just (n : Int) (w : World) : Calls Tryz.prog 64 #[.int .i64 n] w fun e w' => e = .returned (.agg #[.int .i64 n, .int .i64 n]) ∧ Below w.heap.size w w' := by
  have kb := alloc_new w (.cells #[.int .i64 0, .int .i64 0] 44); obtain ⟨w1, e1, HS1, _, _, b1⟩ := box2 w (.int .i64 0) (.int .i64 0) 44; rw [e1] at kb; obtain ⟨w2, w3, s1, s2, ⟨c0, f0⟩, ⟨c1, f1⟩, hx4, hxk, HZ, hxb⟩ := set2 w1 w.heap.size 44 _ _ (.int .i64 n) (.int .i64 n) kb; obtain ⟨r0, r1⟩ := cells2 hx4; have HB := Lib.hid (hxb w w.heap.size (Nat.le_refl _) b1); clear hx4 hxk hxb b1 kb
  go_enter Tryz.func64, Tryz.ntmps64
  go_wp2; refine bodyPost_ret (v := .agg #[.int .i64 n, .int .i64 n]) ?_ rfl ⟨rfl, HB.out⟩; simp [results, Tryz.results64, go_sem, r0, r1]
theorem c_wider (a b c d : Int) (f : Bool) (w : World) : Calls Tryz.prog 101 #[.agg #[.int .i64 a, .int .i64 b], .agg #[.int .i64 c, .int .i64 d], .bool f] w fun e w' => e = .returned (.agg #[.int .i64 (if f = true then c else min a c), .int .i64 (if f = true then d else max b d)]) ∧ Below w.heap.size w w' := by
  obtain ⟨w1, e1, HS1, a0, a1, b1⟩ := box2 w (.int .i64 a) (.int .i64 b) 44; obtain ⟨w2, e2, HS2, d0, d1, b2⟩ := box2 w1 (.int .i64 c) (.int .i64 d) 44; have kb := alloc_new w2 (.cells #[.int .i64 0, .int .i64 0] 44); obtain ⟨w3, e3, HS3, _, _, b3⟩ := box2 w2 (.int .i64 0) (.int .i64 0) 44; rw [e3] at kb; have a0 := ((b2.trans (b3.mono b2.size)).cell (lt_of_cellq a0)).trans a0; have a1 := ((b2.trans (b3.mono b2.size)).cell (lt_of_cellq a1)).trans a1; have d0 := (b3.cell (lt_of_cellq d0)).trans d0; have d1 := (b3.cell (lt_of_cellq d1)).trans d1; have hz : w.heap.size ≤ w2.heap.size := Nat.le_trans b1.size b2.size; have hb : Below w.heap.size w w3 := b1.trans ((b2.trans (b3.mono b2.size)).mono b1.size)
  cases f with
  | true =>
    obtain ⟨w4, w5, s1, s2, ⟨c0, f0⟩, ⟨c1, f1⟩, hx4, hxk, HZ, hxb⟩ := set2 w3 w2.heap.size 44 _ _ (.int .i64 c) (.int .i64 d) kb; obtain ⟨r0, r1⟩ := cells2 hx4; have HB := Lib.hid (hxb w w.heap.size hz hb); clear hx4 hxk hxb b1 b2 b3 kb hz hb
    go_enter Tryz.func101, Tryz.ntmps101
    go_wp2; refine bodyPost_ret (v := .agg #[.int .i64 c, .int .i64 d]) ?_ rfl ⟨rfl, HB.out⟩; simp [results, Tryz.results101, go_sem, r0, r1]
  | false =>
    obtain ⟨w4, w5, s1, s2, ⟨c0, f0⟩, ⟨c1, f1⟩, hx4, hxk, HZ, hxb⟩ := set2 w3 w2.heap.size 44 _ _ (.int .i64 (min a c)) (.int .i64 (max b d)) kb; obtain ⟨r0, r1⟩ := cells2 hx4; have HB := Lib.hid (hxb w w.heap.size hz hb); clear hx4 hxk hxb b1 b2 b3 kb hz hb
    go_enter Tryz.func101, Tryz.ntmps101
    go_wp2; refine bodyPost_ret (v := .agg #[.int .i64 (min a c), .int .i64 (max b d)]) ?_ rfl ⟨rfl, HB.out⟩; simp [results, Tryz.results101, go_sem, r0, r1]
set_option maxRecDepth 100000 in
theorem c_sum (p : Option Addr) (cap : Nat) (xs : List Int) (w : World) (hx : RdI w p xs) (hp : PlOk xs) :
    Calls Tryz.prog 75 #[.slice p xs.length cap] w fun e w' => e = .returned (.int .i64 (sumT xs xs.length)) ∧ w = w' := by
  have HX := Lib.hid hx; have HP := Lib.hid hp; have hlen := hp.len; clear hx hp
  go_enter Tryz.func75, Tryz.ntmps75
  go_wp2
  go_loop [3, 8] (fun n i => ∃ k : Nat, k ≤ xs.length ∧ i = .int .i64 k ∧ n = .int .i64 (sumT xs k)) (fun _ i => xs.length - (intOf i).toNat)
  case atStart => exact ⟨0, by omega, rfl, rfl⟩
  case round =>
    obtain ⟨k, hk, rfl, rfl⟩ := hrel
    by_cases hlt : k < xs.length
    · obtain ⟨b, off, rfl, hc⟩ := HX.out.at hlt
      have e1 := hc k hlt; have h1 := HP.out.sum (k + 1) (by omega); have HE := Lib.hid (show sumT xs (k + 1) = sumT xs k + gi xs k from rfl); have hw : IntKind.i64.wrap (sumT xs k + gi xs k) = sumT xs k + gi xs k := by rw [← HE.out]; exact w64 _ (by omega) (by omega)
      clear hc h1; go_wp2; go_round
      case rel => exact ⟨k + 1, by omega, by go_num, by rw [HE.out]⟩
      case measure => simp [intOf]; omega
    · obtain rfl : k = xs.length := by omega
      go_wp2; go_ret; exact ⟨rfl, rfl⟩
end Go.Proofs.YtbknfddaoolagaaGreatDoor
end

section
namespace Go.Proofs.YtbknfddaoolagaaGreatDoor
open Go Go.RowKit Go.Proofs
set_option linter.unusedVariables false
attribute [local go_sem] imax2 imin2

def RdQ (w : World) (a : Option Addr) (p : Pc) (ts : List (List Int)) : Prop :=
  ∃ b, a = some ⟨b, 0, none⟩ ∧ ∀ i, i < ts.length → (gl ts i).length = p.ms.length ∧ ∃ p1 c1 p2 c2, w.cell? ⟨b, i * 2, none⟩ = some (.slice p1 p.ms.length c1) ∧ w.cell? ⟨b, i * 2 + 1, none⟩ = some (.slice p2 (p.ms.length + 1) c2) ∧ RdI w p1 (gl ts i) ∧ RdI w p2 (endF p (gl ts i)) ∧ (endF p (gl ts i)).length = p.ms.length + 1 ∧ p.ms.length ≤ c1 ∧ ∃ g, p2 = some ⟨g, 0, none⟩
theorem RdQ.below {w w' : World} {a : Option Addr} {p : Pc} {ts : List (List Int)} (h : RdQ w a p ts) (hb : Below w.heap.size w w') : RdQ w' a p ts := by
  obtain ⟨b, rfl, h⟩ := h; refine ⟨b, rfl, fun i hi => ?_⟩; obtain ⟨h0, p1, c1, p2, c2, h1, h2, h3, h4, h5⟩ := h i hi; exact ⟨h0, p1, c1, p2, c2, (hb.cell (lt_of_cellq h1)).trans h1, (hb.cell (lt_of_cellq h2)).trans h2, h3.below hb, h4.below hb, h5⟩
def ovTo (of : List Int → Int × Int) (ts : List (List Int)) (k : Nat) : Int × Int := overF ((ts.take k).map of)
theorem ovTo_zero (of : List Int → Int × Int) (ts : List (List Int)) : ovTo of ts 0 = overF [] := by simp [ovTo]
theorem ovTo_succ (of : List Int → Int × Int) (ts : List (List Int)) (k : Nat) (hk : k < ts.length) : ovTo of ts (k + 1) = if k = 0 then of (gl ts k) else (min (ovTo of ts k).1 (of (gl ts k)).1, max (ovTo of ts k).2 (of (gl ts k)).2) := by
  unfold ovTo
  have e : ts.take (k + 1) = ts.take k ++ [gl ts k] := by
    rw [List.take_succ_eq_append_getElem hk]; unfold gl; simp [hk]
  rw [e, List.map_append, List.map_cons, List.map_nil, overF_snoc]
  by_cases h : k = 0
  · subst h; simp
  · rw [if_neg h, if_neg (by
      intro hc; rw [List.map_eq_nil_iff] at hc; have := congrArg List.length hc; rw [List.length_take, List.length_nil] at this; omega)]

set_option maxRecDepth 100000 in
theorem c1_known (p : Pc) (pl : List Int) (p1 p2 : Option Addr) (c1 c2 : Nat) (pa a : Nat) (w : World) (h1 : RdI w p1 pl) (h2 : RdI w p2 (endF p pl)) (hl1 : pl.length = p.ms.length) (hl2 : (endF p pl).length = p.ms.length + 1) (ka : w.cell? ⟨pa, 0, none⟩ = some (.int .i64 (a : Int))) (ha : a ≤ p.ms.length) :
    Calls Tryz.prog 63 #[.agg #[.slice p1 p.ms.length c1, .slice p2 (p.ms.length + 1) c2], .pointer (some ⟨pa, 0, none⟩)] w fun e w' => e = .returned (.agg #[.int .i64 (gi (endF p pl) a), .int .i64 (gi (endF p pl) a)]) ∧ Below w.heap.size w w' := by
  obtain ⟨w1, e1, HS1, t0, t1, b1⟩ := box2 w (.slice p1 p.ms.length c1) (.slice p2 (p.ms.length + 1) c2) 98; have kb := alloc_new w1 (.cells #[.int .i64 0, .int .i64 0] 44); obtain ⟨w2, e2, HS2, _, _, b2⟩ := box2 w1 (.int .i64 0) (.int .i64 0) 44; rw [e2] at kb; have t0 := (b2.cell (lt_of_cellq t0)).trans t0; have t1 := (b2.cell (lt_of_cellq t1)).trans t1; have ka := (b2.cell (lt_of_cellq ((b1.cell (lt_of_cellq ka)).trans ka))).trans ((b1.cell (lt_of_cellq ka)).trans ka); obtain ⟨b, off, rfl, hc⟩ := ((h2).below b1 |>.below b2).at (i := a) (by omega); have ea := hc a (by omega); have haI : (a : Int) < (p.ms.length : Int) + 1 := by omega
  have ha2 : a < p.ms.length + 1 := by omega
  have HB := Lib.hid (b1.trans (b2.mono b1.size)); have hw1 := HS1.out; have HKB := Lib.hid kb; have HZ := Lib.hid (show w.heap.size ≤ w1.heap.size from b1.size); clear h1 h2 hl1 hl2 hc b1 b2 kb hw1
  go_enter Tryz.func63, Tryz.ntmps63
  go_wp2_with fail; refine (c_just _ _).mono ?_; rintro e w3 ⟨rfl, b3⟩; clear e1 e2; obtain ⟨w4, w5, s1, s2, ⟨c0', f0⟩, ⟨c1', f1⟩, hx4, hxk, HZ5, hxb⟩ := set2 w3 w1.heap.size 44 _ _ (.int .i64 (gi (endF p pl) a)) (.int .i64 (gi (endF p pl) a)) ((b3.block _ (block_lt HKB.out)).trans HKB.out); obtain ⟨r0, r1⟩ := cells2 hx4; have HBB := Lib.hid (hxb w w.heap.size HZ.out (HB.out.trans (b3.mono HB.out.size))); clear hx4 hxk hxb b3; go_wp2; refine bodyPost_ret (v := .agg #[.int .i64 (gi (endF p pl) a), .int .i64 (gi (endF p pl) a)]) ?_ rfl ⟨rfl, HBB.out⟩; simp [results, Tryz.results63, go_sem, r0, r1]

set_option maxRecDepth 100000 in
theorem c1_plays (p : Pc) (pl : List Int) (p1 p2 : Option Addr) (c1 c2 : Nat) (pa a : Nat) (w : World) (h1 : RdI w p1 pl) (h2 : RdI w p2 (endF p pl)) (hl1 : pl.length = p.ms.length) (hl2 : (endF p pl).length = p.ms.length + 1) (ka : w.cell? ⟨pa, 0, none⟩ = some (.int .i64 (a : Int))) (ha : a < p.ms.length) :
    Calls Tryz.prog 65 #[.agg #[.slice p1 p.ms.length c1, .slice p2 (p.ms.length + 1) c2], .pointer (some ⟨pa, 0, none⟩)] w fun e w' => e = .returned (.agg #[.int .i64 (gi pl a), .int .i64 (gi pl a)]) ∧ Below w.heap.size w w' := by
  obtain ⟨w1, e1, HS1, t0, t1, b1⟩ := box2 w (.slice p1 p.ms.length c1) (.slice p2 (p.ms.length + 1) c2) 98; have kb := alloc_new w1 (.cells #[.int .i64 0, .int .i64 0] 44); obtain ⟨w2, e2, HS2, _, _, b2⟩ := box2 w1 (.int .i64 0) (.int .i64 0) 44; rw [e2] at kb; have t0 := (b2.cell (lt_of_cellq t0)).trans t0; have t1 := (b2.cell (lt_of_cellq t1)).trans t1; have ka := (b2.cell (lt_of_cellq ((b1.cell (lt_of_cellq ka)).trans ka))).trans ((b1.cell (lt_of_cellq ka)).trans ka); obtain ⟨b, off, rfl, hc⟩ := ((h1).below b1 |>.below b2).at (i := a) (by omega); have ea := hc a (by omega); have haI : (a : Int) < (p.ms.length : Int) + 1 := by omega
  have ha2 : a < p.ms.length := by omega
  have HB := Lib.hid (b1.trans (b2.mono b1.size)); have hw1 := HS1.out; have HKB := Lib.hid kb; have HZ := Lib.hid (show w.heap.size ≤ w1.heap.size from b1.size); clear h1 h2 hl1 hl2 hc b1 b2 kb hw1
  go_enter Tryz.func65, Tryz.ntmps65
  go_wp2_with fail; refine (c_just _ _).mono ?_; rintro e w3 ⟨rfl, b3⟩; clear e1 e2; obtain ⟨w4, w5, s1, s2, ⟨c0', f0⟩, ⟨c1', f1⟩, hx4, hxk, HZ5, hxb⟩ := set2 w3 w1.heap.size 44 _ _ (.int .i64 (gi pl a)) (.int .i64 (gi pl a)) ((b3.block _ (block_lt HKB.out)).trans HKB.out); obtain ⟨r0, r1⟩ := cells2 hx4; have HBB := Lib.hid (hxb w w.heap.size HZ.out (HB.out.trans (b3.mono HB.out.size))); clear hx4 hxk hxb b3; go_wp2; refine bodyPost_ret (v := .agg #[.int .i64 (gi pl a), .int .i64 (gi pl a)]) ?_ rfl ⟨rfl, HBB.out⟩; simp [results, Tryz.results65, go_sem, r0, r1]
end Go.Proofs.YtbknfddaoolagaaGreatDoor
end
