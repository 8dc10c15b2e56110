/-
  The laws' own run: contract.
-/
import Derived.Test.YtlednchfifphgabGreatDoorGG
import Derived.Test.YtlednchfifphgabGreatDoorGY
section
namespace Go.Proofs.YtlednchfifphgabGreatDoor
open Go Go.RowKit Go.Proofs
set_option linter.unusedVariables false
set_option linter.unusedSimpArgs false
attribute [local go_sem] imax2 imin2

theorem allF_rows (pl mv : List Int) (hp : Pos pl) (k i : Nat) (h : i ≤ k) : (gl (allF pl mv k) i).length = pl.length + 1 := by rw [allF_at _ _ _ _ h]; exact (runF_chain hp mv i).len
def LRunPost (p : Pc) (pl : List Int) (w : World) (e : Ending) (w' : World) : Prop :=
  (∃ g c, e = .returned (.slice (some ⟨g, 0, none⟩) (p.mv.length + 1) c) ∧ RdLs w' (some ⟨g, 0, none⟩) (allF pl p.mv p.mv.length)) ∧ Below w.heap.size w w'
set_option maxHeartbeats 1600000 in
set_option maxRecDepth 100000 in
theorem c_lrun (pm pv pr : Option Addr) (cm cv cr : Nat) (p : Pc) (q : Option Addr) (cq : Nat) (pl : List Int) (w : World) (hp : RdP w pm pv pr p) (hq : RdI w q pl) (hok : (pieceB p && playsB p pl && withinB p pl) = true) :
    Calls Tryz.prog 29 #[.agg #[.slice pm p.ms.length cm, .slice pv p.mv.length cv, .slice pr p.rs.length cr], .slice q pl.length cq] w (LRunPost p pl w) := by
  obtain ⟨w1, e1, HS1, k0, k1, k2, b1⟩ := box3 w (.slice pm p.ms.length cm) (.slice pv p.mv.length cv) (.slice pr p.rs.length cr) 26; have HOK := Lib.hid hok; rw [Bool.and_eq_true, Bool.and_eq_true] at hok; have hpo := pieceB_iff.1 hok.1.1; have hpp := playsB_iff.1 hok.1.2; have hlen := piece_len hpo; have hpn := hpp.len; have hrun := c_Run pm pv pr cm cv cr p q cq pl w1 (hp.below b1) ⟨by omega, by omega, by omega⟩ (hq.below b1) (by omega); have HPO := Lib.hid (And.intro hpo hpp); have HB := Lib.hid b1; have hm8 := hlen.2.1; have hp4 : pl.length ≤ 4 := by omega
  clear hok hpo hpp hlen hpn b1 hp hq
  go_enter Tryz.func29, Tryz.ntmps29
  go_wp2_with fail; refine hrun.mono ?_; clear hrun; rintro e w2 ⟨⟨_, g, cap, hs, rfl, ho, he⟩ | ⟨h, _⟩, b2⟩
  · have hls := rdLs_of ho he
    have HL := Lib.hid hls; have HB2 := Lib.hid (HB.out.trans (b2.mono HB.out.size)); have k1 := (b2.cell (lt_of_cellq k1)).trans k1; clear ho he b2 hls; have hwn : IntKind.i64.wrap ((p.mv.length : Int) + 1) = (p.mv.length : Int) + 1 := w64 _ (by omega) (by omega); have hcs : ((((p.mv.length : Nat) : Int) + 1) != ((p.mv.length : Nat) : Int) + 1) = false := by simp
    go_wp2; clear e1 hwn hcs; obtain ⟨L, hL⟩ : ∃ L, allF pl p.mv p.mv.length = L := ⟨_, rfl⟩; have HLL := Lib.hid hL; have HLN := Lib.hid (show L.length = p.mv.length + 1 by rw [← hL, allF_len]); have HRW := Lib.hid (show ∀ i, i < p.mv.length + 1 → (gl L i).length = pl.length + 1 from fun i hi => by rw [← hL]; exact allF_rows pl p.mv HPO.out.2.pos _ _ (by omega))
    have HRG := Lib.hid (show ∀ i k, i < p.mv.length + 1 → k < pl.length + 1 → -2800 ≤ gi (gl L i) k ∧ gi (gl L i) k ≤ 2400 from fun i k hi hk => by
      rw [← hL, allF_at _ _ _ _ (by omega)]; exact place_range HPO.out.1 HPO.out.2 i k (by omega) (by omega))
    rw [hL] at HL; clear hL; obtain ⟨n, hn⟩ : ∃ n, p.mv.length = n := ⟨_, rfl⟩; have HN := Lib.hid hn; rw [hn] at HLN HRW HRG hm8 ⊢; clear hn k0 k1 k2
    go_loopw [7] (fun i wr => ∃ k : Nat, k ≤ n + 1 ∧ i = .int .i64 k ∧ wr = w2) (fun i _ => n + 1 - (intOf i).toNat)
    case atStart => exact ⟨0, Nat.zero_le _, rfl, rfl⟩
    case round =>
      obtain ⟨i, hi, rfl, rfl⟩ := hrel
      by_cases hlt : i < n + 1
      · have hki : (i : Int) < (n : Int) + 1 := by omega
        obtain ⟨b, off, hb, hc⟩ := HL.out.at (by rw [HLN.out]; exact hlt)
        cases hb
        obtain ⟨a1, c1, d0, hr⟩ := hc i (by rw [HLN.out]; exact hlt); rw [HRW.out i hlt, Nat.zero_add] at d0; have HR := Lib.hid hr; have hwp : IntKind.i64.wrap ((pl.length : Int) + 1) = (pl.length : Int) + 1 := w64 _ (by omega) (by omega); have hcs : ((((pl.length : Nat) : Int) + 1) != ((pl.length : Nat) : Int) + 1) = false := by simp
        clear hc hr; obtain ⟨wn, rfl⟩ : ∃ wn : World, wn = wr := ⟨_, rfl⟩; go_wp2; clear hcs hwp
        go_loopw [8] (fun j wr => ∃ k : Nat, k ≤ pl.length + 1 ∧ j = .int .i64 k ∧ wr = wn) (fun j _ => pl.length + 1 - (intOf j).toNat)
        case atStart => exact ⟨0, Nat.zero_le _, rfl, rfl⟩
        case round =>
          obtain ⟨k, hk, rfl, rfl⟩ := hrel
          by_cases hkl : k < pl.length + 1
          · have hkk : (k : Int) < (pl.length : Int) + 1 := by omega
            obtain ⟨b2, off2, rfl, hc2⟩ := HR.out.at (i := k) (by rw [HRW.out i hlt]; exact hkl); have d1 := hc2 k (by rw [HRW.out i hlt]; exact hkl); have hrg := HRG.out i k hlt hkl; obtain ⟨x, hx⟩ : ∃ x, gi (gl L i) k = x := ⟨_, rfl⟩; rw [hx] at d1 hrg; have g1 : ¬ x < -5000 := by omega
            have g2 : ¬ x > 5000 := by omega
            clear hc2 hx; go_wp2; go_roundw
            case rel => exact ⟨k + 1, by omega, by go_num, by first | rfl | trivial⟩
            case measure => simp [intOf]; omega
          · obtain rfl : k = pl.length + 1 := by omega
            have hkk : ¬ (((pl.length + 1 : Nat)) : Int) < (pl.length : Int) + 1 := by omega
            go_wp2; go_roundw
            case rel => exact ⟨i + 1, by omega, by go_num, by first | rfl | trivial⟩
            case measure => simp [intOf]; omega
      · obtain rfl : i = n + 1 := by omega
        have hki : ¬ (((n + 1 : Nat)) : Int) < (n : Int) + 1 := by omega
        go_wp2; go_ret; exact ⟨⟨g, cap, by rw [HN.out]; rfl, by rw [HLL.out]; exact HL.out⟩, HB2.out⟩
  · rw [HOK.out] at h; cases h
end Go.Proofs.YtlednchfifphgabGreatDoor
end
