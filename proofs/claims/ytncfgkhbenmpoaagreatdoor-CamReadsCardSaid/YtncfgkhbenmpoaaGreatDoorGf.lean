/-
  The closure of the search, where nothing is set; the search; the nearest cam of a rule with spans.
  The search: the first cam of some spans; the nearest cam.
  The nearest cam.
  copy, at elements of whatever size.
  Contracts of the library, as the shelf lays them at this dump (by the kit's tools, in plain words).
  slices.Repeat of one element, so many times.
  The heights that the steps can have by some gauges; it gives up if a step can have none.
-/
import Derived.Test.YtncfgkhbenmpoaaGreatDoorGe
import Derived.Laws.EntriesVeiled
import Derived.Laws.CopyOwn
import Derived.StillTailTactics
import Derived.Shelf.Strings.Builder1
import Derived.Shelf.Strings.Builder2
import Derived.Shelf.Strings.OnBuilder
import Derived.Shelf.Utf8.RuneCount
import Derived.Shelf.Strconv.Itoa0
import Derived.Shelf.Strconv.Itoa1
import Derived.Shelf.LaysM
import Derived.Shelf.Strconv.Itoa2
import Derived.Shelf.Strconv.Itoa3
import Derived.Shelf.Strings.Search1
import Derived.Shelf.Strings.Search2
import Derived.Shelf.Strings.Search3
import Derived.Shelf.Strings.Count
import Derived.Shelf.Strings.Shaped
import Derived.Shelf.Strings.Split
import Derived.Shelf.Strings.SplitShaped
import Derived.Shelf.Unicode.Decode
import Derived.Shelf.Strings.RuneCount
import Derived.Shelf.Strings.Explode
import Derived.Shelf.Bits.Mul64
import Derived.Shelf.Unicode.DecodeSlow
import Derived.Shelf.Unicode.DecodeAny
import Derived.Ground.Names2Prog
import Derived.Shelf.Slices.Clone
import Derived.Ground.SlgnProg
import Derived.Shelf.SlicesE.Clone
import Derived.Test.YtncfgkhbenmpoaaGreatDoorProg
import Derived.Deep.RegionHeld3
import Derived.Deep.RegionHeld
section
namespace Go.Proofs.YtncfgkhbenmpoaaGreatDoor
open Go Go.RowKit Go.Proofs Go.Shelf
set_option linter.unusedVariables false
attribute [local go_sem] imax2 imin2

set_option maxRecDepth 100000 in
set_option maxHeartbeats 2000000 in
theorem c128_nil (lo hi sl ch : Int) (q : Option Addr) (cap m : Nat) (ss : List (Int × Int)) (Bo Bs Bw : Nat) (hlen : ss.length ≤ 1000) (h0 : 0 < ss.length) (hsl : 0 ≤ sl ∧ sl ≤ 30) (hsp : SpOk ss) (left : Int) (w : World)
    (hleft : 0 ≤ left ∧ left < 1000) (hc : WalkCtx lo hi sl ch q cap m ss Bo Bs Bw w) :
    Calls Tryz.prog 128 #[.slice none 0 0, .int .i64 left, .pointer (some ⟨Bs, 0, none⟩), .pointer (some ⟨Bo, 0, none⟩), .pointer (some ⟨Bw, 0, none⟩)] w (WalkPost lo hi sl ch q cap m ss Bo Bs Bw [] left w) := by
  obtain ⟨b', off', hqe, hcs⟩ := hc.rs.at (i := 0) h0
  subst hqe
  obtain ⟨e1, e2⟩ := hcs 0 h0
  have hspan := hsp 0 h0
  rw [Nat.zero_mul, Nat.add_zero] at e1 e2
  have c4 := hc.c4
  have HC := Lib.hid hc
  have HSL := Lib.hid hsl
  have HSP := Lib.hid hsp
  have HL := Lib.hid hleft
  have ht : ((0 : Int) == (ss.length : Int)) = false := by simp; omega
  have ht2 : ss ≠ [] := by intro h; rw [h] at h0; simp at h0
  obtain ⟨L, hL⟩ : ∃ L, (gs ss 0).1 = L := ⟨_, rfl⟩
  obtain ⟨U, hU⟩ : ∃ U, (gs ss 0).2 = U := ⟨_, rfl⟩
  have HW := Lib.hid (wayOut_step0 sl ss left h0)
  rw [hL, hU] at HW hspan
  rw [hL] at e1
  rw [hU] at e2
  obtain ⟨hLb, hLb2, hUb2, hUb⟩ := hspan
  have hz : (0 : Int) < (ss.length : Int) := by omega
  clear hcs hc hsp hleft hL hU
  go_enter Tryz.func128, Tryz.ntmps128
  go_wp2
  refine wp_region_quiet_lit (by kernel_rfl) (by kernel_rfl) ?_; (repeat (first | ((with_reducible apply wq_ix Tryz.underlying24 sz3); (focus rfl); (focus rfl); (focus rfl); (focus omega); (try simp only [Nat.mul_one]); go_frame) | ((with_reducible apply wq_ix Tryz.underlying37 sz50); (focus rfl); (focus rfl); (focus rfl); (focus omega); go_frame) | ((with_reducible apply wq_ix Tryz.underlying35 sz47); (focus rfl); (focus rfl); (focus rfl); (focus omega); (try simp only [Nat.mul_one]); go_frame) | ((with_reducible apply wq_ix Tryz.underlying90 sz24); (focus rfl); (focus rfl); (focus rfl); (focus omega); (try simp only [Nat.mul_one]); go_frame) | ((with_reducible apply wq_ld ag3); (focus rfl); (focus rfl); (focus (rintro _ ⟨_, rfl⟩; first | exact c4 | exact e1 | exact e2)); go_frame) | ((with_reducible apply wq_ld ag24); (focus rfl); (focus rfl); (focus (rintro _ ⟨_, rfl⟩; first | exact c4 | exact e1 | exact e2)); go_frame) | ((with_reducible apply wq_ld ag37); (focus rfl); (focus rfl); (focus (rintro _ ⟨_, rfl⟩; first | exact c4 | exact e1 | exact e2)); go_frame) | ((with_reducible apply wq_ld ag90); (focus rfl); (focus rfl); (focus (rintro _ ⟨_, rfl⟩; first | exact c4 | exact e1 | exact e2)); go_frame) | ((with_reducible apply wq_ld ag35); (focus rfl); (focus rfl); (focus (rintro _ ⟨_, rfl⟩; first | exact c4 | exact e1 | exact e2)); go_frame) | ((with_reducible apply wq_add); (focus rfl); (focus rfl); (focus rfl); (focus omega); (focus omega); go_frame) | ((with_reducible apply wq_sub); (focus rfl); (focus rfl); (focus rfl); (focus omega); (focus omega); go_frame) | ((with_reducible apply wq_mul); (focus rfl); (focus rfl); (focus rfl); (focus omega); (focus omega); go_frame) | ((with_reducible apply wq_rem); (focus rfl); (focus rfl); (focus rfl); (focus omega); (focus omega); go_frame) | ((with_reducible apply wq_eql); (focus rfl); (focus rfl); (focus rfl); go_frame) | ((with_reducible apply wq_neq); (focus rfl); (focus rfl); (focus rfl); go_frame) | ((with_reducible apply wq_lss); (focus rfl); (focus rfl); (focus rfl); go_frame) | ((with_reducible apply wq_leq); (focus rfl); (focus rfl); (focus rfl); go_frame) | ((with_reducible apply wq_gtr); (focus rfl); (focus rfl); (focus rfl); go_frame) | ((with_reducible apply wq_geq); (focus rfl); (focus rfl); (focus rfl); go_frame) | ((with_reducible apply wq_max2); (focus rfl); (focus rfl); (focus rfl); go_frame) | ((with_reducible apply wq_min2); (focus rfl); (focus rfl); (focus rfl); go_frame) | ((with_reducible apply wq_max3); (focus rfl); (focus rfl); (focus rfl); (focus rfl); go_frame) | ((with_reducible apply wq_min3); (focus rfl); (focus rfl); (focus rfl); (focus rfl); go_frame) | go_big_quiet_step (fail))); refine wpQuiet_nil ?_; rintro _ ⟨nq, rfl⟩
  go_wp2
  clear e1 e2 c4
  simp only [Nat.zero_mul, Nat.add_zero]
  go_loopw [11] (fun v wr => ∃ k : Nat, k ≤ (U - L + 1).toNat ∧ v = .int .i64 (L + k) ∧ Hid (∀ x, L ≤ x → x < L + k → tryG0 sl ss left x = none) ∧ Hid (WalkCtx lo hi sl ch (some ⟨b', off', none⟩) cap m ss Bo Bs Bw wr) ∧ Hid (BelX (fun k => k = m ∨ k = Bo) w.heap.size w wr)) (fun v _ => (U + 1 - intOf v).toNat)
  case atStart => exact ⟨0, Nat.zero_le _, by simp, Lib.hid (fun x h1 h2 => by omega), Lib.hid (HC.out.below ⟨rfl, rfl, rfl, Nat.le_refl _, fun _ _ => rfl⟩), Lib.hid (belX_of ⟨rfl, rfl, rfl, Nat.le_refl _, fun _ _ => rfl⟩)⟩
  case round =>
    obtain ⟨k, hk, rfl, HN, HCr, HB⟩ := hrel
    by_cases hlt : k < (U - L + 1).toNat
    · have hle : L + (k : Int) ≤ U := by omega
      obtain ⟨n, hn⟩ : ∃ n, n = L + (k : Int) := ⟨_, rfl⟩
      have hn0 : 0 ≤ n := by omega
      have hn30 : n ≤ 30 := by omega
      have hnU : n ≤ U := by omega
      have d0 := HCr.out.c0
      have d1 := HCr.out.c1
      have d2 := HCr.out.c2
      have d3 := HCr.out.c3
      have d4 := HCr.out.c4
      have d5 := HCr.out.c5
      rw [← hn]
      have HNE := Lib.hid hn
      clear hn
      have hrest := c130 lo hi sl ch (some ⟨b', off', none⟩) cap m ss hlen HSL.out HSP.out (ss.length - 1) 0 n n wr (by omega) ⟨hn0, hn30⟩ ⟨hn0, hn30⟩ HCr.out.rs HCr.out.hm
      rw [show ((0 : Nat) : Int) = 0 from rfl] at hrest
      have HREST := Lib.hid hrest
      clear hrest
      go_wp2_with fail
      refine HREST.out.mono ?_
      rintro e w2 ⟨rfl, hM2, hB2⟩
      have hBow : Bo < wr.heap.size := by obtain ⟨v, hv⟩ := HCr.out.co; exact lt_of_cellq hv
      have hC2 : WalkCtx lo hi sl ch (some ⟨b', off', none⟩) cap m ss Bo Bs Bw w2 := HCr.out.keep (hB2.weak (fun k _ hk => .inl hk)) hM2 (hB2.block Bo hBow HC.out.sw.2.2.1)
      have HB2 := Lib.hid (HB.out.trans ((hB2.mono HB.out.size).weak (fun k _ hk => .inl hk)))
      have HC2 := Lib.hid hC2
      have r1 := restG_range sl ss 0 n n
      clear hM2 hB2 hC2 hBow d0 d1 d2 d3 d4 d5 HREST
      by_cases hgt : restG sl ss 0 n n + 0 > left
      · have HT := Lib.hid (show tryG0 sl ss left n = none from if_pos hgt)
        have hgt : left < restG sl ss 0 n n := by omega
        have hgt' : decide (restG sl ss 0 n n > left) = true := by simp; omega
        go_wp2
        go_roundw
        case rel =>
          refine ⟨k + 1, by omega, by rw [HNE.out]; congr 1; omega, Lib.hid fun x h1 h2 => ?_, HC2, HB2⟩
          by_cases hxn : x = n
          · rw [hxn]; exact HT.out
          · have := HNE.out; exact HN.out x h1 (by omega)
        case measure => have := HNE.out; simp [intOf]; omega
      · have HT := Lib.hid (show tryG0 sl ss left n = wayOut sl ss [n] (left - 0) from if_neg hgt)
        have hgt : restG sl ss 0 n n ≤ left := by omega
        have hgt' : decide (restG sl ss 0 n n > left) = false := by simp; omega
        rw [Int.sub_zero] at HT
        have dw := HC2.out.cw
        have hl1 : 0 ≤ left := HL.out.1
        have hl2 : left < 1000 := HL.out.2
        have hsub : IntKind.i64.wrap (left - 0) = left := by rw [Int.sub_zero]; exact w64 _ (by omega) (by omega)
        have hsub2 : IntKind.i64.wrap left = left := w64 _ (by omega) (by omega)
        obtain ⟨i0, hi0, hz0, hz1, hz2⟩ := info_parts info3
        go_wp2
        have hih : ∀ (g c : Nat) (w4 : World), RdI w4 (some ⟨g, 0, none⟩) [n] → g ≠ Bo → WalkCtx lo hi sl ch (some ⟨b', off', none⟩) cap m ss Bo Bs Bw w4 →
            Calls Tryz.prog 128 #[.slice (some ⟨g, 0, none⟩) 1 c, .int .i64 left, .pointer (some ⟨Bs, 0, none⟩), .pointer (some ⟨Bo, 0, none⟩), .pointer (some ⟨Bw, 0, none⟩)] w4
              (WalkPost lo hi sl ch (some ⟨b', off', none⟩) cap m ss Bo Bs Bw [n] left w4) := by
          intro g c w4 h1 h2 h3
          exact c128_pos lo hi sl ch (some ⟨b', off', none⟩) cap m ss Bo Bs Bw hlen HSL.out HSP.out (ss.length - 1) [n] left (some ⟨g, 0, none⟩) c w4 (by simp; omega) (by simp) (fun j hj => by simp at hj; subst hj; exact ⟨hn0, hn30⟩) ⟨hl1, hl2⟩ h1 (fun a ha => by cases ha; exact h2) h3
        have HIH := Lib.hid hih
        have hap : ∀ (w1 : World) (g c : Nat), ((w2.alloc (.cells #[.int .i64 n] 3)).drew).grownBy w1 (Value.ownBlock (.slice none 0 0)) → w1.ownsRow w2.heap.size 3 1 (.slice (some ⟨g, 0, none⟩) (0 + 1) c) (0 + 1) ([] ++ [.int .i64 n]) →
            RdI w1 (some ⟨g, 0, none⟩) [n] ∧ g ≠ Bo ∧ WalkCtx lo hi sl ch (some ⟨b', off', none⟩) cap m ss Bo Bs Bw w1 ∧ Below w2.heap.size w2 w1 := by
          intro w1 g c hgr hown
          have hb1 : Below w2.heap.size w2 w1 := ((below_alloc1 w2 _).drew).grown hgr (by show w2.heap.size ≤ (w2.alloc _).heap.size; simp) (fun j h => by simp [Value.ownBlock] at h)
          have hrd : RdI w1 (some ⟨g, 0, none⟩) [n] := by
            obtain ⟨p, c', he, hr⟩ := rd_of_own (xs := [n]) hown
            simp only [Value.slice.injEq] at he
            obtain ⟨h1, _, _⟩ := he
            rw [h1]; exact hr
          refine ⟨hrd, ?_, HC2.out.below hb1, hb1⟩
          have h1 := (hown.lt g rfl).1
          obtain ⟨u, hu⟩ := HC2.out.co
          have := lt_of_cellq hu
          simp only at this
          omega
        have HAP := Lib.hid hap
        clear hih hap
        go_region_held3 (fun w' => w'.cell? ⟨Bw, 0, none⟩ = some (.func (.func 128) #[] #[.pointer (some ⟨Bs, 0, none⟩), .pointer (some ⟨Bo, 0, none⟩), .pointer (some ⟨Bw, 0, none⟩)]))
          (first | exact dw | exact dw1 | exact dw3 | exact ((below_alloc1 _ _).cell (lt_of_cellq dw)).trans dw)
          (first
            | (go_at_call 131; refine (c131_nil _).mono ?_; rintro e wc ⟨rfl, rfl⟩)
            | (refine step_append_lies _ (by rfl) _ _ _ (by rfl) w2.heap.size 3 i0 _ 1 8 Tryz.underlying24 hi0 hz0 hz1 hz2 rfl (by omega) (.slice none 0 0) 0 [] (by rfl) (World.ownsRow_nil _ _ _ _) ⟨w2.heap.size, 0, none⟩ 1 1 [.int .i64 n] (by rfl) (by rfl) (news_of w2 _ _) (by simp [Value.oneCell']) (by omega) (by unfold maxLen; omega) (by omega) (by simp) _ rfl ?_
               intro gg capn w1 hown1 hgrow hat hltg
               obtain ⟨hx1, hg1, hc1, hb1⟩ := HAP.out w1 gg capn hgrow hown1
               have dw1 := hc1.cw)
            | (go_at_call 128; (with_reducible refine (HIH.out gg capn _ hx1 hg1 hc1).mono ?_); rintro e w3 ⟨bb, rfl, h3⟩
               have dw3 := h3.2.1.cw))
        all_goals
          have HB3 := Lib.hid (HB2.out.trans (((belX_of hb1).trans (h3.2.2.mono hb1.size)).mono HB2.out.size))
          have H3 := Lib.hid h3
          clear h3 hb1 hx1 hg1 hc1 dw dw1 dw3 hown1 hgrow hat hltg HIH HAP
          cases bb
          · have hnone : wayOut sl ss [n] left = none := by
              rcases H3.out.1 with ⟨_, h⟩ | ⟨h, _⟩
              · exact h
              · cases h
            have HT2 := Lib.hid (HT.out.trans hnone)
            clear hnone
            go_wp2
            go_roundw
            case rel =>
              refine ⟨k + 1, by omega, by rw [HNE.out]; congr 1; omega, Lib.hid fun x h1 h2 => ?_, Lib.hid H3.out.2.1, HB3⟩
              by_cases hxn : x = n
              · rw [hxn]; exact HT2.out
              · have := HNE.out; exact HN.out x h1 (by omega)
            case measure => have := HNE.out; simp [intOf]; omega
          · have hsome : ∃ l, wayOut sl ss [n] left = some l ∧ ∃ p c, w3.cell? ⟨Bo, 0, none⟩ = some (.slice p l.length c) ∧ RdI w3 p l := by
              rcases H3.out.1 with ⟨h, _⟩ | ⟨_, h⟩
              · cases h
              · exact h
            have HS := Lib.hid hsome
            clear hsome
            go_wp2
            go_ret
            obtain ⟨l, h1, h2⟩ := HS.out
            refine ⟨true, rfl, .inr ⟨rfl, l, ?_, h2⟩, H3.out.2.1, HB3.out⟩
            rw [HW.out]
            have hne := HNE.out
            exact rng_findSome _ L U n l rfl (by omega) (by omega) (HT.out.trans h1) (fun x h1 h2 => HN.out x h1 (by omega))
    · obtain rfl : k = (U - L + 1).toNat := by omega
      have hgtU : ¬ L + (((U - L + 1).toNat : Nat) : Int) ≤ U := by omega
      have HNO := Lib.hid (show wayOut sl ss [] left = none by
        rw [HW.out]
        exact rng_findSome_none fun x h1 h2 => HN.out x h1 (by omega))
      go_wp2
      go_ret
      exact ⟨false, rfl, .inl ⟨rfl, HNO.out⟩, HCr.out, HB.out⟩
end Go.Proofs.YtncfgkhbenmpoaaGreatDoor
end

section
namespace Go.Proofs.YtncfgkhbenmpoaaGreatDoor
open Go Go.RowKit Go.Proofs Go.Shelf
set_option linter.unusedVariables false
attribute [local go_sem] imax2 imin2

/-- the search: the first cam of some spans -/
def CamPost (sl ch : Int) (ss : List (Int × Int)) (w : World) (e : Ending) (w' : World) : Prop :=
  (∃ v bb, e = .returned (.tuple #[v, .bool bb]) ∧ ((bb = false ∧ camF sl ch ss = none) ∨ (bb = true ∧ ∃ l, camF sl ch ss = some l ∧ ∃ p c, v = .slice p l.length c ∧ RdI w' p l)))
theorem wayOut_nil (sl : Int) (ss : List (Int × Int)) (left : Int) : wayOut sl ss [] left = camF sl left ss := if_pos rfl

set_option maxRecDepth 100000 in
set_option maxHeartbeats 1000000 in
theorem c86 (lo hi sl ch : Int) (q : Option Addr) (cap m : Nat) (ss : List (Int × Int)) (hlen : ss.length ≤ 1000) (h0 : 0 < ss.length) (hsl : 0 ≤ sl ∧ sl ≤ 30) (hsp : SpOk ss) (w : World) (hch : 0 ≤ ch ∧ ch < 1000) (hx : RdS w q ss) (hm : MapOk w m (restG sl ss)) :
    Calls Tryz.prog 86 #[.agg #[.int .i64 lo, .int .i64 hi, .int .i64 sl, .int .i64 ch, .slice q ss.length cap, .map (some m)]] w fun e w' => CamPost sl ch ss w e w' ∧ BelX (fun k => k = m) w.heap.size w w' := by
  obtain ⟨w0, e0, HS0, a0, a1, a2, a3, a4, a5, b0⟩ := box6 w (.int .i64 lo) (.int .i64 hi) (.int .i64 sl) (.int .i64 ch) (.slice q ss.length cap) (.map (some m)) 110
  obtain ⟨w1, e1, HS1, o0, HO, b1⟩ := box1 w0 (.slice none 0 0) 24
  obtain ⟨w2, e2, HS2, f0, _, b2⟩ := box1 w1 (.func (.func 128) #[] #[.pointer (some ⟨w.heap.size, 0, none⟩), .pointer (some ⟨w0.heap.size, 0, none⟩), .pointer (some ⟨w1.heap.size, 0, none⟩)]) 57
  have b02 := b1.trans (b2.mono b1.size)
  have B := Lib.hid (b0.trans (b02.mono b0.size))
  have s0 := HS0.out
  have s1 := HS1.out
  have s2 := HS2.out
  have hml := hm.lt
  have hctx : WalkCtx lo hi sl ch q cap m ss w0.heap.size w.heap.size w1.heap.size w2 :=
    ⟨(b02.cell (lt_of_cellq a0)).trans a0, (b02.cell (lt_of_cellq a1)).trans a1, (b02.cell (lt_of_cellq a2)).trans a2, (b02.cell (lt_of_cellq a3)).trans a3, (b02.cell (lt_of_cellq a4)).trans a4, (b02.cell (lt_of_cellq a5)).trans a5, f0,
      ⟨_, (b2.cell (lt_of_cellq o0)).trans o0⟩, (b2.frozen (p := ⟨w0.heap.size, 0, none⟩) (lt_of_cellq o0)).trans HO.out, hx.below B.out, hm.below B.out, by omega, fun a ha => by
        obtain ⟨h1, v, hv⟩ := hx.blk h0 a ha
        have h2 := hm.ne (p := ⟨a.block, a.off, none⟩) hv
        simp only at h2
        exact ⟨by omega, h2, by omega⟩⟩
  have HCTX := Lib.hid hctx
  have d3 := hctx.c3
  have dw := hctx.cw
  have S0 := Lib.hid s0
  have S1 := Lib.hid s1
  have S2 := Lib.hid s2
  clear hctx a0 a1 a2 a3 a4 a5 b0 b1 b2 b02 o0 f0 HO s0 s1 s2 hx hm
  go_enter Tryz.func86, Tryz.ntmps86
  go_wp2_with fail
  refine (c128_nil lo hi sl ch q cap m ss w0.heap.size w.heap.size w1.heap.size hlen h0 hsl hsp ch w2 hch HCTX.out).mono ?_
  rintro e w3 ⟨bb, rfl, h3⟩
  obtain ⟨v, hv⟩ := h3.2.1.co
  have H3 := Lib.hid h3
  clear h3 e0 e1 e2 d3 dw
  go_wp2
  go_ret2
  refine ⟨⟨v, bb, rfl, ?_⟩, ?_⟩
  · rcases H3.out.1 with ⟨rfl, h⟩ | ⟨rfl, l, h, p, c, hp, hr⟩
    · exact .inl ⟨rfl, by rw [← wayOut_nil]; exact h⟩
    · refine .inr ⟨rfl, l, by rw [← wayOut_nil]; exact h, p, c, ?_, hr⟩
      rw [hv] at hp; exact Option.some.inj hp
  · have := H3.out.2.2
    refine (belX_of B.out).trans ((this.mono B.out.size).weak (fun k hk hx => ?_))
    rcases hx with hx | hx
    · exact hx
    · have := S0.out; omega
end Go.Proofs.YtncfgkhbenmpoaaGreatDoor
end

section
namespace Go.Proofs.YtncfgkhbenmpoaaGreatDoor
open Go Go.RowKit Go.Proofs Go.Shelf
set_option linter.unusedVariables false
attribute [local go_sem] imax2 imin2

def SearchedPost (lo hi sl ch : Int) (q : Option Addr) (len cap : Nat) (w : World) (e : Ending) (w' : World) : Prop :=
  ∃ m, e = .returned (.agg #[.int .i64 lo, .int .i64 hi, .int .i64 sl, .int .i64 ch, .slice q len cap, .map (some m)]) ∧ w.heap.size ≤ m ∧ (∀ G, MapOk w' m G) ∧ Below w.heap.size w w'
set_option maxRecDepth 100000 in
set_option maxHeartbeats 400000 in
theorem c84 (lo hi sl ch : Int) (q : Option Addr) (len cap : Nat) (w : World) :
    Calls Tryz.prog 84 #[.agg #[.int .i64 lo, .int .i64 hi, .int .i64 sl, .int .i64 ch], .slice q len cap] w (SearchedPost lo hi sl ch q len cap w) := by
  have hmm := @run_makeMap Tryz.prog
  go_enter Tryz.func84, Tryz.ntmps84
  go_wp2
  refine bodyPost_ret (v := .agg #[.int .i64 lo, .int .i64 hi, .int .i64 sl, .int .i64 ch, .slice q len cap, .map (some (w.heap.size + 1 + 1))]) ?_ rfl ⟨_, rfl, by omega, fun G => ?_, ?_⟩
  · simp [results, Tryz.results84, go_sem]
  · have := map_new ((w.alloc (.cells #[.int .i64 lo, .int .i64 hi, .int .i64 sl, .int .i64 ch] 23)).alloc (.cells #[.int .i64 lo, .int .i64 hi, .int .i64 sl, .int .i64 ch, .slice q len cap, .map (some (w.heap.size + 1 + 1))] 110)) G
    simpa using this
  · exact (((Below.refl _ _).alloc (Nat.le_refl _) _).alloc (by simp) _).alloc (by simp; omega) _

theorem leastF_at {ok : Int → Bool} : ∀ (k : Nat) (e e' : Int), e ≤ e' → e' ≤ e + k → ok e' = true → (∀ x, e ≤ x → x < e' → ok x = false) → leastF ok k e = e' := by
  intro k
  induction k with
  | zero => intro e e' h1 h2 _ _; simp only [leastF]; omega
  | succ k ih =>
    intro e e' h1 h2 h3 h4
    simp only [leastF]
    by_cases h : e = e'
    · subst h; rw [if_pos h3]
    · rw [if_neg (by rw [h4 e (by omega) (by omega)]; simp)]
      exact ih (e + 1) e' (by omega) (by omega) h3 (fun x hx1 hx2 => h4 x (by omega) hx2)
theorem near_sp {lo hi sl ch : Int} {want : List Int} {err : Int} (hr : ruleB lo hi sl ch = true) (hw : camB want = true) (he : 0 ≤ err ∧ err ≤ 30) : SpOk (nearF lo hi want err) := by
  intro i hi'
  rw [nearF_length] at hi'
  have h1 := camB_at hw hi'
  have e : gs (nearF lo hi want err) i = (max lo (gi want i - err), min hi (gi want i + err)) := by unfold gs nearF gi; simp [hi']
  rw [e]
  unfold ruleB inB at hr
  simp only [Bool.and_eq_true, decide_eq_true_eq] at hr
  simp only
  omega

def NearestPost (lo hi sl ch : Int) (want : List Int) (w : World) (e : Ending) (w' : World) : Prop :=
  (∃ p c, e = .returned (.tuple #[.slice p (nearestF lo hi sl ch want).1.length c, .int .i64 (nearestF lo hi sl ch want).2, .int .i64 0]) ∧ RdI w' p (nearestF lo hi sl ch want).1) ∧ Below w.heap.size w w'

set_option maxRecDepth 100000 in
set_option maxHeartbeats 2000000 in
theorem c26_ok (lo hi sl ch : Int) (q : Option Addr) (cap : Nat) (want : List Int) (w : World) (hx : RdI w q want) (h1 : ruleB lo hi sl ch = true) (h2 : camB want = true) :
    Calls Tryz.prog 26 #[.agg #[.int .i64 lo, .int .i64 hi, .int .i64 sl, .int .i64 ch], .slice q want.length cap] w (NearestPost lo hi sl ch want w) := by
  have hr := h1
  unfold ruleB inB at hr
  simp only [Bool.and_eq_true, decide_eq_true_eq] at hr
  obtain ⟨w0, e0, HS, k0, k1, k2, k3, b0⟩ := box4 w (.int .i64 lo) (.int .i64 hi) (.int .i64 sl) (.int .i64 ch) 23
  have HX := Lib.hid (hx.below b0)
  have hwl := (camB_parts h2).2.1
  have hwl3 := (camB_parts h2).1
  have H1 := Lib.hid h1
  have H2 := Lib.hid h2
  have HB0 := Lib.hid b0
  have HRU := Lib.hid hr
  have h82 := c82 lo hi sl ch w0
  rw [h1] at h82
  clear hx h1 h2 b0 hr
  go_enter Tryz.func26, Tryz.ntmps26
  go_wp2_with fail
  refine h82.mono ?_
  rintro e w1 ⟨rfl, b1⟩
  clear e0 h82
  have h83 := c83 q cap want w1 (HX.out.below b1) (by omega)
  rw [H2.out] at h83
  go_wp2_with fail
  refine h83.mono ?_
  rintro e w' ⟨rfl, rfl⟩
  have j0 := (b1.cell (lt_of_cellq k0)).trans k0
  have j1 := (b1.cell (lt_of_cellq k1)).trans k1
  have j2 := (b1.cell (lt_of_cellq k2)).trans k2
  have j3 := (b1.cell (lt_of_cellq k3)).trans k3
  have HX1 := Lib.hid (HX.out.below b1)
  have HB1 := Lib.hid (HB0.out.trans (b1.mono HB0.out.size))
  clear k0 k1 k2 k3 b1 h83
  go_wp2
  have HB01 := Lib.hid (Below.refl w1.heap.size w1)
  go_loopw [7, 8] (fun a b wr => ∃ l h : Int, 0 ≤ l ∧ l ≤ h ∧ h ≤ 30 ∧ a = .int .i64 l ∧ b = .int .i64 h ∧ Hid (okF lo hi sl ch want h = true ∧ ∀ x, 0 ≤ x → x < l → okF lo hi sl ch want x = false) ∧ Hid (Below w1.heap.size w1 wr)) (fun a b _ => (intOf b - intOf a).toNat)
  case atStart =>
    have hh := HRU.out
    refine ⟨0, 30, by omega, by omega, by omega, rfl, rfl, Lib.hid ⟨okF_30 (by omega) (by omega) (by omega) (by omega) (by omega) (by omega) (fun x hx => ?_), fun x h1 h2 => by omega⟩, HB01⟩
    obtain ⟨j, hj, rfl⟩ := List.mem_iff_getElem.1 hx
    have := camB_at H2.out hj
    unfold gi at this
    simpa [hj] using this
  case round =>
    obtain ⟨l, h, hl0, hlh, hh30, rfl, rfl, HOK, HB⟩ := hrel
    have hnx := HB.out
    have r0 := (hnx.cell (lt_of_cellq j0)).trans j0
    have r1 := (hnx.cell (lt_of_cellq j1)).trans j1
    have r2 := (hnx.cell (lt_of_cellq j2)).trans j2
    have r3 := (hnx.cell (lt_of_cellq j3)).trans j3
    have HXr := Lib.hid (HX1.out.below hnx)
    clear hnx
    by_cases hlt : l < h
    · have he1 : -1000 ≤ (l + h) / 2 := by omega
      have he2 : (l + h) / 2 ≤ 1000 := by omega
      have HNL := Lib.hid (show (nearF lo hi want ((l + h) / 2)).length ≤ 1000 by rw [nearF_length]; omega)
      have HN0 := Lib.hid (show 0 < (nearF lo hi want ((l + h) / 2)).length by rw [nearF_length]; omega)
      have HSLB := Lib.hid (show 0 ≤ sl ∧ sl ≤ 30 by have := HRU.out; omega)
      have HCHB := Lib.hid (show 0 ≤ ch ∧ ch < 1000 by have := HRU.out; omega)
      have HSPN := Lib.hid (near_sp (err := (l + h) / 2) H1.out H2.out (by omega))
      go_wp2
      go_region_held3 (fun w' => w'.cell? ⟨w.heap.size, 0, none⟩ = some (.int .i64 lo) ∧ w'.cell? ⟨w.heap.size, 1, none⟩ = some (.int .i64 hi) ∧ w'.cell? ⟨w.heap.size, 2, none⟩ = some (.int .i64 sl) ∧ w'.cell? ⟨w.heap.size, 3, none⟩ = some (.int .i64 ch))
          (first | exact ⟨r0, r1, r2, r3⟩ | exact kA | exact kB | exact kC)
          (first
            | (go_at_call 85; (with_reducible refine (c85 lo hi sl ch q cap want ((l + h) / 2) _ (HXr.out.below ((Below.refl _ _).drew)) H2.out ⟨he1, he2⟩).mono ?_); rintro e wa ⟨pa, ca, rfl, hra, hba⟩
               have kA : wa.cell? ⟨w.heap.size, 0, none⟩ = some (.int .i64 lo) ∧ wa.cell? ⟨w.heap.size, 1, none⟩ = some (.int .i64 hi) ∧ wa.cell? ⟨w.heap.size, 2, none⟩ = some (.int .i64 sl) ∧ wa.cell? ⟨w.heap.size, 3, none⟩ = some (.int .i64 ch) :=
                 ⟨(hba.cell (lt_of_cellq r0)).trans r0, (hba.cell (lt_of_cellq r1)).trans r1, (hba.cell (lt_of_cellq r2)).trans r2, (hba.cell (lt_of_cellq r3)).trans r3⟩)
            | (go_at_call 84; (with_reducible refine (c84 lo hi sl ch pa (nearF lo hi want ((l + h) / 2)).length ca _).mono ?_); rintro e wb ⟨m, rfl, hml, hmm, hbb⟩
               have kB : wb.cell? ⟨w.heap.size, 0, none⟩ = some (.int .i64 lo) ∧ wb.cell? ⟨w.heap.size, 1, none⟩ = some (.int .i64 hi) ∧ wb.cell? ⟨w.heap.size, 2, none⟩ = some (.int .i64 sl) ∧ wb.cell? ⟨w.heap.size, 3, none⟩ = some (.int .i64 ch) :=
                 ⟨(hbb.cell (lt_of_cellq kA.1)).trans kA.1, (hbb.cell (lt_of_cellq kA.2.1)).trans kA.2.1, (hbb.cell (lt_of_cellq kA.2.2.1)).trans kA.2.2.1, (hbb.cell (lt_of_cellq kA.2.2.2)).trans kA.2.2.2⟩)
            | (go_at_call 86; (with_reducible refine (c86 lo hi sl ch pa ca m (nearF lo hi want ((l + h) / 2)) HNL.out HN0.out HSLB.out HSPN.out _ HCHB.out (hra.below hbb) (hmm _)).mono ?_); rintro e wc ⟨⟨vv, bb, rfl, hcam⟩, hbc⟩
               have hmz : wa.heap.size ≤ m := hml
               have hwz : w.heap.size < wa.heap.size := lt_of_cellq kA.1
               have kC : wc.cell? ⟨w.heap.size, 0, none⟩ = some (.int .i64 lo) ∧ wc.cell? ⟨w.heap.size, 1, none⟩ = some (.int .i64 hi) ∧ wc.cell? ⟨w.heap.size, 2, none⟩ = some (.int .i64 sl) ∧ wc.cell? ⟨w.heap.size, 3, none⟩ = some (.int .i64 ch) :=
                 ⟨(hbc.cell (lt_of_cellq kB.1) (by show ¬ (w.heap.size = m); omega)).trans kB.1, (hbc.cell (lt_of_cellq kB.2.1) (by show ¬ (w.heap.size = m); omega)).trans kB.2.1, (hbc.cell (lt_of_cellq kB.2.2.1) (by show ¬ (w.heap.size = m); omega)).trans kB.2.2.1, (hbc.cell (lt_of_cellq kB.2.2.2) (by show ¬ (w.heap.size = m); omega)).trans kB.2.2.2⟩))
      have HBC := Lib.hid (show Below w1.heap.size w1 wc by
        have h1 : Below wr.heap.size wr wa := ⟨hba.os, hba.tape, hba.output, hba.size, hba.block⟩
        have h2 := h1.trans (hbb.mono h1.size)
        have h3 := hbc.below (B' := wr.heap.size) h2.size (fun k hk => by subst hk; have := h1.size; omega)
        exact HB.out.trans ((h2.trans h3).mono HB.out.size))
      have HCAM := Lib.hid hcam
      clear r0 r1 r2 r3 kA kB kC hra hba hbb hmm hml hbc hcam hmz hwz
      have hl0' : 0 ≤ (l + h) / 2 := by omega
      have hlm : l ≤ (l + h) / 2 := by omega
      have hmh : (l + h) / 2 < h := by omega
      cases bb
      · have HF := Lib.hid (show okF lo hi sl ch want ((l + h) / 2) = false by
          rcases HCAM.out with ⟨_, h⟩ | ⟨h, _⟩
          · unfold okF; rw [h]; rfl
          · cases h)
        go_wp2
        go_roundw
        case rel =>
          refine ⟨(l + h) / 2 + 1, h, by omega, by omega, by omega, by go_num, rfl, Lib.hid ⟨HOK.out.1, fun x h1 h2 => ?_⟩, HBC⟩
          cases hx : okF lo hi sl ch want x with
          | false => rfl
          | true =>
            have := okF_mono (by have := HCHB.out; omega) (show x ≤ (l + h) / 2 by omega) hx
            rw [HF.out] at this; cases this
        case measure => simp [intOf]; omega
      · have HF := Lib.hid (show okF lo hi sl ch want ((l + h) / 2) = true by
          rcases HCAM.out with ⟨h, _⟩ | ⟨_, l', h, _⟩
          · cases h
          · unfold okF; rw [h]; rfl)
        go_wp2
        go_roundw
        case rel => exact ⟨l, (l + h) / 2, by omega, by omega, by omega, rfl, rfl, Lib.hid ⟨HF.out, HOK.out.2⟩, HBC⟩
        case measure => simp [intOf]; omega
    · obtain rfl : l = h := by omega
      have he1 : -1000 ≤ l := by omega
      have he2 : l ≤ 1000 := by omega
      have HNL := Lib.hid (show (nearF lo hi want l).length ≤ 1000 by rw [nearF_length]; omega)
      have HN0 := Lib.hid (show 0 < (nearF lo hi want l).length by rw [nearF_length]; omega)
      have HSLB := Lib.hid (show 0 ≤ sl ∧ sl ≤ 30 by have := HRU.out; omega)
      have HCHB := Lib.hid (show 0 ≤ ch ∧ ch < 1000 by have := HRU.out; omega)
      have HSPN := Lib.hid (near_sp (err := l) H1.out H2.out (by omega))
      have HLE := Lib.hid (leastF_at (ok := okF lo hi sl ch want) 30 0 l hl0 (by omega) HOK.out.1 (fun x h1 h2 => HOK.out.2 x h1 h2))
      go_wp2
      go_region_held3 (fun w' => w'.cell? ⟨w.heap.size, 0, none⟩ = some (.int .i64 lo) ∧ w'.cell? ⟨w.heap.size, 1, none⟩ = some (.int .i64 hi) ∧ w'.cell? ⟨w.heap.size, 2, none⟩ = some (.int .i64 sl) ∧ w'.cell? ⟨w.heap.size, 3, none⟩ = some (.int .i64 ch))
          (first | exact ⟨r0, r1, r2, r3⟩ | exact kA | exact kB | exact kC)
          (first
            | (go_at_call 85; (with_reducible refine (c85 lo hi sl ch q cap want (l) _ (HXr.out.below ((Below.refl _ _).drew)) H2.out ⟨he1, he2⟩).mono ?_); rintro e wa ⟨pa, ca, rfl, hra, hba⟩
               have kA : wa.cell? ⟨w.heap.size, 0, none⟩ = some (.int .i64 lo) ∧ wa.cell? ⟨w.heap.size, 1, none⟩ = some (.int .i64 hi) ∧ wa.cell? ⟨w.heap.size, 2, none⟩ = some (.int .i64 sl) ∧ wa.cell? ⟨w.heap.size, 3, none⟩ = some (.int .i64 ch) :=
                 ⟨(hba.cell (lt_of_cellq r0)).trans r0, (hba.cell (lt_of_cellq r1)).trans r1, (hba.cell (lt_of_cellq r2)).trans r2, (hba.cell (lt_of_cellq r3)).trans r3⟩)
            | (go_at_call 84; (with_reducible refine (c84 lo hi sl ch pa (nearF lo hi want (l)).length ca _).mono ?_); rintro e wb ⟨m, rfl, hml, hmm, hbb⟩
               have kB : wb.cell? ⟨w.heap.size, 0, none⟩ = some (.int .i64 lo) ∧ wb.cell? ⟨w.heap.size, 1, none⟩ = some (.int .i64 hi) ∧ wb.cell? ⟨w.heap.size, 2, none⟩ = some (.int .i64 sl) ∧ wb.cell? ⟨w.heap.size, 3, none⟩ = some (.int .i64 ch) :=
                 ⟨(hbb.cell (lt_of_cellq kA.1)).trans kA.1, (hbb.cell (lt_of_cellq kA.2.1)).trans kA.2.1, (hbb.cell (lt_of_cellq kA.2.2.1)).trans kA.2.2.1, (hbb.cell (lt_of_cellq kA.2.2.2)).trans kA.2.2.2⟩)
            | (go_at_call 86; (with_reducible refine (c86 lo hi sl ch pa ca m (nearF lo hi want (l)) HNL.out HN0.out HSLB.out HSPN.out _ HCHB.out (hra.below hbb) (hmm _)).mono ?_); rintro e wc ⟨⟨vv, bb, rfl, hcam⟩, hbc⟩
               have hmz : wa.heap.size ≤ m := hml
               have hwz : w.heap.size < wa.heap.size := lt_of_cellq kA.1
               have kC : wc.cell? ⟨w.heap.size, 0, none⟩ = some (.int .i64 lo) ∧ wc.cell? ⟨w.heap.size, 1, none⟩ = some (.int .i64 hi) ∧ wc.cell? ⟨w.heap.size, 2, none⟩ = some (.int .i64 sl) ∧ wc.cell? ⟨w.heap.size, 3, none⟩ = some (.int .i64 ch) :=
                 ⟨(hbc.cell (lt_of_cellq kB.1) (by show ¬ (w.heap.size = m); omega)).trans kB.1, (hbc.cell (lt_of_cellq kB.2.1) (by show ¬ (w.heap.size = m); omega)).trans kB.2.1, (hbc.cell (lt_of_cellq kB.2.2.1) (by show ¬ (w.heap.size = m); omega)).trans kB.2.2.1, (hbc.cell (lt_of_cellq kB.2.2.2) (by show ¬ (w.heap.size = m); omega)).trans kB.2.2.2⟩))
      have HBC := Lib.hid (show Below w1.heap.size w1 wc by
        have h1 : Below wr.heap.size wr wa := ⟨hba.os, hba.tape, hba.output, hba.size, hba.block⟩
        have h2 := h1.trans (hbb.mono h1.size)
        have h3 := hbc.below (B' := wr.heap.size) h2.size (fun k hk => by subst hk; have := h1.size; omega)
        exact HB.out.trans ((h2.trans h3).mono HB.out.size))
      have HCAM := Lib.hid hcam
      clear r0 r1 r2 r3 kA kB kC hra hba hbb hmm hml hbc hcam hmz hwz
      obtain ⟨rfl, cam, hc1, pp, cc, rfl, hrd⟩ : bb = true ∧ ∃ l', camF sl ch (nearF lo hi want l) = some l' ∧ ∃ p c, vv = .slice p l'.length c ∧ RdI wc p l' := by
        rcases HCAM.out with ⟨_, h⟩ | h
        · have := HOK.out.1; unfold okF at this; rw [h] at this; cases this
        · exact h
      have HRD := Lib.hid hrd
      have HN := Lib.hid (show nearestF lo hi sl ch want = (cam, l) by unfold nearestF; simp only; rw [HLE.out, hc1]; rfl)
      clear hrd hc1 HCAM
      go_wp2
      go_ret3
      exact ⟨⟨pp, cc, by rw [HN.out]; rfl, by rw [HN.out]; exact HRD.out⟩, HB1.out.trans (HBC.out.mono HB1.out.size)⟩
end Go.Proofs.YtncfgkhbenmpoaaGreatDoor
end

section
namespace Go.Proofs.YtncfgkhbenmpoaaGreatDoor
open Go Go.RowKit Go.Proofs
set_option linter.unusedVariables false

section
variable {P : Program}
theorem run_copy_sz (w : World) (dT sT ty elem : TypeId) (sz g o dLen dCap : Nat) (a : Addr) (sLen sCap : Nat) (cur : Array Value) (t : TypeId) (cs : List Value)
    (hu : P.underlying dT = some (.slice elem)) (hs : (P.info? elem).map (·.size) = some sz)
    (hg : w.heap[g]? = some (.cells cur t (0, 0))) (hn : cs.length = Nat.min sLen dLen * sz)
    (hsrc : ∀ j v, cs[j]? = some v → w.cell? (a.add j) = some v) (hfit : o + cs.length ≤ cur.size) (h1 : ∀ v ∈ cs, v.oneCell' = true) :
    (Builtin.copy_ #[dT, sT] ty #[.slice (some ⟨g, o, none⟩) dLen dCap, .slice (some a) sLen sCap]).run P w =
      .ok (goInt (Nat.min sLen dLen)) (w.setRow g (cur.toList.take o ++ cs ++ cur.toList.drop (o + cs.length)).toArray) := by
  have hl := run_loadCells_list (P := P) w a cs hsrc
  have hst := run_storeCells_at P g o t cs 0 cur w hg (by simpa using hfit) h1
  cases hq : P.info? elem with
  | none => simp [hq] at hs
  | some i =>
    have hi : i.size = sz := by simpa [hq] using hs
    simp [Builtin.copy_, run_underlying hu, Builtin.lenOf, Builtin.firstCells, sizeOf, typeInfo, hq, hi, ← hn, hl, hst]

/-- the same, said of the world behind it -/
theorem run_copy_ex (w : World) (dT sT ty elem : TypeId) (sz g o dLen dCap : Nat) (a : Addr) (sLen sCap N : Nat) (cur : List Value) (t : TypeId) (cs : List Value)
    (hu : P.underlying dT = some (.slice elem)) (hs : (P.info? elem).map (·.size) = some sz)
    (hg : w.heap[g]? = some (.cells cur.toArray t (0, 0))) (hN : Nat.min sLen dLen = N) (hn : cs.length = N * sz)
    (hsrc : ∀ j v, cs[j]? = some v → w.cell? (a.add j) = some v) (hfit : o + cs.length ≤ cur.length) (h1 : ∀ v ∈ cs, v.oneCell' = true) (B : Nat) (w0 : World) (hb : Below B w0 w) (hBg : B ≤ g) :
    ∃ w', (Builtin.copy_ #[dT, sT] ty #[.slice (some ⟨g, o, none⟩) dLen dCap, .slice (some a) sLen sCap]).run P w = .ok (.int .i64 (N : Int)) w' ∧
      w'.heap[g]? = some (.cells (splice cur o cs).toArray t (0, 0)) ∧ Below B w0 w' := by
  have h := run_copy_sz (P := P) w dT sT ty elem sz g o dLen dCap a sLen sCap cur.toArray t cs hu hs hg (by rw [hN]; exact hn) hsrc (by simpa using hfit) h1
  rw [hN] at h
  refine ⟨_, h, ?_, below_setRow hb hBg _⟩
  rw [setRow_heap w g _ _ t _ hg]
  simp [splice]
end

/-- so many copies of some cells -/
def repC (c : List Value) : Nat → List Value
  | 0 => []
  | k + 1 => c ++ repC c k
theorem repC_length (c : List Value) (k : Nat) : (repC c k).length = k * c.length := by
  induction k with
  | zero => simp [repC]
  | succ k ih => simp only [repC, List.length_append, ih]; rw [Nat.succ_mul]; omega
theorem repC_add (c : List Value) (k l : Nat) : repC c (k + l) = repC c k ++ repC c l := by
  induction k with
  | zero => simp [repC]
  | succ k ih => rw [show k + 1 + l = (k + l) + 1 by omega]; simp only [repC, ih, List.append_assoc]
theorem repC_mem {c : List Value} {k : Nat} {v : Value} (h : v ∈ repC c k) : v ∈ c := by
  induction k with
  | zero => simp [repC] at h
  | succ k ih => simp only [repC, List.mem_append] at h; rcases h with h | h; exact h; exact ih h
/-- a row of which the first k copies are laid -/
def fillC (c z : List Value) (n k : Nat) : List Value := repC c k ++ repC z (n - k)
theorem fillC_length (c z : List Value) (hz : z.length = c.length) (n k : Nat) (hk : k ≤ n) : (fillC c z n k).length = n * c.length := by
  unfold fillC; rw [List.length_append, repC_length, repC_length, hz, ← Nat.add_mul]; congr 1; omega
theorem fillC_splice (c z : List Value) (hz : z.length = c.length) (n k m : Nat) (h : k + m ≤ n) : splice (fillC c z n k) (k * c.length) (repC c m) = fillC c z n (k + m) := by
  unfold splice fillC
  have e1 : (repC c k ++ repC z (n - k)).take (k * c.length) = repC c k := by
    rw [List.take_append_of_le_length (by rw [repC_length]; exact Nat.le_refl _), List.take_of_length_le (by rw [repC_length]; exact Nat.le_refl _)]
  have e2 : (repC c k ++ repC z (n - k)).drop (k * c.length + (repC c m).length) = repC z (n - (k + m)) := by
    rw [repC_length, show n - k = m + (n - (k + m)) by omega, repC_add, ← List.append_assoc]
    rw [List.drop_append_of_le_length (by rw [List.length_append, repC_length, repC_length, hz]; exact Nat.le_refl _), List.drop_of_length_le (by rw [List.length_append, repC_length, repC_length, hz]; exact Nat.le_refl _)]
    simp
  rw [e1, e2, repC_add, List.append_assoc]
theorem fillC_get (c z : List Value) (n k : Nat) (hk : k ≤ n) (m : Nat) (hm : m ≤ k) : ∀ (j : Nat) (v : Value), (repC c m)[j]? = some v → (fillC c z n k)[j]? = some v := by
  intro j v h
  unfold fillC
  rw [show k = m + (k - m) by omega, repC_add, List.append_assoc, List.getElem?_append_left (by rw [List.getElem?_eq_some_iff] at h; exact h.1)]
  exact h
theorem fillC_zero (c z : List Value) (n : Nat) : fillC c z n 0 = repC z n := by simp [fillC, repC]
theorem fillC_full (c z : List Value) (n : Nat) : fillC c z n n = repC c n := by simp [fillC, repC]
theorem cell_of_list {w : World} {g : Nat} {cur : List Value} {t : TypeId} (hg : w.heap[g]? = some (.cells cur.toArray t (0, 0))) {j : Nat} {v : Value} (h : cur[j]? = some v) : w.cell? ⟨g, j, none⟩ = some v := by
  simp only [World.cell?, hg]
  simpa using h

theorem made_all (z : Array Value) (v : Value) (hz : ∀ j, z[j % z.size]! = v) (n : Nat) : (madeCells z n).toList = List.replicate n v := by
  rw [List.eq_replicate_iff]
  refine ⟨by simp [madeCells], fun b hb => ?_⟩
  unfold madeCells at hb
  simp only [Array.toList_map, List.mem_map] at hb
  obtain ⟨j, _, rfl⟩ := hb
  exact hz j
theorem repC_rep (v : Value) (m n : Nat) : repC (List.replicate m v) n = List.replicate (n * m) v := by
  induction n with
  | zero => simp [repC]
  | succ n ih => simp only [repC, ih]; rw [List.replicate_append_replicate, Nat.succ_mul]; congr 1; omega
theorem made1 (n : Nat) : (madeCells #[Value.int .i64 0] n).toList = repC [.int .i64 0] n := by
  rw [made_all _ (.int .i64 0) (fun j => by rw [show (#[Value.int .i64 0] : Array Value).size = 1 from rfl, Nat.mod_one]; rfl)]
  have := repC_rep (.int .i64 0) 1 n
  rw [Nat.mul_one] at this
  exact this.symm
theorem made2 (n : Nat) : (madeCells #[Value.int .i64 0, Value.int .i64 0] (n * 2)).toList = repC [.int .i64 0, .int .i64 0] n := by
  rw [made_all _ (.int .i64 0) (fun j => by
    rw [show (#[Value.int .i64 0, Value.int .i64 0] : Array Value).size = 2 from rfl]
    rcases Nat.mod_two_eq_zero_or_one j with e | e <;> rw [e] <;> rfl)]
  exact (repC_rep (.int .i64 0) 2 n).symm
end Go.Proofs.YtncfgkhbenmpoaaGreatDoor
end

section
namespace Go.Proofs
open Go.Shelf
def Tryz.lays156_ren : Go.Shelf.Ren := ⟨fun | 156 => 146 | 165 => 159 | 166 => 160 | 169 => 161 | 240 => 168 | 241 => 169 | 276 => 177 | 277 => 178 | n => n, fun | 31 => 138 | 9 => 9 | 3 => 3 | 4 => 4 | 0 => 0 | 20 => 20 | 72 => 185 | 76 => 189 | 70 => 183 | 37 => 102 | 75 => 188 | 127 => 200 | 164 => 208 | 5 => 5 | 80 => 191 | n => n, fun | n => n⟩
theorem Tryz.lays156 : Go.Proofs.Lays.n156 Tryz.prog Tryz.lays156_ren := {
  mixed := by kernel_rfl
  f156 := Tryz.func146.trans (congrArg some (by kernel_rfl))
  f165 := Tryz.func159.trans (congrArg some (by kernel_rfl))
  f166 := Tryz.func160.trans (congrArg some (by kernel_rfl))
  f169 := Tryz.func161.trans (congrArg some (by kernel_rfl))
  f240 := Tryz.func168.trans (congrArg some (by kernel_rfl))
  f241 := Tryz.func169.trans (congrArg some (by kernel_rfl))
  f276 := Tryz.func177.trans (congrArg some (by kernel_rfl))
  f277 := Tryz.func178.trans (congrArg some (by kernel_rfl))
  t0 := Tryz.underlying0
  a0 := Tryz.isAgg0
  z0 := Tryz.sizeOf0
  v0 := Tryz.zeroValue0
  t3 := Tryz.underlying3
  a3 := Tryz.isAgg3
  z3 := Tryz.sizeOf3
  v3 := Tryz.zeroValue3
  t4 := Tryz.underlying4
  a4 := Tryz.isAgg4
  z4 := Tryz.sizeOf4
  v4 := Tryz.zeroValue4
  t9 := Tryz.underlying9
  a9 := Tryz.isAgg9
  z9 := Tryz.sizeOf9
  v9 := Tryz.zeroValue9
  t20 := Tryz.underlying20
  a20 := Tryz.isAgg20
  z20 := Tryz.sizeOf20
  v20 := Tryz.zeroValue20
  t31 := Tryz.underlying138
  a31 := Tryz.isAgg138
  z31 := Tryz.sizeOf138
  v31 := Tryz.zeroValue138
  t37 := Tryz.underlying102
  a37 := Tryz.isAgg102
  z37 := Tryz.sizeOf102
  v37 := Tryz.zeroValue102
  t70 := Tryz.underlying183
  a70 := Tryz.isAgg183
  z70 := Tryz.sizeOf183
  v70 := Tryz.zeroValue183
  t72 := Tryz.underlying185
  a72 := Tryz.isAgg185
  z72 := Tryz.sizeOf185
  v72 := Tryz.zeroValue185
  t75 := Tryz.underlying188
  a75 := Tryz.isAgg188
  z75 := Tryz.sizeOf188
  v75 := Tryz.zeroValue188
  t76 := Tryz.underlying189
  a76 := Tryz.isAgg189
  z76 := Tryz.sizeOf189
  v76 := Tryz.zeroValue189
  t127 := Tryz.underlying200
  a127 := Tryz.isAgg200
  z127 := Tryz.sizeOf200
  v127 := Tryz.zeroValue200
  t164 := Tryz.underlying208
  a164 := Tryz.isAgg208
  z164 := Tryz.sizeOf208
  v164 := Tryz.zeroValue208 }
theorem Tryz.Builder_Extra_156 : Builder.Extra Tryz.prog Tryz.lays156_ren := {
  sizeBuilder := by kernel_rfl
  liesBuilder := by kernel_rfl
  t5 := Tryz.underlying5
  a5 := Tryz.isAgg5
  z5 := Tryz.sizeOf5
  v5 := Tryz.zeroValue5
  infoByte := by kernel_rfl
  cellsByte := by kernel_rfl
  sizeByte := by kernel_rfl
  neB5 := by decide }
open Go.RowKit in
/-- No element: the empty string; the world is as it was. (Whatever the slice's address and capacity: a nil slice too.) (LAID: no walk: one application.) -/
theorem Tryz.strings_Join_none (a : Option Addr) (c : Nat) (sep : ByteArray) (w : World) :
    Calls Tryz.prog 146 #[.slice a 0 c, .string sep] w fun e w' => e = .returned (.string ⟨#[]⟩) ∧ w' = w := Any.strings_Join_none Tryz.lays156 Tryz.Builder_Extra_156 a c sep w
open Go.RowKit in
/-- strings.Join: "Join concatenates the elements of its first argument to create a single string. The separator string sep is placed between elements in the resulting string.": HOWEVER MANY ELEMENTS. Below the heap's end the world is as it was. (LAID: no walk: one application.) -/
theorem Tryz.strings_Join (bk o c : Nat) (xs : List ByteArray) (sep : ByteArray) (w : World) (hcells : ∀ (j : Nat) x, xs[j]? = some x → w.cell? ⟨bk, o + j, none⟩ = some (.string x)) (hbk : bk < w.heap.size) (hN : xs.length ≤ 140737488355328) (hcap : xs.length ≤ c) (hlen : (Lib.join (xs.map (·.data.toList)) sep.data.toList).length ≤ 140737488355328) :
    Calls Tryz.prog 146 #[.slice (some ⟨bk, o, none⟩) xs.length c, .string sep] w fun e w' => e = .returned (.string ⟨(Lib.join (xs.map (·.data.toList)) sep.data.toList).toArray⟩) ∧ Below w.heap.size w w' := Any.strings_Join Tryz.lays156 Tryz.Builder_Extra_156 bk o c xs sep w hcells hbk hN hcap hlen
def Tryz.lays171_ren : Go.Shelf.Ren := ⟨fun | 171 => 145 | 243 => 158 | 246 => 167 | 283 => 173 | 284 => 174 | 285 => 175 | 286 => 176 | 129 => 184 | 317 => 183 | 318 => 185 | 319 => 186 | 320 => 187 | 337 => 193 | 338 => 194 | n => n, fun | 3 => 3 | 9 => 9 | 2 => 2 | 4 => 4 | 171 => 203 | 0 => 0 | 53 => 196 | 37 => 102 | 5 => 5 | 173 => 206 | 212 => 215 | 51 => 193 | 20 => 20 | 213 => 216 | 46 => 173 | 232 => 224 | 233 => 225 | n => n, fun | 17 => 0 | 18 => 4 | 19 => 5 | n => n⟩
theorem Tryz.lays171 : Go.Proofs.Lays.n171 Tryz.prog Tryz.lays171_ren := {
  mixed := by kernel_rfl
  f129 := Tryz.func184.trans (congrArg some (by kernel_rfl))
  f171 := Tryz.func145.trans (congrArg some (by kernel_rfl))
  f243 := Tryz.func158.trans (congrArg some (by kernel_rfl))
  f246 := Tryz.func167.trans (congrArg some (by kernel_rfl))
  f283 := Tryz.func173.trans (congrArg some (by kernel_rfl))
  f284 := Tryz.func174.trans (congrArg some (by kernel_rfl))
  f285 := Tryz.func175.trans (congrArg some (by kernel_rfl))
  f286 := Tryz.func176.trans (congrArg some (by kernel_rfl))
  f317 := Tryz.func183.trans (congrArg some (by kernel_rfl))
  f318 := Tryz.func185.trans (congrArg some (by kernel_rfl))
  f319 := Tryz.func186.trans (congrArg some (by kernel_rfl))
  f320 := Tryz.func187.trans (congrArg some (by kernel_rfl))
  f337 := Tryz.func193.trans (congrArg some (by kernel_rfl))
  f338 := Tryz.func194.trans (congrArg some (by kernel_rfl))
  t0 := Tryz.underlying0
  a0 := Tryz.isAgg0
  z0 := Tryz.sizeOf0
  v0 := Tryz.zeroValue0
  t2 := Tryz.underlying2
  a2 := Tryz.isAgg2
  z2 := Tryz.sizeOf2
  v2 := Tryz.zeroValue2
  t3 := Tryz.underlying3
  a3 := Tryz.isAgg3
  z3 := Tryz.sizeOf3
  v3 := Tryz.zeroValue3
  t4 := Tryz.underlying4
  a4 := Tryz.isAgg4
  z4 := Tryz.sizeOf4
  v4 := Tryz.zeroValue4
  t5 := Tryz.underlying5
  a5 := Tryz.isAgg5
  z5 := Tryz.sizeOf5
  v5 := Tryz.zeroValue5
  t9 := Tryz.underlying9
  a9 := Tryz.isAgg9
  z9 := Tryz.sizeOf9
  v9 := Tryz.zeroValue9
  t20 := Tryz.underlying20
  a20 := Tryz.isAgg20
  z20 := Tryz.sizeOf20
  v20 := Tryz.zeroValue20
  t37 := Tryz.underlying102
  a37 := Tryz.isAgg102
  z37 := Tryz.sizeOf102
  v37 := Tryz.zeroValue102
  t46 := Tryz.underlying173
  a46 := Tryz.isAgg173
  z46 := Tryz.sizeOf173
  v46 := Tryz.zeroValue173
  t51 := Tryz.underlying193
  a51 := Tryz.isAgg193
  z51 := Tryz.sizeOf193
  v51 := Tryz.zeroValue193
  t53 := Tryz.underlying196
  a53 := Tryz.isAgg196
  z53 := Tryz.sizeOf196
  v53 := Tryz.zeroValue196
  t171 := Tryz.underlying203
  a171 := Tryz.isAgg203
  z171 := Tryz.sizeOf203
  v171 := Tryz.zeroValue203
  t173 := Tryz.underlying206
  a173 := Tryz.isAgg206
  z173 := Tryz.sizeOf206
  v173 := Tryz.zeroValue206
  t212 := Tryz.underlying215
  a212 := Tryz.isAgg215
  z212 := Tryz.sizeOf215
  v212 := Tryz.zeroValue215
  t213 := Tryz.underlying216
  a213 := Tryz.isAgg216
  z213 := Tryz.sizeOf216
  t232 := Tryz.underlying224
  a232 := Tryz.isAgg224
  z232 := Tryz.sizeOf224
  v232 := Tryz.zeroValue224
  t233 := Tryz.underlying225
  a233 := Tryz.isAgg225
  z233 := Tryz.sizeOf225
  v233 := Tryz.zeroValue225
  g17 := by kernel_rfl
  g18 := by kernel_rfl
  g19 := by kernel_rfl }
open Go.RowKit Go.Sort Go.Lib in
/-- THE ROAD WITHOUT THE TABLE: 0 <= i < 100: NO PREMISE ON THE WORLD, AND THE WORLD IS AS IT WAS: a row that keeps its argument in that range need list no table ('laid = []'). (LAID: no walk: one application.) -/
theorem Tryz.strconv_Itoa_small (i : Nat) (hi : i < 100) (w : World) :
    Calls Tryz.prog 145 #[.int .i64 i] w fun e w' => e = .returned (.string ⟨(Lib.decDigits i).toArray⟩) ∧ w' = w := Any.strconv_Itoa_small Tryz.lays171 i hi w
def Tryz.lays212_ren : Go.Shelf.Ren := ⟨fun | 212 => 152 | 263 => 164 | 264 => 165 | n => n, fun | 46 => 173 | 51 => 193 | 146 => 194 | 53 => 196 | 148 => 197 | n => n, fun | n => n⟩
theorem Tryz.lays212 : Go.Proofs.Lays.n212 Tryz.prog Tryz.lays212_ren := {
  mixed := by kernel_rfl
  f212 := Tryz.func152.trans (congrArg some (by kernel_rfl))
  f263 := Tryz.func164.trans (congrArg some (by kernel_rfl))
  f264 := Tryz.func165.trans (congrArg some (by kernel_rfl))
  t46 := Tryz.underlying173
  a46 := Tryz.isAgg173
  z46 := Tryz.sizeOf173
  v46 := Tryz.zeroValue173
  t51 := Tryz.underlying193
  a51 := Tryz.isAgg193
  z51 := Tryz.sizeOf193
  v51 := Tryz.zeroValue193
  t53 := Tryz.underlying196
  a53 := Tryz.isAgg196
  z53 := Tryz.sizeOf196
  v53 := Tryz.zeroValue196
  t146 := Tryz.underlying194
  a146 := Tryz.isAgg194
  z146 := Tryz.sizeOf194
  v146 := Tryz.zeroValue194
  t148 := Tryz.underlying197
  a148 := Tryz.isAgg197
  z148 := Tryz.sizeOf197
  v148 := Tryz.zeroValue197 }
open Go.RowKit Go.Lib in
/-- math/bits.Mul: "Mul returns the full-width product of x and y": on a machine of 64 bits: Mul64's. (LAID: no walk: one application.) -/
theorem Tryz.bits_Mul (x y : Nat) (hx : x < 18446744073709551616) (hy : y < 18446744073709551616) (w : World) :
    Calls Tryz.prog 152 #[.int .u64 x, .int .u64 y] w fun e w' => e = .returned (.tuple #[.int .u64 ((x * y / 18446744073709551616 : Nat) : Int), .int .u64 ((x * y % 18446744073709551616 : Nat) : Int)]) ∧ w' = w := Any.bits_Mul Tryz.lays212 x y hx hy w
end Go.Proofs
end

section
namespace Go.Proofs.YtncfgkhbenmpoaaGreatDoor
open Go Go.RowKit Go.Proofs
set_option linter.unusedVariables false

theorem mul1 (n : Nat) (hn : n ≤ 1000) (w : World) : Calls Tryz.prog 152 #[.int .u64 1, .int .u64 (n : Int)] w fun e w' => e = .returned (.tuple #[.int .u64 0, .int .u64 (n : Int)]) ∧ w = w' := by
  have h := Tryz.bits_Mul 1 n (by omega) (by omega) w
  refine h.mono ?_
  rintro e w' ⟨rfl, rfl⟩
  refine ⟨?_, rfl⟩
  rw [show 1 * n / 18446744073709551616 = 0 by omega, show 1 * n % 18446744073709551616 = n by omega]
  rfl

set_option maxRecDepth 100000 in
theorem make24 (n : Nat) (hn : n ≤ 1000) (w : World) : (Instr.makeSlice 24 (.int .i64 (n : Int)) (.int .i64 (n : Int))).run Tryz.prog w = .ok (.slice (some ⟨w.heap.size, 0, none⟩) n n) (w.alloc (.cells (repC [.int .i64 0] n).toArray 3)) := by
  obtain ⟨i0, hi0, hz0, hz1, hz2⟩ := info_parts info3
  have h := run_make (P := Tryz.prog) w 24 3 i0 _ Tryz.underlying24 hi0 hz0 .i64 .i64 (n : Int) (n : Int) (by omega) (Int.le_refl _) (by rw [hz2]; omega) (by omega)
  simp only [Int.toNat_natCast, hz1] at h
  rw [h]
  congr 3
  rw [← made1 n]
  simp
  rfl
def RepPost136 (v : Int) (n : Nat) (w : World) (e : Ending) (w' : World) : Prop :=
  ∃ g, e = .returned (.slice (some ⟨g, 0, none⟩) n n) ∧ w.heap.size ≤ g ∧ w'.heap[g]? = some (.cells (repC [.int .i64 v] n).toArray 3 (0, 0)) ∧ Below w.heap.size w w'
set_option maxRecDepth 100000 in
set_option maxHeartbeats 1000000 in
theorem c136 (b off cap : Nat) (v : Int) (n : Nat) (h1 : 1 ≤ n) (hn : n ≤ 1000) (w : World) (hsrc : ∀ j u, ([.int .i64 v] : List Value)[j]? = some u → w.cell? ((⟨b, off, none⟩ : Addr).add j) = some u) :
    Calls Tryz.prog 136 #[.slice (some ⟨b, off, none⟩) 1 cap, .int .i64 n] w (RepPost136 v n w) := by
  have hmul := mul1 n hn
  have hmk := make24 n hn
  have hg1 : decide ((n : Int) > 9223372036854775807) = false := by simp; omega
  have hg0 : decide ((n : Int) < 0) = false := by simp
  have hu : IntKind.u64.wrap (n : Int) = (n : Int) := by rw [IntKind.wrap_u64]; omega
  have hu1 : IntKind.u64.wrap 1 = 1 := by rw [IntKind.wrap_u64]; omega
  have HS := Lib.hid hsrc
  have HC1 := Lib.hid (show ∀ u ∈ ([.int .i64 v] : List Value), u.oneCell' = true by intro u hu; simp at hu; subst hu; rfl)
  clear hsrc
  go_enter Tryz.func136, Tryz.ntmps136
  obtain ⟨w1, hcp, hw1, hb1⟩ : ∃ w1, (Builtin.copy_ #[24, 24] 3 #[.slice (some ⟨w.heap.size, 0, none⟩) n n, .slice (some ⟨b, off, none⟩) 1 cap]).run Tryz.prog (w.alloc (.cells (repC [.int .i64 0] n).toArray 3)) = .ok (.int .i64 1) w1 ∧
      w1.heap[w.heap.size]? = some (.cells (fillC [.int .i64 v] [.int .i64 0] n 1).toArray 3 (0, 0)) ∧ Below w.heap.size w w1 := by
    have h := run_copy_ex (P := Tryz.prog) (w.alloc (.cells (repC [.int .i64 0] n).toArray 3)) 24 24 3 3 1 w.heap.size 0 n n ⟨b, off, none⟩ 1 cap 1 (repC [.int .i64 0] n) 3 [.int .i64 v] Tryz.underlying24 sz3 (alloc_new _ _) (Nat.min_eq_left h1) rfl
      (fun j u hj => ((below_alloc1 w _).cell (lt_of_cellq (HS.out j u hj))).trans (HS.out j u hj)) (by simp [repC_length]; omega) HC1.out w.heap.size w (below_alloc1 _ _) (Nat.le_refl _)
    have e := fillC_splice [.int .i64 v] [.int .i64 0] rfl n 0 1 (by omega)
    rw [Nat.zero_mul, Nat.zero_add, show repC [.int .i64 v] 1 = [.int .i64 v] from List.append_nil _, fillC_zero] at e
    rw [e] at h
    exact h
  have HW1 := Lib.hid hw1
  have HB1 := Lib.hid hb1
  clear hw1 hb1
  go_wp2_with fail
  refine (hmul _).mono ?_
  rintro e w' ⟨rfl, rfl⟩
  go_wp2
  clear hmul hmk hg1 hg0 hu hu1 hcp
  go_loopw [8] (fun vv wr => ∃ k : Nat, 1 ≤ k ∧ k ≤ n ∧ vv = .int .i64 k ∧ Hid (wr.heap[w.heap.size]? = some (.cells (fillC [.int .i64 v] [.int .i64 0] n k).toArray 3 (0, 0))) ∧ Hid (Below w.heap.size w wr)) (fun v _ => n - (intOf v).toNat)
  case atStart => exact ⟨1, by omega, h1, rfl, HW1, HB1⟩
  case round =>
    obtain ⟨k, hk1, hkn, rfl, HW, HB⟩ := hrel
    by_cases hlt : k < n
    · have hsl : decide ((k : Int) < (n : Int)) = true := by simp; omega
      obtain ⟨m, hm⟩ : ∃ m, Nat.min k (n - k) = m := ⟨_, rfl⟩
      have hm1 : 1 ≤ m := by rw [← hm]; exact Nat.le_min.2 ⟨hk1, by omega⟩
      have hmk : m ≤ k := by rw [← hm]; exact Nat.min_le_left _ _
      have hmn : k + m ≤ n := by have : m ≤ n - k := by rw [← hm]; exact Nat.min_le_right _ _
                                 omega
      obtain ⟨w2, hcp, hw2, hb2⟩ : ∃ w2, (Builtin.copy_ #[24, 24] 3 #[.slice (some ⟨w.heap.size, k, none⟩) (n - k) (n - k), .slice (some ⟨w.heap.size, 0, none⟩) k n]).run Tryz.prog wr.drew = .ok (.int .i64 m) w2 ∧
          w2.heap[w.heap.size]? = some (.cells (fillC [.int .i64 v] [.int .i64 0] n (k + m)).toArray 3 (0, 0)) ∧ Below w.heap.size w w2 := by
        have h := run_copy_ex (P := Tryz.prog) wr.drew 24 24 3 3 1 w.heap.size (k * 1) (n - k) (n - k) ⟨w.heap.size, 0, none⟩ k n m (fillC [.int .i64 v] [.int .i64 0] n k) 3 (repC [.int .i64 v] m) Tryz.underlying24 sz3 HW.out hm (by rw [repC_length]; rfl)
          (fun j u hj => by rw [add_new]; exact cell_of_list (w := wr.drew) HW.out (fillC_get [.int .i64 v] [.int .i64 0] n k hkn m hmk j u hj)) (by rw [fillC_length [.int .i64 v] [.int .i64 0] rfl n k hkn]; simp [repC_length]; omega) (fun u hu => HC1.out u (repC_mem hu)) w.heap.size w HB.out.drew (Nat.le_refl _)
        have e := fillC_splice [.int .i64 v] [.int .i64 0] rfl n k m hmn
        simp only [List.length_cons, List.length_nil] at e
        rw [e] at h
        simpa using h
      have HW2 := Lib.hid hw2
      have HB2 := Lib.hid hb2
      clear hw2 hb2 hm
      have hwr : IntKind.i64.wrap ((k : Int) + (m : Int)) = (k : Int) + (m : Int) := w64 _ (by omega) (by omega)
      go_wp2
      go_region_held3 (fun _ => True) (trivial) (fail)
      all_goals
        clear hcp
        go_wp2
        go_roundw
        case rel => exact ⟨k + m, by omega, by omega, by go_num, HW2, HB2⟩
        case measure => simp [intOf]; omega
    · obtain rfl : k = n := by omega
      have hsl : decide ((k : Int) < (k : Int)) = false := by simp
      go_wp2
      go_ret
      exact ⟨w.heap.size, rfl, Nat.le_refl _, by have := HW.out; rw [fillC_full] at this; exact this, HB.out⟩

set_option maxRecDepth 100000 in
theorem make37 (n : Nat) (hn : n ≤ 1000) (w : World) : (Instr.makeSlice 37 (.int .i64 (n : Int)) (.int .i64 (n : Int))).run Tryz.prog w = .ok (.slice (some ⟨w.heap.size, 0, none⟩) n n) (w.alloc (.cells (repC [.int .i64 0, .int .i64 0] n).toArray 50)) := by
  obtain ⟨i0, hi0, hz0, hz1, hz2⟩ := info_parts info50
  have h := run_make (P := Tryz.prog) w 37 50 i0 _ Tryz.underlying37 hi0 hz0 .i64 .i64 (n : Int) (n : Int) (by omega) (Int.le_refl _) (by rw [hz2]; omega) (by omega)
  simp only [Int.toNat_natCast, hz1] at h
  rw [h]
  congr 3
  rw [← made2 n]
  simp
  rfl
def RepPost135 (la ua : Int) (n : Nat) (w : World) (e : Ending) (w' : World) : Prop :=
  ∃ g, e = .returned (.slice (some ⟨g, 0, none⟩) n n) ∧ w.heap.size ≤ g ∧ w'.heap[g]? = some (.cells (repC [.int .i64 la, .int .i64 ua] n).toArray 50 (0, 0)) ∧ Below w.heap.size w w'
set_option maxRecDepth 100000 in
set_option maxHeartbeats 1000000 in
theorem c135 (b off cap : Nat) (la ua : Int) (n : Nat) (h1 : 1 ≤ n) (hn : n ≤ 1000) (w : World) (hsrc : ∀ j u, ([.int .i64 la, .int .i64 ua] : List Value)[j]? = some u → w.cell? ((⟨b, off, none⟩ : Addr).add j) = some u) :
    Calls Tryz.prog 135 #[.slice (some ⟨b, off, none⟩) 1 cap, .int .i64 n] w (RepPost135 la ua n w) := by
  have hmul := mul1 n hn
  have hmk := make37 n hn
  have hg1 : decide ((n : Int) > 9223372036854775807) = false := by simp; omega
  have hg0 : decide ((n : Int) < 0) = false := by simp
  have hu : IntKind.u64.wrap (n : Int) = (n : Int) := by rw [IntKind.wrap_u64]; omega
  have hu1 : IntKind.u64.wrap 1 = 1 := by rw [IntKind.wrap_u64]; omega
  have HS := Lib.hid hsrc
  have HC1 := Lib.hid (show ∀ u ∈ ([.int .i64 la, .int .i64 ua] : List Value), u.oneCell' = true by intro u hu; simp at hu; rcases hu with rfl | rfl <;> rfl)
  clear hsrc
  go_enter Tryz.func135, Tryz.ntmps135
  obtain ⟨w1, hcp, hw1, hb1⟩ : ∃ w1, (Builtin.copy_ #[37, 37] 3 #[.slice (some ⟨w.heap.size, 0, none⟩) n n, .slice (some ⟨b, off, none⟩) 1 cap]).run Tryz.prog (w.alloc (.cells (repC [.int .i64 0, .int .i64 0] n).toArray 50)) = .ok (.int .i64 1) w1 ∧
      w1.heap[w.heap.size]? = some (.cells (fillC [.int .i64 la, .int .i64 ua] [.int .i64 0, .int .i64 0] n 1).toArray 50 (0, 0)) ∧ Below w.heap.size w w1 := by
    have h := run_copy_ex (P := Tryz.prog) (w.alloc (.cells (repC [.int .i64 0, .int .i64 0] n).toArray 50)) 37 37 3 50 2 w.heap.size 0 n n ⟨b, off, none⟩ 1 cap 1 (repC [.int .i64 0, .int .i64 0] n) 50 [.int .i64 la, .int .i64 ua] Tryz.underlying37 sz50 (alloc_new _ _) (Nat.min_eq_left h1) rfl
      (fun j u hj => ((below_alloc1 w _).cell (lt_of_cellq (HS.out j u hj))).trans (HS.out j u hj)) (by simp [repC_length]; omega) HC1.out w.heap.size w (below_alloc1 _ _) (Nat.le_refl _)
    have e := fillC_splice [.int .i64 la, .int .i64 ua] [.int .i64 0, .int .i64 0] rfl n 0 1 (by omega)
    rw [Nat.zero_mul, Nat.zero_add, show repC [.int .i64 la, .int .i64 ua] 1 = [.int .i64 la, .int .i64 ua] from List.append_nil _, fillC_zero] at e
    rw [e] at h
    exact h
  have HW1 := Lib.hid hw1
  have HB1 := Lib.hid hb1
  clear hw1 hb1
  go_wp2_with fail
  refine (hmul _).mono ?_
  rintro e w' ⟨rfl, rfl⟩
  go_wp2
  clear hmul hmk hg1 hg0 hu hu1 hcp
  go_loopw [8] (fun vv wr => ∃ k : Nat, 1 ≤ k ∧ k ≤ n ∧ vv = .int .i64 k ∧ Hid (wr.heap[w.heap.size]? = some (.cells (fillC [.int .i64 la, .int .i64 ua] [.int .i64 0, .int .i64 0] n k).toArray 50 (0, 0))) ∧ Hid (Below w.heap.size w wr)) (fun v _ => n - (intOf v).toNat)
  case atStart => exact ⟨1, by omega, h1, rfl, HW1, HB1⟩
  case round =>
    obtain ⟨k, hk1, hkn, rfl, HW, HB⟩ := hrel
    by_cases hlt : k < n
    · have hsl : decide ((k : Int) < (n : Int)) = true := by simp; omega
      obtain ⟨m, hm⟩ : ∃ m, Nat.min k (n - k) = m := ⟨_, rfl⟩
      have hm1 : 1 ≤ m := by rw [← hm]; exact Nat.le_min.2 ⟨hk1, by omega⟩
      have hmk : m ≤ k := by rw [← hm]; exact Nat.min_le_left _ _
      have hmn : k + m ≤ n := by have : m ≤ n - k := by rw [← hm]; exact Nat.min_le_right _ _
                                 omega
      obtain ⟨w2, hcp, hw2, hb2⟩ : ∃ w2, (Builtin.copy_ #[37, 37] 3 #[.slice (some ⟨w.heap.size, k * 2, none⟩) (n - k) (n - k), .slice (some ⟨w.heap.size, 0, none⟩) k n]).run Tryz.prog wr.drew = .ok (.int .i64 m) w2 ∧
          w2.heap[w.heap.size]? = some (.cells (fillC [.int .i64 la, .int .i64 ua] [.int .i64 0, .int .i64 0] n (k + m)).toArray 50 (0, 0)) ∧ Below w.heap.size w w2 := by
        have h := run_copy_ex (P := Tryz.prog) wr.drew 37 37 3 50 2 w.heap.size (k * 2) (n - k) (n - k) ⟨w.heap.size, 0, none⟩ k n m (fillC [.int .i64 la, .int .i64 ua] [.int .i64 0, .int .i64 0] n k) 50 (repC [.int .i64 la, .int .i64 ua] m) Tryz.underlying37 sz50 HW.out hm (by rw [repC_length]; rfl)
          (fun j u hj => by rw [add_new]; exact cell_of_list (w := wr.drew) HW.out (fillC_get [.int .i64 la, .int .i64 ua] [.int .i64 0, .int .i64 0] n k hkn m hmk j u hj)) (by rw [fillC_length [.int .i64 la, .int .i64 ua] [.int .i64 0, .int .i64 0] rfl n k hkn]; simp [repC_length]; omega) (fun u hu => HC1.out u (repC_mem hu)) w.heap.size w HB.out.drew (Nat.le_refl _)
        have e := fillC_splice [.int .i64 la, .int .i64 ua] [.int .i64 0, .int .i64 0] rfl n k m hmn
        simp only [List.length_cons, List.length_nil] at e
        rw [e] at h
        simpa using h
      have HW2 := Lib.hid hw2
      have HB2 := Lib.hid hb2
      clear hw2 hb2 hm
      have hwr : IntKind.i64.wrap ((k : Int) + (m : Int)) = (k : Int) + (m : Int) := w64 _ (by omega) (by omega)
      go_wp2
      go_region_held3 (fun _ => True) (trivial) (fail)
      all_goals
        clear hcp
        go_wp2
        go_roundw
        case rel => exact ⟨k + m, by omega, by omega, by go_num, HW2, HB2⟩
        case measure => simp [intOf]; omega
    · obtain rfl : k = n := by omega
      have hsl : decide ((k : Int) < (k : Int)) = false := by simp
      go_wp2
      go_ret
      exact ⟨w.heap.size, rfl, Nat.le_refl _, by have := HW.out; rw [fillC_full] at this; exact this, HB.out⟩
end Go.Proofs.YtncfgkhbenmpoaaGreatDoor
end

section
namespace Go.Proofs.YtncfgkhbenmpoaaGreatDoor
open Go Go.RowKit Go.Proofs
set_option linter.unusedVariables false
attribute [local go_sem] imax2 imin2

/-- the spans behind so many gauges -/
def gaTo (lo hi : Int) (n : Nat) (gs : List Gau) : Nat → List (Int × Int)
  | 0 => List.replicate n (lo, hi)
  | k + 1 => (gaTo lo hi n gs k).set (gg gs k).step.toNat (max (spn (gaTo lo hi n gs k) (gg gs k).step.toNat).1 ((gg gs k).height - (gg gs k).off), min (spn (gaTo lo hi n gs k) (gg gs k).step.toNat).2 ((gg gs k).height + (gg gs k).off))
theorem gaTo_length (lo hi : Int) (n : Nat) (gs : List Gau) : ∀ k, (gaTo lo hi n gs k).length = n := by
  intro k
  induction k with
  | zero => simp [gaTo]
  | succ k ih => simp [gaTo, ih]
theorem spn_set (ss : List (Int × Int)) (i : Nat) (x : Int × Int) (hi : i < ss.length) (j : Nat) : spn (ss.set i x) j = if i = j then x else spn ss j := by
  unfold spn
  rw [List.getD_eq_getElem?_getD, List.getElem?_set]
  by_cases h : i = j
  · subst h; rw [if_pos rfl, if_pos rfl, if_pos hi]; rfl
  · rw [if_neg h, if_neg h]; rfl
theorem gaTo_range (lo hi : Int) (n : Nat) (gs : List Gau) (hlo : 0 ≤ lo ∧ lo ≤ 30) (hhi : 0 ≤ hi ∧ hi ≤ 30) (hg : gausB n gs = true) : ∀ k, k ≤ gs.length → ∀ i, i < n → 0 ≤ (spn (gaTo lo hi n gs k) i).1 ∧ (spn (gaTo lo hi n gs k) i).1 ≤ 30 ∧ 0 ≤ (spn (gaTo lo hi n gs k) i).2 ∧ (spn (gaTo lo hi n gs k) i).2 ≤ 30 := by
  intro k
  induction k with
  | zero => intro _ i hi'; simp only [gaTo, spn]; simp [hi']; omega
  | succ k ih =>
    intro hk i hi'
    have ih := ih (by omega) i hi'
    have hgk : gaB n (gg gs k) = true := by
      unfold gausB at hg
      rw [List.all_eq_true] at hg
      exact hg _ (by unfold gg; rw [List.getD_eq_getElem?_getD, List.getElem?_eq_getElem (by omega)]; exact List.getElem_mem _)
    unfold gaB gauB inB at hgk
    simp only [Bool.and_eq_true, decide_eq_true_eq] at hgk
    simp only [gaTo]
    rw [spn_set _ _ _ (by rw [gaTo_length]; omega)]
    split
    · rename_i h
      rw [h]
      simp only; omega
    · exact ih
theorem gauge_at {n : Int} {gs : List Gau} (hg : gausB n gs = true) {k : Nat} (hk : k < gs.length) : (0 ≤ (gg gs k).step ∧ (gg gs k).step ≤ n - 1) ∧ (0 ≤ (gg gs k).height ∧ (gg gs k).height ≤ 30) ∧ (0 ≤ (gg gs k).off ∧ (gg gs k).off ≤ 5) := by
  have hgk : gaB n (gg gs k) = true := by
    unfold gausB at hg
    rw [List.all_eq_true] at hg
    exact hg _ (by unfold gg; rw [List.getD_eq_getElem?_getD, List.getElem?_eq_getElem (by omega)]; exact List.getElem_mem _)
  unfold gaB gauB inB at hgk
  simp only [Bool.and_eq_true, decide_eq_true_eq] at hgk
  omega
/-- cells of spans, one span changed -/
theorem spV_set (ss : List (Int × Int)) (x : Int × Int) : ∀ i, i < ss.length → (((spV ss).set (i * 2) (.int .i64 x.1)).set (i * 2 + 1) (.int .i64 x.2)) = spV (ss.set i x) := by
  induction ss with
  | nil => intro i h; simp at h
  | cons s r ih =>
    intro i h
    cases i with
    | zero => simp [spV]
    | succ i =>
      have := ih i (by simpa using h)
      rw [show (i + 1) * 2 = i * 2 + 2 by omega]
      simp only [spV, List.set_cons_succ, show i * 2 + 2 + 1 = (i * 2 + 1) + 2 by omega]
      rw [this]
theorem spV_rep (lo hi : Int) (n : Nat) : repC [.int .i64 lo, .int .i64 hi] n = spV (List.replicate n (lo, hi)) := by
  induction n with
  | zero => rfl
  | succ n ih => simp only [repC, List.replicate_succ, spV, ih]; rfl

/-- a row of spans, known whole -/
def RowS (w : World) (g : Nat) (ss : List (Int × Int)) : Prop := w.heap[g]? = some (.cells (spV ss).toArray 50 (0, 0))
theorem RowS.at {w : World} {g : Nat} {ss : List (Int × Int)} (h : RowS w g ss) {i : Nat} (hi : i < ss.length) :
    w.cell? ⟨g, i * 2, none⟩ = some (.int .i64 (spn ss i).1) ∧ w.cell? ⟨g, i * 2 + 1, none⟩ = some (.int .i64 (spn ss i).2) := by
  obtain ⟨e1, e2⟩ := spV_get ss i hi
  exact ⟨cell_of_list h e1, cell_of_list h e2⟩
theorem RowS.rd {w : World} {g : Nat} {ss : List (Int × Int)} (h : RowS w g ss) : RdS w (some ⟨g, 0, none⟩) ss :=
  .inr ⟨g, 0, rfl, fun i hi => by rw [Nat.zero_add]; exact h.at hi⟩
theorem RowS.set {w : World} {g : Nat} {ss : List (Int × Int)} (h : RowS w g ss) {i : Nat} (hi : i < ss.length) (x : Int × Int) : RowS ((w.setCell ⟨g, i * 2, none⟩ (.int .i64 x.1)).setCell ⟨g, i * 2 + 1, none⟩ (.int .i64 x.2)) g (ss.set i x) := by
  unfold RowS at *
  have h1 : (w.setCell ⟨g, i * 2, none⟩ (.int .i64 x.1)).heap[g]? = some (.cells ((spV ss).set (i * 2) (.int .i64 x.1)).toArray 50 (0, 0)) := by
    have := heap_setCell_same w g (i * 2) _ _ (.int .i64 x.1) h
    simpa using this
  have h2 := heap_setCell_same _ g (i * 2 + 1) _ _ (.int .i64 x.2) h1
  rw [h2, ← spV_set ss x i hi]
  simp

def GaOk (lo hi : Int) (n : Nat) (gs : List Gau) (k : Nat) : Prop := ∀ j, j < k → (spn (gaTo lo hi n gs (j + 1)) (gg gs j).step.toNat).1 ≤ (spn (gaTo lo hi n gs (j + 1)) (gg gs j).step.toNat).2
def GaugedPost (lo hi : Int) (n : Nat) (gs : List Gau) (w : World) (e : Ending) (w' : World) : Prop :=
  ((GaOk lo hi n gs gs.length ∧ ∃ g, e = .returned (.slice (some ⟨g, 0, none⟩) n n) ∧ w.heap.size ≤ g ∧ RowS w' g (gaTo lo hi n gs gs.length)) ∨
   ((¬ GaOk lo hi n gs gs.length) ∧ ∃ x, e = .panicked [{ v := .iface 151 (.agg #[.int .i64 x]), recovered := false }])) ∧ Below w.heap.size w w'

set_option maxRecDepth 100000 in
set_option maxHeartbeats 2000000 in
theorem c96 (lo hi sl ch : Int) (p : Option Addr) (cap : Nat) (n : Nat) (gs : List Gau) (w : World) (hr : ruleB lo hi sl ch = true) (hn : 3 ≤ n ∧ n ≤ 24) (hx : RdG w p gs) (hl : gs.length ≤ 1000) (hg : gausB n gs = true) :
    Calls Tryz.prog 96 #[.agg #[.int .i64 lo, .int .i64 hi, .int .i64 sl, .int .i64 ch], .int .i64 n, .slice p gs.length cap] w (GaugedPost lo hi n gs w) := by
  have hru := hr
  unfold ruleB inB at hru
  simp only [Bool.and_eq_true, decide_eq_true_eq] at hru
  obtain ⟨w0, e0, HS, k0, k1, k2, k3, b0⟩ := box4 w (.int .i64 lo) (.int .i64 hi) (.int .i64 sl) (.int .i64 ch) 23
  have HRU := Lib.hid hru
  have HX := Lib.hid (hx.below b0)
  have HG := Lib.hid hg
  have HB0 := Lib.hid b0
  obtain ⟨hn3, hn24⟩ := hn
  have h135 := c135 w0.heap.size 0 1 lo hi n (by omega) (by omega) (w0.alloc (.cells #[.int .i64 lo, .int .i64 hi] 50)) (news_of w0 [.int .i64 lo, .int .i64 hi] 50)
  clear hr hru hx hg b0
  go_enter Tryz.func96, Tryz.ntmps96
  go_wp2_with fail
  refine h135.mono ?_
  rintro e w1 ⟨g, rfl, hgz, hrow, hb1⟩
  have HROW := Lib.hid (show RowS w1 g (gaTo lo hi n gs 0) by unfold RowS; rw [gaTo, ← spV_rep]; exact hrow)
  have HGZ := Lib.hid (show w0.heap.size < g by have := hgz; simp at this; omega)
  have HB1 := Lib.hid ((below_alloc1 w0 (.cells #[.int .i64 lo, .int .i64 hi] 50)).trans (hb1.mono (by simp)))
  clear h135 hrow hgz hb1 e0 k0 k1 k2 k3
  go_wp2
  go_loopw [21] (fun v wr => ∃ k : Nat, k ≤ gs.length ∧ v = .int .i64 k ∧ Hid (GaOk lo hi n gs k) ∧ Hid (RowS wr g (gaTo lo hi n gs k)) ∧ Hid (Below w0.heap.size w0 wr)) (fun v _ => gs.length - (intOf v).toNat)
  case atStart => exact ⟨0, Nat.zero_le _, rfl, Lib.hid (fun j hj => by omega), HROW, HB1⟩
  case round =>
    obtain ⟨k, hk, rfl, HOK, HR, HB⟩ := hrel
    by_cases hlt : k < gs.length
    · obtain ⟨b, off, rfl, hc⟩ := (HX.out.below HB.out).at hlt
      obtain ⟨e1, e2, e3⟩ := hc k hlt
      obtain ⟨⟨hst0, hst1⟩, ⟨hh0, hh1⟩, ho0, ho1⟩ := gauge_at HG.out hlt
      obtain ⟨st, hst⟩ : ∃ st : Nat, (gg gs k).step = st := ⟨(gg gs k).step.toNat, by omega⟩
      have hstn : st < n := by omega
      have hrg := gaTo_range lo hi n gs HRU.out.1.1.1.1 HRU.out.1.1.1.2 HG.out k hk st hstn
      obtain ⟨f1, f2⟩ := HR.out.at (i := st) (by rw [gaTo_length]; exact hstn)
      have HST := Lib.hid (show gaTo lo hi n gs (k + 1) = (gaTo lo hi n gs k).set st (max (spn (gaTo lo hi n gs k) st).1 ((gg gs k).height - (gg gs k).off), min (spn (gaTo lo hi n gs k) st).2 ((gg gs k).height + (gg gs k).off)) by simp only [gaTo]; rw [hst]; rfl)
      have HSTEP := Lib.hid hst
      obtain ⟨wg, ewg, HSW, j0, j1, j2, bg⟩ := box3 wr (.int .i64 st) (.int .i64 (gg gs k).height) (.int .i64 (gg gs k).off) 47
      have f1 := (bg.cell (lt_of_cellq f1)).trans f1
      have f2 := (bg.cell (lt_of_cellq f2)).trans f2
      rw [hst] at e1
      have HBG := Lib.hid bg
      have HRG := Lib.hid (show RowS wg g (gaTo lo hi n gs k) from (bg.block g (block_lt HR.out)).trans HR.out)
      have z1 := frozen_of_row _ _ (st * 2) _ _ HRG.out
      have z2 := frozen_of_row _ _ (st * 2 + 1) _ _ HRG.out
      generalize (gg gs k).height = hgt at *
      generalize (gg gs k).off = hof at *
      obtain ⟨L0, hL0⟩ : ∃ L0, (spn (gaTo lo hi n gs k) st).1 = L0 := ⟨_, rfl⟩
      obtain ⟨U0, hU0⟩ : ∃ U0, (spn (gaTo lo hi n gs k) st).2 = U0 := ⟨_, rfl⟩
      rw [hL0] at f1 hrg HST
      rw [hU0] at f2 hrg HST
      obtain ⟨g1, g2, g3, g4⟩ := hrg
      clear hst hst0 hst1 hc bg hL0 hU0
      go_wp2
      clear ewg e1 e2 e3
      have hw1 : IntKind.i64.wrap (hgt - hof) = hgt - hof := w64 _ (by omega) (by omega)
      have hw2 : IntKind.i64.wrap (hgt + hof) = hgt + hof := w64 _ (by omega) (by omega)
      have hgw : g < wr.heap.size := block_lt HR.out
      have hgne : ¬ wr.heap.size = g := by omega
      have hgne2 : ¬ g = wr.heap.size := by omega
      refine wp_region_held_drew (S := fun w' => w'.cell? ⟨wr.heap.size, 1, none⟩ = some (.int .i64 hgt) ∧ w'.cell? ⟨wr.heap.size, 2, none⟩ = some (.int .i64 hof)) (by kernel_rfl) ⟨j1, j2⟩ (fun hHeld => ?_)
      refine wpAnyH_take (i := 1) (oi := ⟨some 30, _, _, _, _, _⟩) (v := ?_) rfl (by kernel_rfl) (by kernel_rfl) (by kernel_rfl) (fun _ _ _ h => h) (Or.inl ⟨by rfl, ?_⟩) (by assumption) ?_
      rotate_left
      · intro w hSw; (try dsimp only at hSw); go_simp; try with_reducible rfl
      simp only [Act.put, List.setIfInBounds_toArray, List.set_cons_zero, List.set_cons_succ]
      refine wpAnyH_take (i := 0) (oi := ⟨some 29, _, _, _, _, _⟩) (v := ?_) rfl (by kernel_rfl) (by kernel_rfl) (by kernel_rfl) (fun _ _ _ h => h) (Or.inl ⟨by rfl, ?_⟩) (by assumption) ?_
      rotate_left
      · intro w hSw; (try dsimp only at hSw); go_simp; try with_reducible rfl
      simp only [Act.put, List.setIfInBounds_toArray, List.set_cons_zero, List.set_cons_succ]
      refine wpAnyH_take (i := 2) (oi := ⟨some 31, _, _, _, _, _⟩) (v := ?_) rfl (by kernel_rfl) (by kernel_rfl) (by kernel_rfl) (fun _ _ _ h => h) (Or.inl ⟨by rfl, ?_⟩) (by assumption) ?_
      rotate_left
      · intro w hSw; (try dsimp only at hSw); go_simp; try with_reducible rfl
      simp only [Act.put, List.setIfInBounds_toArray, List.set_cons_zero, List.set_cons_succ]
      refine wpAnyH_take (i := 3) (oi := ⟨some 32, _, _, _, _, _⟩) (v := ?_) rfl (by kernel_rfl) (by kernel_rfl) (by kernel_rfl) (fun _ _ _ h => h) (Or.inl ⟨by rfl, ?_⟩) (by assumption) ?_
      rotate_left
      · intro w hSw; (try dsimp only at hSw); go_simp; try with_reducible rfl
      simp only [Act.put, List.setIfInBounds_toArray, List.set_cons_zero, List.set_cons_succ]
      refine wpAnyH_take (i := 4) (oi := ⟨some 33, _, _, _, _, _⟩) (v := ?_) rfl (by kernel_rfl) (by kernel_rfl) (by kernel_rfl) (fun _ _ _ h => h) (Or.inl ⟨by rfl, ?_⟩) (by assumption) ?_
      rotate_left
      · intro w hSw; (try dsimp only at hSw); go_simp; try with_reducible rfl
      simp only [Act.put, List.setIfInBounds_toArray, List.set_cons_zero, List.set_cons_succ]
      refine wpAnyH_take (i := 12) (oi := ⟨some 41, _, _, _, _, _⟩) (v := ?_) rfl (by kernel_rfl) (by kernel_rfl) (by kernel_rfl) (fun _ _ _ h => h) (Or.inl ⟨by rfl, ?_⟩) (by assumption) ?_
      rotate_left
      · intro w hSw; (try dsimp only at hSw); go_simp; try with_reducible rfl
      simp only [Act.put, List.setIfInBounds_toArray, List.set_cons_zero, List.set_cons_succ]
      refine wpAnyH_take (i := 13) (oi := ⟨some 42, _, _, _, _, _⟩) (v := ?_) rfl (by kernel_rfl) (by kernel_rfl) (by kernel_rfl) (fun _ _ _ h => h) (Or.inl ⟨by rfl, ?_⟩) (by assumption) ?_
      rotate_left
      · intro w hSw; (try dsimp only at hSw); go_simp; try with_reducible rfl
      simp only [Act.put, List.setIfInBounds_toArray, List.set_cons_zero, List.set_cons_succ]
      refine wpAnyH_take (i := 14) (oi := ⟨some 43, _, _, _, _, _⟩) (v := ?_) rfl (by kernel_rfl) (by kernel_rfl) (by kernel_rfl) (fun _ _ _ h => h) (Or.inl ⟨by rfl, ?_⟩) (by assumption) ?_
      rotate_left
      · intro w hSw; (try dsimp only at hSw); go_simp; try with_reducible rfl
      simp only [Act.put, List.setIfInBounds_toArray, List.set_cons_zero, List.set_cons_succ]
      refine wpAnyH_take (i := 6) (oi := ⟨some 35, _, _, _, _, _⟩) (v := ?_) rfl (by kernel_rfl) (by kernel_rfl) (by kernel_rfl) (fun _ _ _ h => h) (Or.inl ⟨by rfl, ?_⟩) (by assumption) ?_
      rotate_left
      · intro w hSw; (try dsimp only at hSw); go_simp; try with_reducible rfl
      simp only [Act.put, List.setIfInBounds_toArray, List.set_cons_zero, List.set_cons_succ]
      refine wpAnyH_take (i := 7) (oi := ⟨some 36, _, _, _, _, _⟩) (v := ?_) rfl (by kernel_rfl) (by kernel_rfl) (by kernel_rfl) (fun _ _ _ h => h) (Or.inl ⟨by rfl, ?_⟩) (by assumption) ?_
      rotate_left
      · intro w hSw; (try dsimp only at hSw); go_simp; try with_reducible rfl
      simp only [Act.put, List.setIfInBounds_toArray, List.set_cons_zero, List.set_cons_succ]
      refine wpAnyH_take (i := 8) (oi := ⟨some 37, _, _, _, _, _⟩) (v := ?_) rfl (by kernel_rfl) (by kernel_rfl) (by kernel_rfl) (fun _ _ _ h => h) (Or.inl ⟨by rfl, ?_⟩) (by assumption) ?_
      rotate_left
      · intro w hSw; (try dsimp only at hSw); go_simp; try with_reducible rfl
      simp only [Act.put, List.setIfInBounds_toArray, List.set_cons_zero, List.set_cons_succ]
      refine wpAnyH_take (i := 9) (oi := ⟨some 38, _, _, _, _, _⟩) (v := ?_) rfl (by kernel_rfl) (by kernel_rfl) (by kernel_rfl) (fun _ _ _ h => h) (Or.inl ⟨by rfl, ?_⟩) (by assumption) ?_
      rotate_left
      · intro w hSw; (try dsimp only at hSw); go_simp; try with_reducible rfl
      simp only [Act.put, List.setIfInBounds_toArray, List.set_cons_zero, List.set_cons_succ]
      refine wpAnyH_take (i := 10) (oi := ⟨some 39, _, _, _, _, _⟩) (v := ?_) rfl (by kernel_rfl) (by kernel_rfl) (by kernel_rfl) (fun _ _ _ h => h) (Or.inl ⟨by rfl, ?_⟩) (by assumption) ?_
      rotate_left
      · intro w hSw; (try dsimp only at hSw); go_simp; try with_reducible rfl
      simp only [Act.put, List.setIfInBounds_toArray, List.set_cons_zero, List.set_cons_succ]
      refine wpAnyH_take (i := 16) (oi := ⟨some 45, _, _, _, _, _⟩) (v := ?_) rfl (by kernel_rfl) (by kernel_rfl) (by kernel_rfl) (fun _ _ _ h => h) (Or.inl ⟨by rfl, ?_⟩) (by assumption) ?_
      rotate_left
      · intro w hSw; (try dsimp only at hSw); go_simp; try with_reducible rfl
      simp only [Act.put, List.setIfInBounds_toArray, List.set_cons_zero, List.set_cons_succ]
      refine wpAnyH_take (i := 17) (oi := ⟨some 46, _, _, _, _, _⟩) (v := ?_) rfl (by kernel_rfl) (by kernel_rfl) (by kernel_rfl) (fun _ _ _ h => h) (Or.inl ⟨by rfl, ?_⟩) (by assumption) ?_
      rotate_left
      · intro w hSw; (try dsimp only at hSw); go_simp; try with_reducible rfl
      simp only [Act.put, List.setIfInBounds_toArray, List.set_cons_zero, List.set_cons_succ]
      refine wpAnyH_take (i := 18) (oi := ⟨some 47, _, _, _, _, _⟩) (v := ?_) rfl (by kernel_rfl) (by kernel_rfl) (by kernel_rfl) (fun _ _ _ h => h) (Or.inl ⟨by rfl, ?_⟩) (by assumption) ?_
      rotate_left
      · intro w hSw; (try dsimp only at hSw); go_simp; try with_reducible rfl
      simp only [Act.put, List.setIfInBounds_toArray, List.set_cons_zero, List.set_cons_succ]
      refine wpAnyH_take (i := 19) (oi := ⟨some 48, _, _, _, _, _⟩) (v := ?_) rfl (by kernel_rfl) (by kernel_rfl) (by kernel_rfl) (fun _ _ _ h => h) (Or.inl ⟨by rfl, ?_⟩) (by assumption) ?_
      rotate_left
      · intro w hSw; (try dsimp only at hSw); go_simp; try with_reducible rfl
      simp only [Act.put, List.setIfInBounds_toArray, List.set_cons_zero, List.set_cons_succ]
      refine wpAnyH_take (i := 20) (oi := ⟨some 49, _, _, _, _, _⟩) (v := ?_) rfl (by kernel_rfl) (by kernel_rfl) (by kernel_rfl) (fun _ _ _ h => h) (Or.inl ⟨by rfl, ?_⟩) (by assumption) ?_
      rotate_left
      · intro w hSw; (try dsimp only at hSw); go_simp; try with_reducible rfl
      simp only [Act.put, List.setIfInBounds_toArray, List.set_cons_zero, List.set_cons_succ]
      refine wpAnyH_ready (rs := [5, 15]) (by kernel_rfl) (by simp) ?_
      refine AllReadyH.cons (o := ⟨some 34, _, _, _, _, _⟩) rfl (fun K hK => ?_) (AllReadyH.cons (o := ⟨some 44, _, _, _, _, _⟩) rfl (fun K hK => ?_) AllReadyH.nil)
      · go_simp
        refine hK.out _ _ ?_ (fun hHeld => ?_)
        · (try dsimp only); first | exact ⟨j1, j2⟩ | go_keep | exact ⟨(World.cell?_of_block (Below.heap_setCell _ _ _ _ hgne)).trans j1, (World.cell?_of_block (Below.heap_setCell _ _ _ _ hgne)).trans j2⟩
        clear hK K
        try simp only [Act.put, List.setIfInBounds_toArray, List.set_cons_zero, List.set_cons_succ]
        refine wpAnyH_take (i := 11) (oi := ⟨some 40, _, _, _, _, _⟩) (v := ?_) rfl (by kernel_rfl) (by kernel_rfl) (by kernel_rfl) (fun _ _ _ h => h) (Or.inl ⟨by rfl, ?_⟩) (by assumption) ?_
        rotate_left
        · intro w hSw; (try dsimp only at hSw); go_simp; try with_reducible rfl
        simp only [Act.put, List.setIfInBounds_toArray, List.set_cons_zero, List.set_cons_succ]
        refine wpAnyH_ready (rs := [15]) (by kernel_rfl) (by simp) ?_
        refine AllReadyH.cons (o := ⟨some 44, _, _, _, _, _⟩) rfl (fun K hK => ?_) AllReadyH.nil
        go_simp
        refine hK.out _ _ ?_ (fun hHeld => ?_)
        · (try dsimp only); first | exact ⟨j1, j2⟩ | go_keep | exact ⟨(World.cell?_of_block (Below.heap_setCell _ _ _ _ hgne)).trans j1, (World.cell?_of_block (Below.heap_setCell _ _ _ _ hgne)).trans j2⟩
        clear hK K
        try simp only [Act.put, List.setIfInBounds_toArray, List.set_cons_zero, List.set_cons_succ]
        refine wpAnyH_take (i := 21) (oi := ⟨some 50, _, _, _, _, _⟩) (v := ?_) rfl (by kernel_rfl) (by kernel_rfl) (by kernel_rfl) (fun _ _ _ h => h) (Or.inl ⟨by rfl, ?_⟩) (by assumption) ?_
        rotate_left
        · intro w hSw; (try dsimp only at hSw); go_simp; try with_reducible rfl
        simp only [Act.put, List.setIfInBounds_toArray, List.set_cons_zero, List.set_cons_succ]
        refine wpAnyH_take (i := 22) (oi := ⟨some 51, _, _, _, _, _⟩) (v := ?_) rfl (by kernel_rfl) (by kernel_rfl) (by kernel_rfl) (fun _ _ _ h => h) (Or.inl ⟨by rfl, ?_⟩) (by assumption) ?_
        rotate_left
        · intro w hSw; (try dsimp only at hSw); go_simp; try with_reducible rfl
        simp only [Act.put, List.setIfInBounds_toArray, List.set_cons_zero, List.set_cons_succ]
        refine wpAnyH_take (i := 23) (oi := ⟨some 52, _, _, _, _, _⟩) (v := ?_) rfl (by kernel_rfl) (by kernel_rfl) (by kernel_rfl) (fun _ _ _ h => h) (Or.inl ⟨by rfl, ?_⟩) (by assumption) ?_
        rotate_left
        · intro w hSw; (try dsimp only at hSw); go_simp; try with_reducible rfl
        simp only [Act.put, List.setIfInBounds_toArray, List.set_cons_zero, List.set_cons_succ]
        refine wpAnyH_ready (rs := [24]) (by kernel_rfl) (by simp) ?_
        refine AllReadyH.cons (o := ⟨none, _, _, _, _, _⟩) rfl (fun K hK => ?_) AllReadyH.nil
        go_simp
        refine hK.out _ _ ?_ (fun hHeld => ?_)
        · (try dsimp only); first | exact ⟨j1, j2⟩ | go_keep | exact ⟨(World.cell?_of_block (Below.heap_setCell _ _ _ _ hgne)).trans j1, (World.cell?_of_block (Below.heap_setCell _ _ _ _ hgne)).trans j2⟩
        clear hK K
        try simp only [Act.put, List.setIfInBounds_toArray, List.set_cons_zero, List.set_cons_succ]
        refine wpAnyH_take (i := 25) (oi := ⟨some 53, _, _, _, _, _⟩) (v := ?_) rfl (by kernel_rfl) (by kernel_rfl) (by kernel_rfl) (fun _ _ _ h => h) (Or.inl ⟨by rfl, ?_⟩) (by assumption) ?_
        rotate_left
        · intro w hSw; (try dsimp only at hSw); go_simp; try with_reducible rfl
        simp only [Act.put, List.setIfInBounds_toArray, List.set_cons_zero, List.set_cons_succ]
        refine wpAnyH_take (i := 26) (oi := ⟨some 54, _, _, _, _, _⟩) (v := ?_) rfl (by kernel_rfl) (by kernel_rfl) (by kernel_rfl) (fun _ _ _ h => h) (Or.inl ⟨by rfl, ?_⟩) (by assumption) ?_
        rotate_left
        · intro w hSw; (try dsimp only at hSw); go_simp; try with_reducible rfl
        simp only [Act.put, List.setIfInBounds_toArray, List.set_cons_zero, List.set_cons_succ]
        refine wpAnyH_ready (rs := [27]) (by kernel_rfl) (by simp) ?_
        refine AllReadyH.cons (o := ⟨none, _, _, _, _, _⟩) rfl (fun K hK => ?_) AllReadyH.nil
        go_simp
        refine hK.out _ _ ?_ (fun hHeld => ?_)
        · (try dsimp only); first | exact ⟨j1, j2⟩ | go_keep | exact ⟨(World.cell?_of_block (Below.heap_setCell _ _ _ _ hgne)).trans j1, (World.cell?_of_block (Below.heap_setCell _ _ _ _ hgne)).trans j2⟩
        clear hK K
        try simp only [Act.put, List.setIfInBounds_toArray, List.set_cons_zero, List.set_cons_succ]
        refine wpAnyH_done (by kernel_rfl) ?_ _
        have HR3 := Lib.hid (show RowS ((wg.setCell ⟨g, st * 2, none⟩ (.int .i64 (max L0 (hgt - hof)))).setCell ⟨g, st * 2 + 1, none⟩ (.int .i64 (min U0 (hgt + hof)))) g (gaTo lo hi n gs (k + 1)) by
          rw [HST.out]; exact HRG.out.set (i := st) (by rw [gaTo_length]; exact hstn) (max L0 (hgt - hof), min U0 (hgt + hof)))
        have hsp : spn (gaTo lo hi n gs (k + 1)) st = (max L0 (hgt - hof), min U0 (hgt + hof)) := by rw [HST.out, spn_set _ _ _ (by rw [gaTo_length]; exact hstn), if_pos rfl]
        obtain ⟨c1, c2⟩ := HR3.out.at (i := st) (by rw [gaTo_length]; exact hstn)
        rw [hsp] at c1 c2
        have j0' : ((wg.setCell ⟨g, st * 2, none⟩ (.int .i64 (max L0 (hgt - hof)))).setCell ⟨g, st * 2 + 1, none⟩ (.int .i64 (min U0 (hgt + hof)))).cell? ⟨wr.heap.size, 0, none⟩ = some (.int .i64 st) :=
          (World.cell?_of_block (Below.heap_setCell _ _ _ _ hgne)).trans ((World.cell?_of_block (Below.heap_setCell _ _ _ _ hgne)).trans j0)
        have HB3 := Lib.hid (show Below w0.heap.size w0 ((wg.setCell ⟨g, st * 2, none⟩ (.int .i64 (max L0 (hgt - hof)))).setCell ⟨g, st * 2 + 1, none⟩ (.int .i64 (min U0 (hgt + hof)))) from
          ((HB.out.trans (HBG.out.mono HB.out.size)).setCell (by have := HGZ.out; show w0.heap.size ≤ g; omega) _).setCell (by have := HGZ.out; show w0.heap.size ≤ g; omega) _)
        have HSP := Lib.hid hsp
        generalize (wg.setCell ⟨g, st * 2, none⟩ (.int .i64 (max L0 (hgt - hof)))).setCell ⟨g, st * 2 + 1, none⟩ (.int .i64 (min U0 (hgt + hof))) = w3 at *
        clear j0 j1 j2 f1 f2 z1 z2 hsp hw1 hw2
        obtain ⟨A, hA⟩ : ∃ A, A = max L0 (hgt - hof) := ⟨_, rfl⟩
        obtain ⟨B, hB⟩ : ∃ B, B = min U0 (hgt + hof) := ⟨_, rfl⟩
        rw [← hA] at c1 HSP
        rw [← hB] at c2 HSP
        have HA := Lib.hid hA
        have HBB := Lib.hid hB
        clear hA hB
        by_cases hbad : A > B
        · have hbad' : decide (A > B) = true := by simp; omega
          go_wp2
          refine wp_region_quiet_lit (by kernel_rfl) (by kernel_rfl) ?_; (repeat (first | ((with_reducible apply wq_ix Tryz.underlying24 sz3); (focus rfl); (focus rfl); (focus rfl); (focus omega); (try simp only [Nat.mul_one]); go_frame) | ((with_reducible apply wq_ix Tryz.underlying37 sz50); (focus rfl); (focus rfl); (focus rfl); (focus omega); (try simp only [Nat.mul_one]); go_frame) | ((with_reducible apply wq_ix Tryz.underlying35 sz47); (focus rfl); (focus rfl); (focus rfl); (focus omega); (try simp only [Nat.mul_one]); go_frame) | ((with_reducible apply wq_ix Tryz.underlying90 sz24); (focus rfl); (focus rfl); (focus rfl); (focus omega); (try simp only [Nat.mul_one]); go_frame) | ((with_reducible apply wq_ld ag3); (focus rfl); (focus rfl); (focus (rintro _ ⟨_, rfl⟩; first | exact c1 | exact c2)); go_frame) | ((with_reducible apply wq_ld ag24); (focus rfl); (focus rfl); (focus (rintro _ ⟨_, rfl⟩; first | exact c1 | exact c2)); go_frame) | ((with_reducible apply wq_ld ag37); (focus rfl); (focus rfl); (focus (rintro _ ⟨_, rfl⟩; first | exact c1 | exact c2)); go_frame) | ((with_reducible apply wq_ld ag90); (focus rfl); (focus rfl); (focus (rintro _ ⟨_, rfl⟩; first | exact c1 | exact c2)); go_frame) | ((with_reducible apply wq_ld ag35); (focus rfl); (focus rfl); (focus (rintro _ ⟨_, rfl⟩; first | exact c1 | exact c2)); go_frame) | ((with_reducible apply wq_add); (focus rfl); (focus rfl); (focus rfl); (focus omega); (focus omega); go_frame) | ((with_reducible apply wq_sub); (focus rfl); (focus rfl); (focus rfl); (focus omega); (focus omega); go_frame) | ((with_reducible apply wq_mul); (focus rfl); (focus rfl); (focus rfl); (focus omega); (focus omega); go_frame) | ((with_reducible apply wq_rem); (focus rfl); (focus rfl); (focus rfl); (focus omega); (focus omega); go_frame) | ((with_reducible apply wq_eql); (focus rfl); (focus rfl); (focus rfl); go_frame) | ((with_reducible apply wq_neq); (focus rfl); (focus rfl); (focus rfl); go_frame) | ((with_reducible apply wq_lss); (focus rfl); (focus rfl); (focus rfl); go_frame) | ((with_reducible apply wq_leq); (focus rfl); (focus rfl); (focus rfl); go_frame) | ((with_reducible apply wq_gtr); (focus rfl); (focus rfl); (focus rfl); go_frame) | ((with_reducible apply wq_geq); (focus rfl); (focus rfl); (focus rfl); go_frame) | ((with_reducible apply wq_max2); (focus rfl); (focus rfl); (focus rfl); go_frame) | ((with_reducible apply wq_min2); (focus rfl); (focus rfl); (focus rfl); go_frame) | ((with_reducible apply wq_max3); (focus rfl); (focus rfl); (focus rfl); (focus rfl); go_frame) | ((with_reducible apply wq_min3); (focus rfl); (focus rfl); (focus rfl); (focus rfl); go_frame) | go_big_quiet_step (fail))); refine wpQuiet_nil ?_; rintro _ ⟨nq, rfl⟩
          go_wp2
          refine ⟨rfl, .inr ⟨fun hok => ?_, st, rfl⟩, HB0.out.trans ((below_drewN HB3.out _).mono HB0.out.size)⟩
          have := hok k hlt
          rw [HSTEP.out, Int.toNat_natCast, HSP.out] at this
          simp only at this
          omega
        · have hbad' : decide (A > B) = false := by simp; omega
          go_wp2
          refine wp_region_quiet_lit (by kernel_rfl) (by kernel_rfl) ?_; (repeat (first | ((with_reducible apply wq_ix Tryz.underlying24 sz3); (focus rfl); (focus rfl); (focus rfl); (focus omega); (try simp only [Nat.mul_one]); go_frame) | ((with_reducible apply wq_ix Tryz.underlying37 sz50); (focus rfl); (focus rfl); (focus rfl); (focus omega); (try simp only [Nat.mul_one]); go_frame) | ((with_reducible apply wq_ix Tryz.underlying35 sz47); (focus rfl); (focus rfl); (focus rfl); (focus omega); (try simp only [Nat.mul_one]); go_frame) | ((with_reducible apply wq_ix Tryz.underlying90 sz24); (focus rfl); (focus rfl); (focus rfl); (focus omega); (try simp only [Nat.mul_one]); go_frame) | ((with_reducible apply wq_ld ag3); (focus rfl); (focus rfl); (focus (rintro _ ⟨_, rfl⟩; first | exact c1 | exact c2)); go_frame) | ((with_reducible apply wq_ld ag24); (focus rfl); (focus rfl); (focus (rintro _ ⟨_, rfl⟩; first | exact c1 | exact c2)); go_frame) | ((with_reducible apply wq_ld ag37); (focus rfl); (focus rfl); (focus (rintro _ ⟨_, rfl⟩; first | exact c1 | exact c2)); go_frame) | ((with_reducible apply wq_ld ag90); (focus rfl); (focus rfl); (focus (rintro _ ⟨_, rfl⟩; first | exact c1 | exact c2)); go_frame) | ((with_reducible apply wq_ld ag35); (focus rfl); (focus rfl); (focus (rintro _ ⟨_, rfl⟩; first | exact c1 | exact c2)); go_frame) | ((with_reducible apply wq_add); (focus rfl); (focus rfl); (focus rfl); (focus omega); (focus omega); go_frame) | ((with_reducible apply wq_sub); (focus rfl); (focus rfl); (focus rfl); (focus omega); (focus omega); go_frame) | ((with_reducible apply wq_mul); (focus rfl); (focus rfl); (focus rfl); (focus omega); (focus omega); go_frame) | ((with_reducible apply wq_rem); (focus rfl); (focus rfl); (focus rfl); (focus omega); (focus omega); go_frame) | ((with_reducible apply wq_eql); (focus rfl); (focus rfl); (focus rfl); go_frame) | ((with_reducible apply wq_neq); (focus rfl); (focus rfl); (focus rfl); go_frame) | ((with_reducible apply wq_lss); (focus rfl); (focus rfl); (focus rfl); go_frame) | ((with_reducible apply wq_leq); (focus rfl); (focus rfl); (focus rfl); go_frame) | ((with_reducible apply wq_gtr); (focus rfl); (focus rfl); (focus rfl); go_frame) | ((with_reducible apply wq_geq); (focus rfl); (focus rfl); (focus rfl); go_frame) | ((with_reducible apply wq_max2); (focus rfl); (focus rfl); (focus rfl); go_frame) | ((with_reducible apply wq_min2); (focus rfl); (focus rfl); (focus rfl); go_frame) | ((with_reducible apply wq_max3); (focus rfl); (focus rfl); (focus rfl); (focus rfl); go_frame) | ((with_reducible apply wq_min3); (focus rfl); (focus rfl); (focus rfl); (focus rfl); go_frame) | go_big_quiet_step (fail))); refine wpQuiet_nil ?_; rintro _ ⟨nq, rfl⟩
          go_wp2
          go_roundw
          case rel =>
            refine ⟨k + 1, by omega, by go_num, Lib.hid fun j hj => ?_, Lib.hid ((show w3.heap[g]? = _ from HR3.out)), Lib.hid (below_drewN HB3.out _)⟩
            rcases Nat.lt_or_ge j k with h | h
            · exact HOK.out j h
            · obtain rfl : j = k := by omega
              rw [HSTEP.out, Int.toNat_natCast, HSP.out]; simp only; omega
          case measure => simp [intOf]; omega
      · go_simp
        refine hK.out _ _ ?_ (fun hHeld => ?_)
        · (try dsimp only); first | exact ⟨j1, j2⟩ | go_keep | exact ⟨(World.cell?_of_block (Below.heap_setCell _ _ _ _ hgne)).trans j1, (World.cell?_of_block (Below.heap_setCell _ _ _ _ hgne)).trans j2⟩
        clear hK K
        try simp only [Act.put, List.setIfInBounds_toArray, List.set_cons_zero, List.set_cons_succ]
        refine wpAnyH_take (i := 21) (oi := ⟨some 50, _, _, _, _, _⟩) (v := ?_) rfl (by kernel_rfl) (by kernel_rfl) (by kernel_rfl) (fun _ _ _ h => h) (Or.inl ⟨by rfl, ?_⟩) (by assumption) ?_
        rotate_left
        · intro w hSw; (try dsimp only at hSw); go_simp; try with_reducible rfl
        simp only [Act.put, List.setIfInBounds_toArray, List.set_cons_zero, List.set_cons_succ]
        refine wpAnyH_ready (rs := [5]) (by kernel_rfl) (by simp) ?_
        refine AllReadyH.cons (o := ⟨some 34, _, _, _, _, _⟩) rfl (fun K hK => ?_) AllReadyH.nil
        go_simp
        refine hK.out _ _ ?_ (fun hHeld => ?_)
        · (try dsimp only); first | exact ⟨j1, j2⟩ | go_keep | exact ⟨(World.cell?_of_block (Below.heap_setCell _ _ _ _ hgne)).trans j1, (World.cell?_of_block (Below.heap_setCell _ _ _ _ hgne)).trans j2⟩
        clear hK K
        try simp only [Act.put, List.setIfInBounds_toArray, List.set_cons_zero, List.set_cons_succ]
        refine wpAnyH_take (i := 11) (oi := ⟨some 40, _, _, _, _, _⟩) (v := ?_) rfl (by kernel_rfl) (by kernel_rfl) (by kernel_rfl) (fun _ _ _ h => h) (Or.inl ⟨by rfl, ?_⟩) (by assumption) ?_
        rotate_left
        · intro w hSw; (try dsimp only at hSw); go_simp; try with_reducible rfl
        simp only [Act.put, List.setIfInBounds_toArray, List.set_cons_zero, List.set_cons_succ]
        refine wpAnyH_take (i := 22) (oi := ⟨some 51, _, _, _, _, _⟩) (v := ?_) rfl (by kernel_rfl) (by kernel_rfl) (by kernel_rfl) (fun _ _ _ h => h) (Or.inl ⟨by rfl, ?_⟩) (by assumption) ?_
        rotate_left
        · intro w hSw; (try dsimp only at hSw); go_simp; try with_reducible rfl
        simp only [Act.put, List.setIfInBounds_toArray, List.set_cons_zero, List.set_cons_succ]
        refine wpAnyH_take (i := 23) (oi := ⟨some 52, _, _, _, _, _⟩) (v := ?_) rfl (by kernel_rfl) (by kernel_rfl) (by kernel_rfl) (fun _ _ _ h => h) (Or.inl ⟨by rfl, ?_⟩) (by assumption) ?_
        rotate_left
        · intro w hSw; (try dsimp only at hSw); go_simp; try with_reducible rfl
        simp only [Act.put, List.setIfInBounds_toArray, List.set_cons_zero, List.set_cons_succ]
        refine wpAnyH_ready (rs := [24]) (by kernel_rfl) (by simp) ?_
        refine AllReadyH.cons (o := ⟨none, _, _, _, _, _⟩) rfl (fun K hK => ?_) AllReadyH.nil
        go_simp
        refine hK.out _ _ ?_ (fun hHeld => ?_)
        · (try dsimp only); first | exact ⟨j1, j2⟩ | go_keep | exact ⟨(World.cell?_of_block (Below.heap_setCell _ _ _ _ hgne)).trans j1, (World.cell?_of_block (Below.heap_setCell _ _ _ _ hgne)).trans j2⟩
        clear hK K
        try simp only [Act.put, List.setIfInBounds_toArray, List.set_cons_zero, List.set_cons_succ]
        refine wpAnyH_take (i := 25) (oi := ⟨some 53, _, _, _, _, _⟩) (v := ?_) rfl (by kernel_rfl) (by kernel_rfl) (by kernel_rfl) (fun _ _ _ h => h) (Or.inl ⟨by rfl, ?_⟩) (by assumption) ?_
        rotate_left
        · intro w hSw; (try dsimp only at hSw); go_simp; try with_reducible rfl
        simp only [Act.put, List.setIfInBounds_toArray, List.set_cons_zero, List.set_cons_succ]
        refine wpAnyH_take (i := 26) (oi := ⟨some 54, _, _, _, _, _⟩) (v := ?_) rfl (by kernel_rfl) (by kernel_rfl) (by kernel_rfl) (fun _ _ _ h => h) (Or.inl ⟨by rfl, ?_⟩) (by assumption) ?_
        rotate_left
        · intro w hSw; (try dsimp only at hSw); go_simp; try with_reducible rfl
        simp only [Act.put, List.setIfInBounds_toArray, List.set_cons_zero, List.set_cons_succ]
        refine wpAnyH_ready (rs := [27]) (by kernel_rfl) (by simp) ?_
        refine AllReadyH.cons (o := ⟨none, _, _, _, _, _⟩) rfl (fun K hK => ?_) AllReadyH.nil
        go_simp
        refine hK.out _ _ ?_ (fun hHeld => ?_)
        · (try dsimp only); first | exact ⟨j1, j2⟩ | go_keep | exact ⟨(World.cell?_of_block (Below.heap_setCell _ _ _ _ hgne)).trans j1, (World.cell?_of_block (Below.heap_setCell _ _ _ _ hgne)).trans j2⟩
        clear hK K
        try simp only [Act.put, List.setIfInBounds_toArray, List.set_cons_zero, List.set_cons_succ]
        refine wpAnyH_done (by kernel_rfl) ?_ _
        have HR3 := Lib.hid (show RowS ((wg.setCell ⟨g, st * 2, none⟩ (.int .i64 (max L0 (hgt - hof)))).setCell ⟨g, st * 2 + 1, none⟩ (.int .i64 (min U0 (hgt + hof)))) g (gaTo lo hi n gs (k + 1)) by
          rw [HST.out]; exact HRG.out.set (i := st) (by rw [gaTo_length]; exact hstn) (max L0 (hgt - hof), min U0 (hgt + hof)))
        have hsp : spn (gaTo lo hi n gs (k + 1)) st = (max L0 (hgt - hof), min U0 (hgt + hof)) := by rw [HST.out, spn_set _ _ _ (by rw [gaTo_length]; exact hstn), if_pos rfl]
        obtain ⟨c1, c2⟩ := HR3.out.at (i := st) (by rw [gaTo_length]; exact hstn)
        rw [hsp] at c1 c2
        have j0' : ((wg.setCell ⟨g, st * 2, none⟩ (.int .i64 (max L0 (hgt - hof)))).setCell ⟨g, st * 2 + 1, none⟩ (.int .i64 (min U0 (hgt + hof)))).cell? ⟨wr.heap.size, 0, none⟩ = some (.int .i64 st) :=
          (World.cell?_of_block (Below.heap_setCell _ _ _ _ hgne)).trans ((World.cell?_of_block (Below.heap_setCell _ _ _ _ hgne)).trans j0)
        have HB3 := Lib.hid (show Below w0.heap.size w0 ((wg.setCell ⟨g, st * 2, none⟩ (.int .i64 (max L0 (hgt - hof)))).setCell ⟨g, st * 2 + 1, none⟩ (.int .i64 (min U0 (hgt + hof)))) from
          ((HB.out.trans (HBG.out.mono HB.out.size)).setCell (by have := HGZ.out; show w0.heap.size ≤ g; omega) _).setCell (by have := HGZ.out; show w0.heap.size ≤ g; omega) _)
        have HSP := Lib.hid hsp
        generalize (wg.setCell ⟨g, st * 2, none⟩ (.int .i64 (max L0 (hgt - hof)))).setCell ⟨g, st * 2 + 1, none⟩ (.int .i64 (min U0 (hgt + hof))) = w3 at *
        clear j0 j1 j2 f1 f2 z1 z2 hsp hw1 hw2
        obtain ⟨A, hA⟩ : ∃ A, A = max L0 (hgt - hof) := ⟨_, rfl⟩
        obtain ⟨B, hB⟩ : ∃ B, B = min U0 (hgt + hof) := ⟨_, rfl⟩
        rw [← hA] at c1 HSP
        rw [← hB] at c2 HSP
        have HA := Lib.hid hA
        have HBB := Lib.hid hB
        clear hA hB
        by_cases hbad : A > B
        · have hbad' : decide (A > B) = true := by simp; omega
          go_wp2
          refine wp_region_quiet_lit (by kernel_rfl) (by kernel_rfl) ?_; (repeat (first | ((with_reducible apply wq_ix Tryz.underlying24 sz3); (focus rfl); (focus rfl); (focus rfl); (focus omega); (try simp only [Nat.mul_one]); go_frame) | ((with_reducible apply wq_ix Tryz.underlying37 sz50); (focus rfl); (focus rfl); (focus rfl); (focus omega); (try simp only [Nat.mul_one]); go_frame) | ((with_reducible apply wq_ix Tryz.underlying35 sz47); (focus rfl); (focus rfl); (focus rfl); (focus omega); (try simp only [Nat.mul_one]); go_frame) | ((with_reducible apply wq_ix Tryz.underlying90 sz24); (focus rfl); (focus rfl); (focus rfl); (focus omega); (try simp only [Nat.mul_one]); go_frame) | ((with_reducible apply wq_ld ag3); (focus rfl); (focus rfl); (focus (rintro _ ⟨_, rfl⟩; first | exact c1 | exact c2)); go_frame) | ((with_reducible apply wq_ld ag24); (focus rfl); (focus rfl); (focus (rintro _ ⟨_, rfl⟩; first | exact c1 | exact c2)); go_frame) | ((with_reducible apply wq_ld ag37); (focus rfl); (focus rfl); (focus (rintro _ ⟨_, rfl⟩; first | exact c1 | exact c2)); go_frame) | ((with_reducible apply wq_ld ag90); (focus rfl); (focus rfl); (focus (rintro _ ⟨_, rfl⟩; first | exact c1 | exact c2)); go_frame) | ((with_reducible apply wq_ld ag35); (focus rfl); (focus rfl); (focus (rintro _ ⟨_, rfl⟩; first | exact c1 | exact c2)); go_frame) | ((with_reducible apply wq_add); (focus rfl); (focus rfl); (focus rfl); (focus omega); (focus omega); go_frame) | ((with_reducible apply wq_sub); (focus rfl); (focus rfl); (focus rfl); (focus omega); (focus omega); go_frame) | ((with_reducible apply wq_mul); (focus rfl); (focus rfl); (focus rfl); (focus omega); (focus omega); go_frame) | ((with_reducible apply wq_rem); (focus rfl); (focus rfl); (focus rfl); (focus omega); (focus omega); go_frame) | ((with_reducible apply wq_eql); (focus rfl); (focus rfl); (focus rfl); go_frame) | ((with_reducible apply wq_neq); (focus rfl); (focus rfl); (focus rfl); go_frame) | ((with_reducible apply wq_lss); (focus rfl); (focus rfl); (focus rfl); go_frame) | ((with_reducible apply wq_leq); (focus rfl); (focus rfl); (focus rfl); go_frame) | ((with_reducible apply wq_gtr); (focus rfl); (focus rfl); (focus rfl); go_frame) | ((with_reducible apply wq_geq); (focus rfl); (focus rfl); (focus rfl); go_frame) | ((with_reducible apply wq_max2); (focus rfl); (focus rfl); (focus rfl); go_frame) | ((with_reducible apply wq_min2); (focus rfl); (focus rfl); (focus rfl); go_frame) | ((with_reducible apply wq_max3); (focus rfl); (focus rfl); (focus rfl); (focus rfl); go_frame) | ((with_reducible apply wq_min3); (focus rfl); (focus rfl); (focus rfl); (focus rfl); go_frame) | go_big_quiet_step (fail))); refine wpQuiet_nil ?_; rintro _ ⟨nq, rfl⟩
          go_wp2
          refine ⟨rfl, .inr ⟨fun hok => ?_, st, rfl⟩, HB0.out.trans ((below_drewN HB3.out _).mono HB0.out.size)⟩
          have := hok k hlt
          rw [HSTEP.out, Int.toNat_natCast, HSP.out] at this
          simp only at this
          omega
        · have hbad' : decide (A > B) = false := by simp; omega
          go_wp2
          refine wp_region_quiet_lit (by kernel_rfl) (by kernel_rfl) ?_; (repeat (first | ((with_reducible apply wq_ix Tryz.underlying24 sz3); (focus rfl); (focus rfl); (focus rfl); (focus omega); (try simp only [Nat.mul_one]); go_frame) | ((with_reducible apply wq_ix Tryz.underlying37 sz50); (focus rfl); (focus rfl); (focus rfl); (focus omega); (try simp only [Nat.mul_one]); go_frame) | ((with_reducible apply wq_ix Tryz.underlying35 sz47); (focus rfl); (focus rfl); (focus rfl); (focus omega); (try simp only [Nat.mul_one]); go_frame) | ((with_reducible apply wq_ix Tryz.underlying90 sz24); (focus rfl); (focus rfl); (focus rfl); (focus omega); (try simp only [Nat.mul_one]); go_frame) | ((with_reducible apply wq_ld ag3); (focus rfl); (focus rfl); (focus (rintro _ ⟨_, rfl⟩; first | exact c1 | exact c2)); go_frame) | ((with_reducible apply wq_ld ag24); (focus rfl); (focus rfl); (focus (rintro _ ⟨_, rfl⟩; first | exact c1 | exact c2)); go_frame) | ((with_reducible apply wq_ld ag37); (focus rfl); (focus rfl); (focus (rintro _ ⟨_, rfl⟩; first | exact c1 | exact c2)); go_frame) | ((with_reducible apply wq_ld ag90); (focus rfl); (focus rfl); (focus (rintro _ ⟨_, rfl⟩; first | exact c1 | exact c2)); go_frame) | ((with_reducible apply wq_ld ag35); (focus rfl); (focus rfl); (focus (rintro _ ⟨_, rfl⟩; first | exact c1 | exact c2)); go_frame) | ((with_reducible apply wq_add); (focus rfl); (focus rfl); (focus rfl); (focus omega); (focus omega); go_frame) | ((with_reducible apply wq_sub); (focus rfl); (focus rfl); (focus rfl); (focus omega); (focus omega); go_frame) | ((with_reducible apply wq_mul); (focus rfl); (focus rfl); (focus rfl); (focus omega); (focus omega); go_frame) | ((with_reducible apply wq_rem); (focus rfl); (focus rfl); (focus rfl); (focus omega); (focus omega); go_frame) | ((with_reducible apply wq_eql); (focus rfl); (focus rfl); (focus rfl); go_frame) | ((with_reducible apply wq_neq); (focus rfl); (focus rfl); (focus rfl); go_frame) | ((with_reducible apply wq_lss); (focus rfl); (focus rfl); (focus rfl); go_frame) | ((with_reducible apply wq_leq); (focus rfl); (focus rfl); (focus rfl); go_frame) | ((with_reducible apply wq_gtr); (focus rfl); (focus rfl); (focus rfl); go_frame) | ((with_reducible apply wq_geq); (focus rfl); (focus rfl); (focus rfl); go_frame) | ((with_reducible apply wq_max2); (focus rfl); (focus rfl); (focus rfl); go_frame) | ((with_reducible apply wq_min2); (focus rfl); (focus rfl); (focus rfl); go_frame) | ((with_reducible apply wq_max3); (focus rfl); (focus rfl); (focus rfl); (focus rfl); go_frame) | ((with_reducible apply wq_min3); (focus rfl); (focus rfl); (focus rfl); (focus rfl); go_frame) | go_big_quiet_step (fail))); refine wpQuiet_nil ?_; rintro _ ⟨nq, rfl⟩
          go_wp2
          go_roundw
          case rel =>
            refine ⟨k + 1, by omega, by go_num, Lib.hid fun j hj => ?_, Lib.hid ((show w3.heap[g]? = _ from HR3.out)), Lib.hid (below_drewN HB3.out _)⟩
            rcases Nat.lt_or_ge j k with h | h
            · exact HOK.out j h
            · obtain rfl : j = k := by omega
              rw [HSTEP.out, Int.toNat_natCast, HSP.out]; simp only; omega
          case measure => simp [intOf]; omega
    · obtain rfl : k = gs.length := by omega
      go_wp2
      go_ret
      exact ⟨.inl ⟨HOK.out, g, rfl, by have := HGZ.out; have := HB0.out.size; omega, HR.out⟩, HB0.out.trans (HB.out.mono HB0.out.size)⟩
end Go.Proofs.YtncfgkhbenmpoaaGreatDoor
end
