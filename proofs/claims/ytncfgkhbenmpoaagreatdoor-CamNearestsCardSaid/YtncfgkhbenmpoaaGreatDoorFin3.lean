/-
  The first law: the nearest cam, shown (the walk).
  The law CamNearests: its card. Conditions: none of the input; the tables of the library that the row lists are as the program lays them (the tie is given).
-/
import Derived.Test.YtncfgkhbenmpoaaGreatDoorGh
import Derived.Test.YtncfgkhbenmpoaaGreatDoorGi
import Derived.Test.YtncfgkhbenmpoaaGreatDoorGj
import Derived.Test.YtncfgkhbenmpoaaGreatDoorGt
import Derived.Test.YtncfgkhbenmpoaaGreatDoorCards
section
namespace Go.Proofs.YtncfgkhbenmpoaaGreatDoor
open Go Go.RowKit Go.Proofs Go.Shelf
set_option linter.unusedVariables false

set_option maxRecDepth 100000 in
theorem c26_no (lo hi sl ch : Int) (q : Option Addr) (cap : Nat) (want : List Int) (w : World) (hx : RdI w q want) (hl : want.length ≤ 1000) (h : (ruleB lo hi sl ch && camB want) = false) :
    Calls Tryz.prog 26 #[.agg #[.int .i64 lo, .int .i64 hi, .int .i64 sl, .int .i64 ch], .slice q want.length cap] w fun e w' => e = .returned (.tuple #[.slice none 0 0, .int .i64 0, .int .i64 2]) ∧ Below w.heap.size w w' := by
  obtain ⟨w0, e0, HS0, k0, k1, k2, k3, b0⟩ := box4 w (.int .i64 lo) (.int .i64 hi) (.int .i64 sl) (.int .i64 ch) 23
  have HX := Lib.hid (hx.below b0)
  have HB0 := Lib.hid b0
  have h82 := c82 lo hi sl ch w0
  have H := Lib.hid h
  clear hx b0 h
  cases hr : ruleB lo hi sl ch with
  | false =>
    rw [hr] at h82
    clear hr
    go_enter Tryz.func26, Tryz.ntmps26
    go_wp2_with fail
    refine h82.mono ?_
    rintro e w1 ⟨rfl, b1⟩
    have HB1 := Lib.hid (HB0.out.trans (b1.mono HB0.out.size))
    clear h82 b1 k0 k1 k2 k3 e0
    go_wp2
    go_ret3
    exact ⟨rfl, HB1.out⟩
  | true =>
    have hc : camB want = false := by have := H.out; rw [hr] at this; simpa using this
    rw [hr] at h82
    clear hr
    go_enter Tryz.func26, Tryz.ntmps26
    go_wp2_with fail
    refine h82.mono ?_
    rintro e w1 ⟨rfl, b1⟩
    have HB1 := Lib.hid (HB0.out.trans (b1.mono HB0.out.size))
    have h83 := c83 q cap want w1 (HX.out.below b1) (by omega)
    rw [hc] at h83
    clear h82 b1 k0 k1 k2 k3 e0 hc
    go_wp2_with fail
    refine h83.mono ?_
    rintro e w' ⟨rfl, rfl⟩
    go_wp2
    go_ret3
    exact ⟨rfl, HB1.out⟩

set_option maxRecDepth 100000 in
set_option maxHeartbeats 1000000 in
theorem law3 (lo hi sl ch : Int) (q : Option Addr) (cap : Nat) (want : List Int) (w : World) (hx : RdI w q want) :
    Calls Tryz.prog 3 #[.agg #[.int .i64 lo, .int .i64 hi, .int .i64 sl, .int .i64 ch], .slice q want.length cap] w (LawPost w) := by
  obtain ⟨w0, e0, HS0, k0, k1, k2, k3, b0⟩ := box4 w (.int .i64 lo) (.int .i64 hi) (.int .i64 sl) (.int .i64 ch) 23
  have HX := Lib.hid (hx.below b0)
  have HB0 := Lib.hid b0
  have h24 := c24 q want.length cap w0
  clear hx b0
  by_cases hsh : want.length ≤ 27
  case neg =>
    rw [decide_eq_false hsh] at h24
    have h25 := c25 w0
    clear hsh
    go_enter Tryz.func3, Tryz.ntmps3
    go_wp2_with fail
    refine h24.mono ?_
    rintro e w' ⟨rfl, rfl⟩
    go_wp2_with fail
    refine h25.mono ?_
    rintro e w2 ⟨rfl, b2⟩
    have HB2 := Lib.hid (HB0.out.trans (b2.mono HB0.out.size))
    clear b2
    go_wp2
    go_ret
    exact ⟨rfl, HB2.out⟩
  case pos =>
    rw [decide_eq_true hsh] at h24
    have HSH := Lib.hid hsh
    clear hsh
    cases hok : (ruleB lo hi sl ch && camB want) with
    | false =>
      have HOK := Lib.hid hok
      have h26 := c26_no lo hi sl ch q cap want w0 HX.out (by have := HSH.out; omega) hok
      clear hok
      go_enter Tryz.func3, Tryz.ntmps3
      go_wp2_with fail
      refine h24.mono ?_
      rintro e w' ⟨rfl, rfl⟩
      go_wp2_with fail
      refine h26.mono ?_
      rintro e w2 ⟨rfl, b2⟩
      have HB2 := Lib.hid (HB0.out.trans (b2.mono HB0.out.size))
      have HX2 := Lib.hid (HX.out.below b2)
      have j0 := (b2.cell (lt_of_cellq k0)).trans k0
      have j1 := (b2.cell (lt_of_cellq k1)).trans k1
      have j2 := (b2.cell (lt_of_cellq k2)).trans k2
      have j3 := (b2.cell (lt_of_cellq k3)).trans k3
      have h27 := c27 lo hi sl ch w2
      clear b2 h26 h24 k0 k1 k2 k3 e0
      cases hr : ruleB lo hi sl ch with
      | false =>
        rw [hr] at h27
        clear hr
        go_wp2_with fail
        refine h27.mono ?_
        rintro e w3 ⟨rfl, b3⟩
        have HB3 := Lib.hid (HB2.out.trans (b3.mono HB2.out.size))
        have h25 := c25 w3
        clear b3 h27 j0 j1 j2 j3
        go_wp2_with fail
        refine h25.mono ?_
        rintro e w4 ⟨rfl, b4⟩
        have HB4 := Lib.hid (HB3.out.trans (b4.mono HB3.out.size))
        clear b4 h25
        go_wp2
        go_ret
        exact ⟨rfl, HB4.out⟩
      | true =>
        have hc : camB want = false := by have := HOK.out; rw [hr] at this; simpa using this
        rw [hr] at h27
        clear hr
        go_wp2_with fail
        refine h27.mono ?_
        rintro e w3 ⟨rfl, b3⟩
        have HB3 := Lib.hid (HB2.out.trans (b3.mono HB2.out.size))
        have h28 := c28 q cap want w3 (HX2.out.below b3) (by have := HSH.out; omega)
        rw [hc] at h28
        have h25 := c25 w3
        clear b3 h27 j0 j1 j2 j3 hc
        go_wp2_with fail
        refine h28.mono ?_
        rintro e w' ⟨rfl, rfl⟩
        go_wp2_with fail
        refine h25.mono ?_
        rintro e w4 ⟨rfl, b4⟩
        have HB4 := Lib.hid (HB3.out.trans (b4.mono HB3.out.size))
        clear b4 h25
        go_wp2
        go_ret
        exact ⟨rfl, HB4.out⟩
    | true =>
      rw [Bool.and_eq_true] at hok
      obtain ⟨hr, hc⟩ := hok
      have HR := Lib.hid hr
      have HC := Lib.hid hc
      have h26 := c26_ok lo hi sl ch q cap want w0 HX.out hr hc
      clear hr hc
      go_enter Tryz.func3, Tryz.ntmps3
      go_wp2_with fail
      refine h24.mono ?_
      rintro e w' ⟨rfl, rfl⟩
      go_wp2_with fail
      refine h26.mono ?_
      rintro e w2 ⟨⟨p, c, rfl, hrd⟩, b2⟩
      have HB2 := Lib.hid (HB0.out.trans (b2.mono HB0.out.size))
      have HX2 := Lib.hid (HX.out.below b2)
      have HL := Lib.hid (nearest_law HR.out HC.out).2.1
      obtain ⟨nl, hnl⟩ : ∃ nl, (nearestF lo hi sl ch want).1 = nl := ⟨_, rfl⟩
      obtain ⟨nn, hnn⟩ : ∃ nn, (nearestF lo hi sl ch want).2 = nn := ⟨_, rfl⟩
      rw [hnl] at hrd HL ⊢
      rw [hnn]
      have HNL := Lib.hid hnl
      have HNN := Lib.hid hnn
      have HRD := Lib.hid hrd
      have j0 := (b2.cell (lt_of_cellq k0)).trans k0
      have j1 := (b2.cell (lt_of_cellq k1)).trans k1
      have j2 := (b2.cell (lt_of_cellq k2)).trans k2
      have j3 := (b2.cell (lt_of_cellq k3)).trans k3
      have h27 := c27 lo hi sl ch w2
      rw [HR.out] at h27
      clear b2 h26 h24 k0 k1 k2 k3 e0 hnl hnn hrd
      go_wp2_with fail
      refine h27.mono ?_
      rintro e w3 ⟨rfl, b3⟩
      have HB3 := Lib.hid (HB2.out.trans (b3.mono HB2.out.size))
      have HX3 := Lib.hid (HX2.out.below b3)
      have HRD3 := Lib.hid (HRD.out.below b3)
      have h28 := c28 q cap want w3 HX3.out (by have := HSH.out; omega)
      rw [HC.out] at h28
      have h29 := c29 lo hi sl ch q cap want w3 HX3.out HR.out HC.out
      have l0 := (b3.cell (lt_of_cellq j0)).trans j0
      have l1 := (b3.cell (lt_of_cellq j1)).trans j1
      have l2 := (b3.cell (lt_of_cellq j2)).trans j2
      have l3 := (b3.cell (lt_of_cellq j3)).trans j3
      clear b3 h27 j0 j1 j2 j3
      go_wp2_with fail
      refine h28.mono ?_
      rintro e w' ⟨rfl, rfl⟩
      go_wp2_with fail
      refine h29.mono ?_
      rintro e w4 ⟨⟨p2, c2, rfl, hrd2⟩, b4⟩
      rw [HNL.out] at hrd2 ⊢
      rw [HNN.out]
      have HB4 := Lib.hid (HB3.out.trans (b4.mono HB3.out.size))
      have h30 := c30 p c nl p2 c2 nl w4 (HRD3.out.below b4) hrd2 (by have := HL.out; have := HSH.out; omega)
      rw [decide_eq_true rfl] at h30
      clear b4 h28 h29 l0 l1 l2 l3 hrd2
      have hnn2 : (nn == nn) = true := by simp
      go_wp2_with fail
      refine h30.mono ?_
      rintro e w5 ⟨rfl, n, rfl⟩
      have HB5 := Lib.hid (below_drewN HB4.out n)
      have h25 := c25 (w4.drewN n)
      clear h30
      go_wp2_with fail
      refine h25.mono ?_
      rintro e w6 ⟨rfl, b6⟩
      have HB6 := Lib.hid (HB5.out.trans (b6.mono HB5.out.size))
      clear b6 h25
      go_wp2
      go_ret
      exact ⟨rfl, HB6.out⟩
end Go.Proofs.YtncfgkhbenmpoaaGreatDoor
end

section
namespace Go.Proofs.YtncfgkhbenmpoaaGreatDoor
open Go Go.ChangeShapes Go.WideShapes Go.ChangeAt Go.RowKit Go.Proofs
set_option linter.unusedVariables false

set_option maxRecDepth 100000 in
theorem camNearests_lifted (os : Os) (started : os.Started) (H : Type) (enc : TypeId × Value → H) :
    ReturnsInHanded {} Tryz.checked os 3 .any (fun w args => (Rows.camNearestsSpec.pre enc Tryz.prog Tryz.f3 [] false w args ∧ laidMetH Tryz.prog lay3 w) ∧ sizedMet enc Tryz.prog Tryz.f3 (OpenSpec.ofChange Rows.camNearestsSpec) false w args)
      (Rows.camNearestsSpec.post enc Tryz.prog Tryz.f3 false true false false) := by
  refine returnsInHanded_of_change_and (C := Tryz.checked) (X := fun w _ => laidMetH Tryz.prog lay3 w) (fun _ _ _ hh h => h.of_heap hh) ownT started (by kernel_rfl) Tryz.func3
    (ChangeSpec.witness_shaped (enc := enc) (C := Tryz.checked) (os := os) (X := fun w _ => laidMetH Tryz.prog lay3 w) false (World.laidAll Tryz.prog os lay3) #[.agg #[.int .i64 0, .int .i64 0, .int .i64 0, .int .i64 0], .slice none 0 0] 12 (World.laidAll_os _ _ _)
      (World.shaped_of_ZipB (by kernel_rfl) (by kernel_rfl)) (by kernel_rfl) (by kernel_rfl) (by kernel_rfl)
      (by rw [MakeChecks.laidMetH_plain _ _ _ (by kernel_rfl)]; exact laidMet_laidAll _ (by kernel_rfl) (by kernel_rfl))) ?_
  intro W base args ds gs before hval0 hW _ _ _ _
  have hval : ∀ (j : Nat) t v, Tryz.f3.params[j]? = some t → args[j]? = some v → Value.okWide Tryz.prog W .any base t v := hval0
  have hW' := hW
  obtain ⟨p, q, hA0, hV, rfl, _, _⟩ := hW
  have hA : DataW.TrodAll enc Tryz.prog W 0 (fun _ => true) true Tryz.f3.params.toList args.toList ds p := hA0
  rw [Tryz.params3] at hA hval
  obtain ⟨v0, vs0, d0, ds0, p0, q0, hargs, rfl, rfl, h0, r0⟩ := trodAll_cons hA
  obtain ⟨v1, vs1, d1, ds1, p1, q1, rfl, rfl, rfl, h1, r1⟩ := trodAll_cons r0
  obtain ⟨rfl, rfl, rfl⟩ := trodAll_nil r1
  obtain rfl : args = #[v0, v1] := by cases args; simp_all
  obtain ⟨rfl, rfl⟩ := trodVars_none hV
  obtain ⟨lo0, hi0, sl0, ch0, rfl⟩ := op23 (hval 0 23 v0 rfl rfl) h0
  obtain ⟨b1, c1, xs1, rfl, rd1, hl1⟩ := op24 (hval 1 24 v1 rfl rfl) h1
  clear hA0 hval0
  refine (law3 lo0 hi0 sl0 ch0 b1 c1 xs1 W rd1).mono fun e W' ⟨he, bel⟩ => ?_
  subst he
  exact ⟨_, rfl, _, _, _, [], _, [], hW', trodAll_mk1 (shut_bool Tryz.underlying4 _), (trodAll_cons_mk (Below.trod laidOutT (by kernel_rfl) (of_decide_eq_true (by kernel_rfl)) h0 bel (trod_lt h0)) (trodAll_cons_mk (Below.trod laidOutT (by kernel_rfl) (of_decide_eq_true (by kernel_rfl)) h1 bel (trod_lt h1)) trodAll_mk0)), rfl, bel.frame _, fun h => by cases h⟩
theorem camNearests_wf : Rows.camNearestsRow.wf (OpenSpec.ofChange Rows.camNearestsSpec) = true := by kernel_rfl
theorem camNearests_inPlace : (Rows.camNearestsRow.inPlace == Tryz.prog.inPlace 3) = true := by kernel_rfl
theorem camNearests_unfollowed : (Rows.camNearestsRow.unfollowed == Tryz.prog.unfollowed 3) = true := by kernel_rfl
theorem camNearests_recurses : (Rows.camNearestsRow.recurses == Tryz.prog.recurses 3) = true := by kernel_rfl
theorem camNearests_named : (Rows.camNearestsRow.named == Tryz.prog.varsNamed 3) = true := by kernel_rfl
theorem camNearests_goes : false = Rows.camNearestsRow.goesBy Tryz.prog := by kernel_rfl
theorem camNearests_func : Tryz.prog.funcNamed Rows.camNearestsRow.func = some 3 := by kernel_rfl
theorem camNearests_text : Rows.camNearestsRow.wfByText (OpenSpec.ofChange Rows.camNearestsSpec) = true := by kernel_rfl
theorem camNearests_closed : joinedFacts Tryz.prog 3 Tryz.f3 Rows.camNearestsSpec Rows.camNearestsRow = true :=
  (and_t (and_t (and_t (and_t (and_t (and_t (and_t (and_t (and_t (and_t (and_t (and_t (and_t (and_t (and_t (and_t (and_t (and_t (and_t (and_t (and_t (and_t (and_t (and_t (and_t (and_t (and_t (and_t (and_t (and_t (and_t camNearests_wf tLaidOut) tMaps) (by kernel_rfl)) (by kernel_rfl)) (by kernel_rfl)) (by kernel_rfl)) (by kernel_rfl)) (by kernel_rfl)) camNearests_inPlace) camNearests_unfollowed) camNearests_recurses) camNearests_named) (by kernel_rfl)) (by kernel_rfl)) (by kernel_rfl)) (by kernel_rfl)) (by kernel_rfl)) (by kernel_rfl)) (by kernel_rfl)) (by kernel_rfl)) (by kernel_rfl)) (by kernel_rfl)) (by kernel_rfl)) tHeard) tMayEnter) (eq_t (α := Bool) tFinal.symm)) (eq_t tMake)) (by kernel_rfl)) (by kernel_rfl)) (by kernel_rfl)) (by kernel_rfl))
theorem camNearests_wrap : Func.isWrapper Tryz.prog Tryz.f3 Rows.camNearestsRow.wrapper Rows.camNearestsRow.mainSum := by unfold Func.isWrapper; rw [if_neg (of_decide_eq_false (by kernel_rfl))]; exact ⟨rfl, rfl⟩
theorem camNearests_row : Rows.CamNearestsSaid :=
  OpenClaim.holds_of_wide 3 Tryz.f3 rfl rfl rfl rfl rfl rfl rfl ⟨rfl, rfl, rfl, rfl, rfl⟩ rfl rfl rfl rfl rfl camNearests_func Tryz.func3 camNearests_closed (of_decide_eq_true (by kernel_rfl)) camNearests_wrap (fun os started H enc _ => camNearests_lifted os started H enc)
theorem camNearests_plain : ∀ (j : Nat) t, Tryz.f3.params[j]? = some t → Tryz.prog.wantsStandIn t = false := fun j t ht => by
  rw [Tryz.params3] at ht
  have hm : t ∈ [23, 24] := by simpa using Array.mem_of_getElem? ht
  have hall : ([23, 24].all fun u => !Tryz.prog.wantsStandIn u) = true := by kernel_rfl
  exact (show Tryz.prog.wantsStandIn t = false by simpa using List.all_eq_true.1 hall t hm)
theorem camNearests_holds : Rows.CamNearestsCardSaid :=
  Claim7.holds_tied_plain_at .later [] [.data, .data, .data] true (true, "985ec80ef9f166c509f88728729dbb443cbd59a290a76d8409e815b6bbda0ad3") true camNearests_row (fun _ h => by cases h) camNearests_text (fun _ h => by cases h) camNearests_row_tie rfl ⟨rfl, rfl⟩ tMainIs rfl
    (fun f fn hf hfn => by
      obtain rfl : f = 3 := Option.some.inj (camNearests_func.symm.trans hf) |>.symm
      obtain rfl : fn = Tryz.f3 := (Option.some.inj (Tryz.func3.symm.trans hfn)).symm
      exact ⟨tLooks, camNearests_plain⟩)
    camNearests_goes
#print axioms camNearests_holds
end Go.Proofs.YtncfgkhbenmpoaaGreatDoor
end
