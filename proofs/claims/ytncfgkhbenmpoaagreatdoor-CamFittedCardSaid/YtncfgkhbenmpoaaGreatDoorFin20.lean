/-
  The law CamFitted: its card. Conditions: none of the input; the tables of the library that the row lists are as the program lays them (the tie is given).
-/
import Derived.Test.YtncfgkhbenmpoaaGreatDoorGj
import Derived.Test.YtncfgkhbenmpoaaGreatDoorGt
import Derived.Test.YtncfgkhbenmpoaaGreatDoorGp
import Derived.Test.YtncfgkhbenmpoaaGreatDoorCards
section
namespace Go.Proofs.YtncfgkhbenmpoaaGreatDoor
open Go Go.ChangeShapes Go.WideShapes Go.ChangeAt Go.RowKit Go.Proofs
set_option linter.unusedVariables false

set_option maxRecDepth 100000 in
theorem camFitted_lifted (os : Os) (started : os.Started) (H : Type) (enc : TypeId × Value → H) :
    ReturnsInHanded {} Tryz.checked os 20 .any (fun w args => (Rows.camFittedSpec.pre enc Tryz.prog Tryz.f20 [] false w args ∧ laidMetH Tryz.prog lay3 w) ∧ sizedMet enc Tryz.prog Tryz.f20 (OpenSpec.ofChange Rows.camFittedSpec) false w args)
      (Rows.camFittedSpec.post enc Tryz.prog Tryz.f20 false true false false) := by
  refine returnsInHanded_of_change_and (C := Tryz.checked) (X := fun w _ => laidMetH Tryz.prog lay3 w) (fun _ _ _ hh h => h.of_heap hh) ownT started (by kernel_rfl) Tryz.func20
    (ChangeSpec.witness_shaped (enc := enc) (C := Tryz.checked) (os := os) (X := fun w _ => laidMetH Tryz.prog lay3 w) false (World.laidAll Tryz.prog os lay3) #[.agg #[.int .i64 0, .int .i64 0, .int .i64 0, .int .i64 0], .slice none 0 0, .slice none 0 0] 12 (World.laidAll_os _ _ _)
      (World.shaped_of_ZipB (by kernel_rfl) (by kernel_rfl)) (by kernel_rfl) (by kernel_rfl) (by kernel_rfl)
      (by rw [MakeChecks.laidMetH_plain _ _ _ (by kernel_rfl)]; exact laidMet_laidAll _ (by kernel_rfl) (by kernel_rfl))) ?_
  intro W base args ds gs before hval0 hW _ _ _ _
  have hval : ∀ (j : Nat) t v, Tryz.f20.params[j]? = some t → args[j]? = some v → Value.okWide Tryz.prog W .any base t v := hval0
  have hW' := hW
  obtain ⟨p, q, hA0, hV, rfl, _, _⟩ := hW
  have hA : DataW.TrodAll enc Tryz.prog W 0 (fun _ => true) true Tryz.f20.params.toList args.toList ds p := hA0
  rw [Tryz.params20] at hA hval
  obtain ⟨v0, vs0, d0, ds0, p0, q0, hargs, rfl, rfl, h0, r0⟩ := trodAll_cons hA
  obtain ⟨v1, vs1, d1, ds1, p1, q1, rfl, rfl, rfl, h1, r1⟩ := trodAll_cons r0
  obtain ⟨v2, vs2, d2, ds2, p2, q2, rfl, rfl, rfl, h2, r2⟩ := trodAll_cons r1
  obtain ⟨rfl, rfl, rfl⟩ := trodAll_nil r2
  obtain rfl : args = #[v0, v1, v2] := by cases args; simp_all
  obtain ⟨rfl, rfl⟩ := trodVars_none hV
  obtain ⟨lo0, hi0, sl0, ch0, rfl⟩ := op23 (hval 0 23 v0 rfl rfl) h0
  obtain ⟨b1, c1, xs1, rfl, rd1, hl1⟩ := op24 (hval 1 24 v1 rfl rfl) h1
  obtain ⟨b2, c2, xs2, rfl, rd2, hl2⟩ := op24 (hval 2 24 v2 rfl rfl) h2
  clear hA0 hval0
  refine (law20 lo0 hi0 sl0 ch0 b1 c1 xs1 b2 c2 xs2 W rd1 rd2).mono fun e W' ⟨he, bel⟩ => ?_
  subst he
  exact ⟨_, rfl, _, _, _, [], _, [], hW', trodAll_mk1 (shut_bool Tryz.underlying4 _), (trodAll_cons_mk (Below.trod laidOutT (by kernel_rfl) (of_decide_eq_true (by kernel_rfl)) h0 bel (trod_lt h0)) (trodAll_cons_mk (Below.trod laidOutT (by kernel_rfl) (of_decide_eq_true (by kernel_rfl)) h1 bel (trod_lt h1)) (trodAll_cons_mk (Below.trod laidOutT (by kernel_rfl) (of_decide_eq_true (by kernel_rfl)) h2 bel (trod_lt h2)) trodAll_mk0))), rfl, bel.frame _, fun h => by cases h⟩
theorem camFitted_wf : Rows.camFittedRow.wf (OpenSpec.ofChange Rows.camFittedSpec) = true := by kernel_rfl
theorem camFitted_inPlace : (Rows.camFittedRow.inPlace == Tryz.prog.inPlace 20) = true := by kernel_rfl
theorem camFitted_unfollowed : (Rows.camFittedRow.unfollowed == Tryz.prog.unfollowed 20) = true := by kernel_rfl
theorem camFitted_recurses : (Rows.camFittedRow.recurses == Tryz.prog.recurses 20) = true := by kernel_rfl
theorem camFitted_named : (Rows.camFittedRow.named == Tryz.prog.varsNamed 20) = true := by kernel_rfl
theorem camFitted_goes : false = Rows.camFittedRow.goesBy Tryz.prog := by kernel_rfl
theorem camFitted_func : Tryz.prog.funcNamed Rows.camFittedRow.func = some 20 := by kernel_rfl
theorem camFitted_text : Rows.camFittedRow.wfByText (OpenSpec.ofChange Rows.camFittedSpec) = true := by kernel_rfl
theorem camFitted_closed : joinedFacts Tryz.prog 20 Tryz.f20 Rows.camFittedSpec Rows.camFittedRow = true :=
  (and_t (and_t (and_t (and_t (and_t (and_t (and_t (and_t (and_t (and_t (and_t (and_t (and_t (and_t (and_t (and_t (and_t (and_t (and_t (and_t (and_t (and_t (and_t (and_t (and_t (and_t (and_t (and_t (and_t (and_t (and_t camFitted_wf tLaidOut) tMaps) (by kernel_rfl)) (by kernel_rfl)) (by kernel_rfl)) (by kernel_rfl)) (by kernel_rfl)) (by kernel_rfl)) camFitted_inPlace) camFitted_unfollowed) camFitted_recurses) camFitted_named) (by kernel_rfl)) (by kernel_rfl)) (by kernel_rfl)) (by kernel_rfl)) (by kernel_rfl)) (by kernel_rfl)) (by kernel_rfl)) (by kernel_rfl)) (by kernel_rfl)) (by kernel_rfl)) (by kernel_rfl)) tHeard) tMayEnter) (eq_t (α := Bool) tFinal.symm)) (eq_t tMake)) (by kernel_rfl)) (by kernel_rfl)) (by kernel_rfl)) (by kernel_rfl))
theorem camFitted_wrap : Func.isWrapper Tryz.prog Tryz.f20 Rows.camFittedRow.wrapper Rows.camFittedRow.mainSum := by unfold Func.isWrapper; rw [if_neg (of_decide_eq_false (by kernel_rfl))]; exact ⟨rfl, rfl⟩
theorem camFitted_row : Rows.CamFittedSaid :=
  OpenClaim.holds_of_wide 20 Tryz.f20 rfl rfl rfl rfl rfl rfl rfl ⟨rfl, rfl, rfl, rfl, rfl⟩ rfl rfl rfl rfl rfl camFitted_func Tryz.func20 camFitted_closed (of_decide_eq_true (by kernel_rfl)) camFitted_wrap (fun os started H enc _ => camFitted_lifted os started H enc)
theorem camFitted_plain : ∀ (j : Nat) t, Tryz.f20.params[j]? = some t → Tryz.prog.wantsStandIn t = false := fun j t ht => by
  rw [Tryz.params20] at ht
  have hm : t ∈ [23, 24, 24] := by simpa using Array.mem_of_getElem? ht
  have hall : ([23, 24, 24].all fun u => !Tryz.prog.wantsStandIn u) = true := by kernel_rfl
  exact (show Tryz.prog.wantsStandIn t = false by simpa using List.all_eq_true.1 hall t hm)
theorem camFitted_holds : Rows.CamFittedCardSaid :=
  Claim7.holds_tied_plain_at .later [] [.data, .data, .data] true (true, "985ec80ef9f166c509f88728729dbb443cbd59a290a76d8409e815b6bbda0ad3") true camFitted_row (fun _ h => by cases h) camFitted_text (fun _ h => by cases h) camFitted_row_tie rfl ⟨rfl, rfl⟩ tMainIs rfl
    (fun f fn hf hfn => by
      obtain rfl : f = 20 := Option.some.inj (camFitted_func.symm.trans hf) |>.symm
      obtain rfl : fn = Tryz.f20 := (Option.some.inj (Tryz.func20.symm.trans hfn)).symm
      exact ⟨tLooks, camFitted_plain⟩)
    camFitted_goes
#print axioms camFitted_holds
end Go.Proofs.YtncfgkhbenmpoaaGreatDoor
end
