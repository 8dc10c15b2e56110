/-
  The law CamShifts: its card. Conditions: none of the input; the tables of the library that the row lists are as the program lays them (the tie is given).
-/
import Derived.Test.YtncfgkhbenmpoaaGreatDoorGj
import Derived.Test.YtncfgkhbenmpoaaGreatDoorGt
import Derived.Test.YtncfgkhbenmpoaaGreatDoorGo
import Derived.Test.YtncfgkhbenmpoaaGreatDoorCards
section
namespace Go.Proofs.YtncfgkhbenmpoaaGreatDoor
open Go Go.ChangeShapes Go.WideShapes Go.ChangeAt Go.RowKit Go.Proofs
set_option linter.unusedVariables false

set_option maxRecDepth 100000 in
theorem camShifts_lifted (os : Os) (started : os.Started) (H : Type) (enc : TypeId × Value → H) :
    ReturnsInHanded {} Tryz.checked os 17 .any (fun w args => (Rows.camShiftsSpec.pre enc Tryz.prog Tryz.f17 [] false w args ∧ laidMetH Tryz.prog lay3 w) ∧ sizedMet enc Tryz.prog Tryz.f17 (OpenSpec.ofChange Rows.camShiftsSpec) false w args)
      (Rows.camShiftsSpec.post enc Tryz.prog Tryz.f17 false true false false) := by
  refine returnsInHanded_of_change_and (C := Tryz.checked) (X := fun w _ => laidMetH Tryz.prog lay3 w) (fun _ _ _ hh h => h.of_heap hh) ownT started (by kernel_rfl) Tryz.func17
    (ChangeSpec.witness_shaped (enc := enc) (C := Tryz.checked) (os := os) (X := fun w _ => laidMetH Tryz.prog lay3 w) false (World.laidAll Tryz.prog os lay3) #[.slice none 0 0, .slice none 0 0] 12 (World.laidAll_os _ _ _)
      (World.shaped_of_ZipB (by kernel_rfl) (by kernel_rfl)) (by kernel_rfl) (by kernel_rfl) (by kernel_rfl)
      (by rw [MakeChecks.laidMetH_plain _ _ _ (by kernel_rfl)]; exact laidMet_laidAll _ (by kernel_rfl) (by kernel_rfl))) ?_
  intro W base args ds gs before hval0 hW _ _ _ _
  have hval : ∀ (j : Nat) t v, Tryz.f17.params[j]? = some t → args[j]? = some v → Value.okWide Tryz.prog W .any base t v := hval0
  have hW' := hW
  obtain ⟨p, q, hA0, hV, rfl, _, _⟩ := hW
  have hA : DataW.TrodAll enc Tryz.prog W 0 (fun _ => true) true Tryz.f17.params.toList args.toList ds p := hA0
  rw [Tryz.params17] at hA hval
  obtain ⟨v0, vs0, d0, ds0, p0, q0, hargs, rfl, rfl, h0, r0⟩ := trodAll_cons hA
  obtain ⟨v1, vs1, d1, ds1, p1, q1, rfl, rfl, rfl, h1, r1⟩ := trodAll_cons r0
  obtain ⟨rfl, rfl, rfl⟩ := trodAll_nil r1
  obtain rfl : args = #[v0, v1] := by cases args; simp_all
  obtain ⟨rfl, rfl⟩ := trodVars_none hV
  obtain ⟨b0, c0, xs0, rfl, rd0, hl0⟩ := op24 (hval 0 24 v0 rfl rfl) h0
  obtain ⟨b1, c1, xs1, rfl, rd1, hl1⟩ := op24 (hval 1 24 v1 rfl rfl) h1
  clear hA0 hval0
  refine (law17 b0 c0 xs0 b1 c1 xs1 W rd0 rd1).mono fun e W' ⟨he, bel⟩ => ?_
  subst he
  exact ⟨_, rfl, _, _, _, [], _, [], hW', trodAll_mk1 (shut_bool Tryz.underlying4 _), (trodAll_cons_mk (Below.trod laidOutT (by kernel_rfl) (of_decide_eq_true (by kernel_rfl)) h0 bel (trod_lt h0)) (trodAll_cons_mk (Below.trod laidOutT (by kernel_rfl) (of_decide_eq_true (by kernel_rfl)) h1 bel (trod_lt h1)) trodAll_mk0)), rfl, bel.frame _, fun h => by cases h⟩
theorem camShifts_wf : Rows.camShiftsRow.wf (OpenSpec.ofChange Rows.camShiftsSpec) = true := by kernel_rfl
theorem camShifts_inPlace : (Rows.camShiftsRow.inPlace == Tryz.prog.inPlace 17) = true := by kernel_rfl
theorem camShifts_unfollowed : (Rows.camShiftsRow.unfollowed == Tryz.prog.unfollowed 17) = true := by kernel_rfl
theorem camShifts_recurses : (Rows.camShiftsRow.recurses == Tryz.prog.recurses 17) = true := by kernel_rfl
theorem camShifts_named : (Rows.camShiftsRow.named == Tryz.prog.varsNamed 17) = true := by kernel_rfl
theorem camShifts_goes : false = Rows.camShiftsRow.goesBy Tryz.prog := by kernel_rfl
theorem camShifts_func : Tryz.prog.funcNamed Rows.camShiftsRow.func = some 17 := by kernel_rfl
theorem camShifts_text : Rows.camShiftsRow.wfByText (OpenSpec.ofChange Rows.camShiftsSpec) = true := by kernel_rfl
theorem camShifts_closed : joinedFacts Tryz.prog 17 Tryz.f17 Rows.camShiftsSpec Rows.camShiftsRow = true :=
  (and_t (and_t (and_t (and_t (and_t (and_t (and_t (and_t (and_t (and_t (and_t (and_t (and_t (and_t (and_t (and_t (and_t (and_t (and_t (and_t (and_t (and_t (and_t (and_t (and_t (and_t (and_t (and_t (and_t (and_t (and_t camShifts_wf tLaidOut) tMaps) (by kernel_rfl)) (by kernel_rfl)) (by kernel_rfl)) (by kernel_rfl)) (by kernel_rfl)) (by kernel_rfl)) camShifts_inPlace) camShifts_unfollowed) camShifts_recurses) camShifts_named) (by kernel_rfl)) (by kernel_rfl)) (by kernel_rfl)) (by kernel_rfl)) (by kernel_rfl)) (by kernel_rfl)) (by kernel_rfl)) (by kernel_rfl)) (by kernel_rfl)) (by kernel_rfl)) (by kernel_rfl)) tHeard) tMayEnter) (eq_t (α := Bool) tFinal.symm)) (eq_t tMake)) (by kernel_rfl)) (by kernel_rfl)) (by kernel_rfl)) (by kernel_rfl))
theorem camShifts_wrap : Func.isWrapper Tryz.prog Tryz.f17 Rows.camShiftsRow.wrapper Rows.camShiftsRow.mainSum := by unfold Func.isWrapper; rw [if_neg (of_decide_eq_false (by kernel_rfl))]; exact ⟨rfl, rfl⟩
theorem camShifts_row : Rows.CamShiftsSaid :=
  OpenClaim.holds_of_wide 17 Tryz.f17 rfl rfl rfl rfl rfl rfl rfl ⟨rfl, rfl, rfl, rfl, rfl⟩ rfl rfl rfl rfl rfl camShifts_func Tryz.func17 camShifts_closed (of_decide_eq_true (by kernel_rfl)) camShifts_wrap (fun os started H enc _ => camShifts_lifted os started H enc)
theorem camShifts_plain : ∀ (j : Nat) t, Tryz.f17.params[j]? = some t → Tryz.prog.wantsStandIn t = false := fun j t ht => by
  rw [Tryz.params17] at ht
  have hm : t ∈ [24, 24] := by simpa using Array.mem_of_getElem? ht
  have hall : ([24, 24].all fun u => !Tryz.prog.wantsStandIn u) = true := by kernel_rfl
  exact (show Tryz.prog.wantsStandIn t = false by simpa using List.all_eq_true.1 hall t hm)
theorem camShifts_holds : Rows.CamShiftsCardSaid :=
  Claim7.holds_tied_plain_at .later [] [.data, .data, .data] true (true, "985ec80ef9f166c509f88728729dbb443cbd59a290a76d8409e815b6bbda0ad3") true camShifts_row (fun _ h => by cases h) camShifts_text (fun _ h => by cases h) camShifts_row_tie rfl ⟨rfl, rfl⟩ tMainIs rfl
    (fun f fn hf hfn => by
      obtain rfl : f = 17 := Option.some.inj (camShifts_func.symm.trans hf) |>.symm
      obtain rfl : fn = Tryz.f17 := (Option.some.inj (Tryz.func17.symm.trans hfn)).symm
      exact ⟨tLooks, camShifts_plain⟩)
    camShifts_goes
#print axioms camShifts_holds
end Go.Proofs.YtncfgkhbenmpoaaGreatDoor
end
