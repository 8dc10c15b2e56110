/-
  The law CamFollows: its card. Conditions: none of the input; the tables of the library that the row lists are as the program lays them (the tie is given).
-/
import Derived.Test.YtncfgkhbenmpoaaGreatDoorGj
import Derived.Test.YtncfgkhbenmpoaaGreatDoorGt
import Derived.Test.YtncfgkhbenmpoaaGreatDoorGo
import Derived.Test.YtncfgkhbenmpoaaGreatDoorCards
section
namespace Go.Proofs.YtncfgkhbenmpoaaGreatDoor
open Go Go.ChangeShapes Go.WideShapes Go.ChangeAt Go.RowKit Go.Proofs
set_option linter.unusedVariables false

set_option maxRecDepth 100000 in
theorem camFollows_lifted (os : Os) (started : os.Started) (H : Type) (enc : TypeId × Value → H) :
    ReturnsInHanded {} Tryz.checked os 7 .any (fun w args => (Rows.camFollowsSpec.pre enc Tryz.prog Tryz.f7 [] false w args ∧ laidMetH Tryz.prog lay3 w) ∧ sizedMet enc Tryz.prog Tryz.f7 (OpenSpec.ofChange Rows.camFollowsSpec) false w args)
      (Rows.camFollowsSpec.post enc Tryz.prog Tryz.f7 false true false false) := by
  refine returnsInHanded_of_change_and (C := Tryz.checked) (X := fun w _ => laidMetH Tryz.prog lay3 w) (fun _ _ _ hh h => h.of_heap hh) ownT started (by kernel_rfl) Tryz.func7
    (ChangeSpec.witness_shaped (enc := enc) (C := Tryz.checked) (os := os) (X := fun w _ => laidMetH Tryz.prog lay3 w) false (World.laidAll Tryz.prog os lay3) #[.slice none 0 0, .int .i64 0] 12 (World.laidAll_os _ _ _)
      (World.shaped_of_ZipB (by kernel_rfl) (by kernel_rfl)) (by kernel_rfl) (by kernel_rfl) (by kernel_rfl)
      (by rw [MakeChecks.laidMetH_plain _ _ _ (by kernel_rfl)]; exact laidMet_laidAll _ (by kernel_rfl) (by kernel_rfl))) ?_
  intro W base args ds gs before hval0 hW _ _ _ _
  have hval : ∀ (j : Nat) t v, Tryz.f7.params[j]? = some t → args[j]? = some v → Value.okWide Tryz.prog W .any base t v := hval0
  have hW' := hW
  obtain ⟨p, q, hA0, hV, rfl, _, _⟩ := hW
  have hA : DataW.TrodAll enc Tryz.prog W 0 (fun _ => true) true Tryz.f7.params.toList args.toList ds p := hA0
  rw [Tryz.params7] at hA hval
  obtain ⟨v0, vs0, d0, ds0, p0, q0, hargs, rfl, rfl, h0, r0⟩ := trodAll_cons hA
  obtain ⟨v1, vs1, d1, ds1, p1, q1, rfl, rfl, rfl, h1, r1⟩ := trodAll_cons r0
  obtain ⟨rfl, rfl, rfl⟩ := trodAll_nil r1
  obtain rfl : args = #[v0, v1] := by cases args; simp_all
  obtain ⟨rfl, rfl⟩ := trodVars_none hV
  obtain ⟨b0, c0, xs0, rfl, rd0, hl0⟩ := op24 (hval 0 24 v0 rfl rfl) h0
  obtain ⟨a1, rfl, _, _⟩ := op3 (hval 1 3 v1 rfl rfl) h1
  clear hA0 hval0
  refine (law7 b0 c0 xs0 a1 W rd0).mono fun e W' ⟨he, bel⟩ => ?_
  subst he
  exact ⟨_, rfl, _, _, _, [], _, [], hW', trodAll_mk1 (shut_bool Tryz.underlying4 _), (trodAll_cons_mk (Below.trod laidOutT (by kernel_rfl) (of_decide_eq_true (by kernel_rfl)) h0 bel (trod_lt h0)) (trodAll_cons_mk (Below.trod laidOutT (by kernel_rfl) (of_decide_eq_true (by kernel_rfl)) h1 bel (trod_lt h1)) trodAll_mk0)), rfl, bel.frame _, fun h => by cases h⟩
theorem camFollows_wf : Rows.camFollowsRow.wf (OpenSpec.ofChange Rows.camFollowsSpec) = true := by kernel_rfl
theorem camFollows_inPlace : (Rows.camFollowsRow.inPlace == Tryz.prog.inPlace 7) = true := by kernel_rfl
theorem camFollows_unfollowed : (Rows.camFollowsRow.unfollowed == Tryz.prog.unfollowed 7) = true := by kernel_rfl
theorem camFollows_recurses : (Rows.camFollowsRow.recurses == Tryz.prog.recurses 7) = true := by kernel_rfl
theorem camFollows_named : (Rows.camFollowsRow.named == Tryz.prog.varsNamed 7) = true := by kernel_rfl
theorem camFollows_goes : false = Rows.camFollowsRow.goesBy Tryz.prog := by kernel_rfl
theorem camFollows_func : Tryz.prog.funcNamed Rows.camFollowsRow.func = some 7 := by kernel_rfl
theorem camFollows_text : Rows.camFollowsRow.wfByText (OpenSpec.ofChange Rows.camFollowsSpec) = true := by kernel_rfl
theorem camFollows_closed : joinedFacts Tryz.prog 7 Tryz.f7 Rows.camFollowsSpec Rows.camFollowsRow = true :=
  (and_t (and_t (and_t (and_t (and_t (and_t (and_t (and_t (and_t (and_t (and_t (and_t (and_t (and_t (and_t (and_t (and_t (and_t (and_t (and_t (and_t (and_t (and_t (and_t (and_t (and_t (and_t (and_t (and_t (and_t (and_t camFollows_wf tLaidOut) tMaps) (by kernel_rfl)) (by kernel_rfl)) (by kernel_rfl)) (by kernel_rfl)) (by kernel_rfl)) (by kernel_rfl)) camFollows_inPlace) camFollows_unfollowed) camFollows_recurses) camFollows_named) (by kernel_rfl)) (by kernel_rfl)) (by kernel_rfl)) (by kernel_rfl)) (by kernel_rfl)) (by kernel_rfl)) (by kernel_rfl)) (by kernel_rfl)) (by kernel_rfl)) (by kernel_rfl)) (by kernel_rfl)) tHeard) tMayEnter) (eq_t (α := Bool) tFinal.symm)) (eq_t tMake)) (by kernel_rfl)) (by kernel_rfl)) (by kernel_rfl)) (by kernel_rfl))
theorem camFollows_wrap : Func.isWrapper Tryz.prog Tryz.f7 Rows.camFollowsRow.wrapper Rows.camFollowsRow.mainSum := by unfold Func.isWrapper; rw [if_neg (of_decide_eq_false (by kernel_rfl))]; exact ⟨rfl, rfl⟩
theorem camFollows_row : Rows.CamFollowsSaid :=
  OpenClaim.holds_of_wide 7 Tryz.f7 rfl rfl rfl rfl rfl rfl rfl ⟨rfl, rfl, rfl, rfl, rfl⟩ rfl rfl rfl rfl rfl camFollows_func Tryz.func7 camFollows_closed (of_decide_eq_true (by kernel_rfl)) camFollows_wrap (fun os started H enc _ => camFollows_lifted os started H enc)
theorem camFollows_plain : ∀ (j : Nat) t, Tryz.f7.params[j]? = some t → Tryz.prog.wantsStandIn t = false := fun j t ht => by
  rw [Tryz.params7] at ht
  have hm : t ∈ [24, 3] := by simpa using Array.mem_of_getElem? ht
  have hall : ([24, 3].all fun u => !Tryz.prog.wantsStandIn u) = true := by kernel_rfl
  exact (show Tryz.prog.wantsStandIn t = false by simpa using List.all_eq_true.1 hall t hm)
theorem camFollows_holds : Rows.CamFollowsCardSaid :=
  Claim7.holds_tied_plain_at .later [] [.data, .data, .data] true (true, "985ec80ef9f166c509f88728729dbb443cbd59a290a76d8409e815b6bbda0ad3") true camFollows_row (fun _ h => by cases h) camFollows_text (fun _ h => by cases h) camFollows_row_tie rfl ⟨rfl, rfl⟩ tMainIs rfl
    (fun f fn hf hfn => by
      obtain rfl : f = 7 := Option.some.inj (camFollows_func.symm.trans hf) |>.symm
      obtain rfl : fn = Tryz.f7 := (Option.some.inj (Tryz.func7.symm.trans hfn)).symm
      exact ⟨tLooks, camFollows_plain⟩)
    camFollows_goes
#print axioms camFollows_holds
end Go.Proofs.YtncfgkhbenmpoaaGreatDoor
end
