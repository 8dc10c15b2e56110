/-
  The law CamReads: its card. Conditions: none of the input; the tables of the library that the row lists are as the program lays them (the tie is given).
-/
import Derived.Test.YtncfgkhbenmpoaaGreatDoorGj
import Derived.Test.YtncfgkhbenmpoaaGreatDoorGt
import Derived.Test.YtncfgkhbenmpoaaGreatDoorGab
import Derived.Test.YtncfgkhbenmpoaaGreatDoorGac
import Derived.Test.YtncfgkhbenmpoaaGreatDoorCards
section
namespace Go.Proofs.YtncfgkhbenmpoaaGreatDoor
open Go Go.ChangeShapes Go.WideShapes Go.ChangeAt Go.RowKit Go.Proofs
set_option linter.unusedVariables false

set_option maxRecDepth 100000 in
theorem camReads_lifted (os : Os) (started : os.Started) (H : Type) (enc : TypeId × Value → H) :
    ReturnsInHanded {} Tryz.checked os 22 .any (fun w args => (Rows.camReadsSpec.pre enc Tryz.prog Tryz.f22 [] false w args ∧ laidMetH Tryz.prog lay5 w) ∧ sizedMet enc Tryz.prog Tryz.f22 (OpenSpec.ofChange Rows.camReadsSpec) false w args)
      (Rows.camReadsSpec.post enc Tryz.prog Tryz.f22 false true false false) := by
  refine returns_listed (C := Tryz.checked) (X := fun w _ => laidMetH Tryz.prog lay5 w) (fun _ _ _ hh h => h.of_heap hh) ownT started (by kernel_rfl) Tryz.func22
    (ChangeSpec.witness_shaped (enc := enc) (C := Tryz.checked) (os := os) (X := fun w _ => laidMetH Tryz.prog lay5 w) false (World.laidAll Tryz.prog os lay5) #[.string ByteArray.empty] 12 (World.laidAll_os _ _ _)
      (World.shaped_of_ZipB (by kernel_rfl) (by kernel_rfl)) (by kernel_rfl) (by kernel_rfl) (by kernel_rfl)
      (by rw [MakeChecks.laidMetH_plain _ _ _ (by kernel_rfl)]; exact laidMet_laidAll _ (by kernel_rfl) (by kernel_rfl))) ?_
  intro W base args ds gs before hval0 hW hX hSh
  have hval : ∀ (j : Nat) t v, Tryz.f22.params[j]? = some t → args[j]? = some v → Value.okWide Tryz.prog W .any base t v := hval0
  have hW' := hW
  obtain ⟨p, q, hA0, hV, rfl, _, _⟩ := hW
  have hA : DataW.TrodAll enc Tryz.prog W 0 (fun _ => true) true Tryz.f22.params.toList args.toList ds p := hA0
  rw [Tryz.params22] at hA hval
  obtain ⟨v0, vs0, d0, ds0, p0, q0, hargs, rfl, rfl, h0, r0⟩ := trodAll_cons hA
  obtain ⟨rfl, rfl, rfl⟩ := trodAll_nil r0
  obtain rfl : args = #[v0] := by cases args; simp_all
  obtain ⟨rfl, rfl⟩ := trodVars_none hV
  obtain ⟨s0, rfl, hl0⟩ := op9 (hval 0 9 v0 rfl rfl) h0
  clear hA0 hval0
  obtain ⟨m, hm⟩ := maxLen_of hSh
  have htab := pow10_of hX
  refine (law22 s0 m W hm htab).mono fun e W' ⟨he, bel⟩ => ?_
  subst he
  exact ⟨_, rfl, _, _, _, [], _, [], hW', trodAll_mk1 (shut_bool Tryz.underlying4 _), (trodAll_cons_mk (Below.trod laidOutT (by kernel_rfl) (of_decide_eq_true (by kernel_rfl)) h0 bel (trod_lt h0)) trodAll_mk0), rfl, bel.frame _, fun h => by cases h⟩
theorem camReads_wf : Rows.camReadsRow.wf (OpenSpec.ofChange Rows.camReadsSpec) = true := by kernel_rfl
theorem camReads_inPlace : (Rows.camReadsRow.inPlace == Tryz.prog.inPlace 22) = true := by kernel_rfl
theorem camReads_unfollowed : (Rows.camReadsRow.unfollowed == Tryz.prog.unfollowed 22) = true := by kernel_rfl
theorem camReads_recurses : (Rows.camReadsRow.recurses == Tryz.prog.recurses 22) = true := by kernel_rfl
theorem camReads_named : (Rows.camReadsRow.named == Tryz.prog.varsNamed 22) = true := by kernel_rfl
theorem camReads_goes : false = Rows.camReadsRow.goesBy Tryz.prog := by kernel_rfl
theorem camReads_func : Tryz.prog.funcNamed Rows.camReadsRow.func = some 22 := by kernel_rfl
theorem camReads_text : Rows.camReadsRow.wfByText (OpenSpec.ofChange Rows.camReadsSpec) = true := by kernel_rfl
theorem camReads_closed : joinedFacts Tryz.prog 22 Tryz.f22 Rows.camReadsSpec Rows.camReadsRow = true :=
  (and_t (and_t (and_t (and_t (and_t (and_t (and_t (and_t (and_t (and_t (and_t (and_t (and_t (and_t (and_t (and_t (and_t (and_t (and_t (and_t (and_t (and_t (and_t (and_t (and_t (and_t (and_t (and_t (and_t (and_t (and_t camReads_wf tLaidOut) tMaps) (by kernel_rfl)) (by kernel_rfl)) (by kernel_rfl)) (by kernel_rfl)) (by kernel_rfl)) (by kernel_rfl)) camReads_inPlace) camReads_unfollowed) camReads_recurses) camReads_named) (by kernel_rfl)) (by kernel_rfl)) (by kernel_rfl)) (by kernel_rfl)) (by kernel_rfl)) (by kernel_rfl)) (by kernel_rfl)) (by kernel_rfl)) (by kernel_rfl)) (by kernel_rfl)) (by kernel_rfl)) tHeard) tMayEnter) (eq_t (α := Bool) tFinal.symm)) (eq_t tMake)) (by kernel_rfl)) (by kernel_rfl)) (by kernel_rfl)) (by kernel_rfl))
theorem camReads_wrap : Func.isWrapper Tryz.prog Tryz.f22 Rows.camReadsRow.wrapper Rows.camReadsRow.mainSum := by unfold Func.isWrapper; rw [if_neg (of_decide_eq_false (by kernel_rfl))]; exact ⟨rfl, rfl⟩
theorem camReads_row : Rows.CamReadsSaid :=
  OpenClaim.holds_of_wide 22 Tryz.f22 rfl rfl rfl rfl rfl rfl rfl ⟨rfl, rfl, rfl, rfl, rfl⟩ rfl rfl rfl rfl rfl camReads_func Tryz.func22 camReads_closed (of_decide_eq_true (by kernel_rfl)) camReads_wrap (fun os started H enc _ => camReads_lifted os started H enc)
theorem camReads_plain : ∀ (j : Nat) t, Tryz.f22.params[j]? = some t → Tryz.prog.wantsStandIn t = false := fun j t ht => by
  rw [Tryz.params22] at ht
  have hm : t ∈ [9] := by simpa using Array.mem_of_getElem? ht
  have hall : ([9].all fun u => !Tryz.prog.wantsStandIn u) = true := by kernel_rfl
  exact (show Tryz.prog.wantsStandIn t = false by simpa using List.all_eq_true.1 hall t hm)
theorem camReads_holds : Rows.CamReadsCardSaid :=
  Claim7.holds_tied_plain_at .later [] [.data, .data, .data, .data, .pinned] true (true, "985ec80ef9f166c509f88728729dbb443cbd59a290a76d8409e815b6bbda0ad3") true camReads_row (fun _ h => by cases h) camReads_text (fun _ h => by cases h) camReads_row_tie rfl ⟨rfl, rfl⟩ tMainIs rfl
    (fun f fn hf hfn => by
      obtain rfl : f = 22 := Option.some.inj (camReads_func.symm.trans hf) |>.symm
      obtain rfl : fn = Tryz.f22 := (Option.some.inj (Tryz.func22.symm.trans hfn)).symm
      exact ⟨tLooks, camReads_plain⟩)
    camReads_goes
#print axioms camReads_holds
end Go.Proofs.YtncfgkhbenmpoaaGreatDoor
end
