/-
  The law CamPrints: its card. Conditions: none of the input; the tables of the library that the row lists are as the program lays them (the tie is given).
-/
import Derived.Test.YtncfgkhbenmpoaaGreatDoorGj
import Derived.Test.YtncfgkhbenmpoaaGreatDoorGt
import Derived.Test.YtncfgkhbenmpoaaGreatDoorGab
import Derived.Test.YtncfgkhbenmpoaaGreatDoorCards
section
namespace Go.Proofs.YtncfgkhbenmpoaaGreatDoor
open Go Go.ChangeShapes Go.WideShapes Go.ChangeAt Go.RowKit Go.Proofs
set_option linter.unusedVariables false

set_option maxRecDepth 100000 in
theorem camPrints_lifted (os : Os) (started : os.Started) (H : Type) (enc : TypeId × Value → H) :
    ReturnsInHanded {} Tryz.checked os 21 .any (fun w args => (Rows.camPrintsSpec.pre enc Tryz.prog Tryz.f21 [] false w args ∧ laidMetH Tryz.prog lay5 w) ∧ sizedMet enc Tryz.prog Tryz.f21 (OpenSpec.ofChange Rows.camPrintsSpec) false w args)
      (Rows.camPrintsSpec.post enc Tryz.prog Tryz.f21 false true false false) := by
  refine returns_listed (C := Tryz.checked) (X := fun w _ => laidMetH Tryz.prog lay5 w) (fun _ _ _ hh h => h.of_heap hh) ownT started (by kernel_rfl) Tryz.func21
    (ChangeSpec.witness_shaped (enc := enc) (C := Tryz.checked) (os := os) (X := fun w _ => laidMetH Tryz.prog lay5 w) false (World.laidAll Tryz.prog os lay5) #[.agg #[.int .i64 0, .int .i64 0, .int .i64 0, .int .i64 0], .slice none 0 0] 12 (World.laidAll_os _ _ _)
      (World.shaped_of_ZipB (by kernel_rfl) (by kernel_rfl)) (by kernel_rfl) (by kernel_rfl) (by kernel_rfl)
      (by rw [MakeChecks.laidMetH_plain _ _ _ (by kernel_rfl)]; exact laidMet_laidAll _ (by kernel_rfl) (by kernel_rfl))) ?_
  intro W base args ds gs before hval0 hW hX hSh
  have hval : ∀ (j : Nat) t v, Tryz.f21.params[j]? = some t → args[j]? = some v → Value.okWide Tryz.prog W .any base t v := hval0
  have hW' := hW
  obtain ⟨p, q, hA0, hV, rfl, _, _⟩ := hW
  have hA : DataW.TrodAll enc Tryz.prog W 0 (fun _ => true) true Tryz.f21.params.toList args.toList ds p := hA0
  rw [Tryz.params21] at hA hval
  obtain ⟨v0, vs0, d0, ds0, p0, q0, hargs, rfl, rfl, h0, r0⟩ := trodAll_cons hA
  obtain ⟨v1, vs1, d1, ds1, p1, q1, rfl, rfl, rfl, h1, r1⟩ := trodAll_cons r0
  obtain ⟨rfl, rfl, rfl⟩ := trodAll_nil r1
  obtain rfl : args = #[v0, v1] := by cases args; simp_all
  obtain ⟨rfl, rfl⟩ := trodVars_none hV
  obtain ⟨lo0, hi0, sl0, ch0, rfl⟩ := op23 (hval 0 23 v0 rfl rfl) h0
  obtain ⟨b1, c1, css1, rfl, rd1, hl1, hls1⟩ := op90 (hval 1 90 v1 rfl rfl) h1
  clear hA0 hval0
  obtain ⟨m, hm⟩ := maxLen_of hSh
  have htab := pow10_of hX
  refine (law21 lo0 hi0 sl0 ch0 b1 c1 css1 m W rd1 hm htab).mono fun e W' ⟨he, bel⟩ => ?_
  subst he
  exact ⟨_, rfl, _, _, _, [], _, [], hW', trodAll_mk1 (shut_bool Tryz.underlying4 _), (trodAll_cons_mk (Below.trod laidOutT (by kernel_rfl) (of_decide_eq_true (by kernel_rfl)) h0 bel (trod_lt h0)) (trodAll_cons_mk (Below.trod laidOutT (by kernel_rfl) (of_decide_eq_true (by kernel_rfl)) h1 bel (trod_lt h1)) trodAll_mk0)), rfl, bel.frame _, fun h => by cases h⟩
theorem camPrints_wf : Rows.camPrintsRow.wf (OpenSpec.ofChange Rows.camPrintsSpec) = true := by kernel_rfl
theorem camPrints_inPlace : (Rows.camPrintsRow.inPlace == Tryz.prog.inPlace 21) = true := by kernel_rfl
theorem camPrints_unfollowed : (Rows.camPrintsRow.unfollowed == Tryz.prog.unfollowed 21) = true := by kernel_rfl
theorem camPrints_recurses : (Rows.camPrintsRow.recurses == Tryz.prog.recurses 21) = true := by kernel_rfl
theorem camPrints_named : (Rows.camPrintsRow.named == Tryz.prog.varsNamed 21) = true := by kernel_rfl
theorem camPrints_goes : false = Rows.camPrintsRow.goesBy Tryz.prog := by kernel_rfl
theorem camPrints_func : Tryz.prog.funcNamed Rows.camPrintsRow.func = some 21 := by kernel_rfl
theorem camPrints_text : Rows.camPrintsRow.wfByText (OpenSpec.ofChange Rows.camPrintsSpec) = true := by kernel_rfl
theorem camPrints_closed : joinedFacts Tryz.prog 21 Tryz.f21 Rows.camPrintsSpec Rows.camPrintsRow = true :=
  (and_t (and_t (and_t (and_t (and_t (and_t (and_t (and_t (and_t (and_t (and_t (and_t (and_t (and_t (and_t (and_t (and_t (and_t (and_t (and_t (and_t (and_t (and_t (and_t (and_t (and_t (and_t (and_t (and_t (and_t (and_t camPrints_wf tLaidOut) tMaps) (by kernel_rfl)) (by kernel_rfl)) (by kernel_rfl)) (by kernel_rfl)) (by kernel_rfl)) (by kernel_rfl)) camPrints_inPlace) camPrints_unfollowed) camPrints_recurses) camPrints_named) (by kernel_rfl)) (by kernel_rfl)) (by kernel_rfl)) (by kernel_rfl)) (by kernel_rfl)) (by kernel_rfl)) (by kernel_rfl)) (by kernel_rfl)) (by kernel_rfl)) (by kernel_rfl)) (by kernel_rfl)) tHeard) tMayEnter) (eq_t (α := Bool) tFinal.symm)) (eq_t tMake)) (by kernel_rfl)) (by kernel_rfl)) (by kernel_rfl)) (by kernel_rfl))
theorem camPrints_wrap : Func.isWrapper Tryz.prog Tryz.f21 Rows.camPrintsRow.wrapper Rows.camPrintsRow.mainSum := by unfold Func.isWrapper; rw [if_neg (of_decide_eq_false (by kernel_rfl))]; exact ⟨rfl, rfl⟩
theorem camPrints_row : Rows.CamPrintsSaid :=
  OpenClaim.holds_of_wide 21 Tryz.f21 rfl rfl rfl rfl rfl rfl rfl ⟨rfl, rfl, rfl, rfl, rfl⟩ rfl rfl rfl rfl rfl camPrints_func Tryz.func21 camPrints_closed (of_decide_eq_true (by kernel_rfl)) camPrints_wrap (fun os started H enc _ => camPrints_lifted os started H enc)
theorem camPrints_plain : ∀ (j : Nat) t, Tryz.f21.params[j]? = some t → Tryz.prog.wantsStandIn t = false := fun j t ht => by
  rw [Tryz.params21] at ht
  have hm : t ∈ [23, 90] := by simpa using Array.mem_of_getElem? ht
  have hall : ([23, 90].all fun u => !Tryz.prog.wantsStandIn u) = true := by kernel_rfl
  exact (show Tryz.prog.wantsStandIn t = false by simpa using List.all_eq_true.1 hall t hm)
theorem camPrints_holds : Rows.CamPrintsCardSaid :=
  Claim7.holds_tied_plain_at .later [] [.data, .data, .data, .data, .pinned] true (true, "985ec80ef9f166c509f88728729dbb443cbd59a290a76d8409e815b6bbda0ad3") true camPrints_row (fun _ h => by cases h) camPrints_text (fun _ h => by cases h) camPrints_row_tie rfl ⟨rfl, rfl⟩ tMainIs rfl
    (fun f fn hf hfn => by
      obtain rfl : f = 21 := Option.some.inj (camPrints_func.symm.trans hf) |>.symm
      obtain rfl : fn = Tryz.f21 := (Option.some.inj (Tryz.func21.symm.trans hfn)).symm
      exact ⟨tLooks, camPrints_plain⟩)
    camPrints_goes
#print axioms camPrints_holds
end Go.Proofs.YtncfgkhbenmpoaaGreatDoor
end
