/-
  The law CamEnds: its card. Conditions: none of the input; the tables of the library that the row lists are as the program lays them (the tie is given).
-/
import Derived.Test.YtncfgkhbenmpoaaGreatDoorGj
import Derived.Test.YtncfgkhbenmpoaaGreatDoorGt
import Derived.Test.YtncfgkhbenmpoaaGreatDoorGx
import Derived.Test.YtncfgkhbenmpoaaGreatDoorCards
section
namespace Go.Proofs.YtncfgkhbenmpoaaGreatDoor
open Go Go.ChangeShapes Go.WideShapes Go.ChangeAt Go.RowKit Go.Proofs
set_option linter.unusedVariables false

set_option maxRecDepth 100000 in
theorem camEnds_lifted (os : Os) (started : os.Started) (H : Type) (enc : TypeId × Value → H) :
    ReturnsInHanded {} Tryz.checked os 6 .any (fun w args => (Rows.camEndsSpec.pre enc Tryz.prog Tryz.f6 [] false w args ∧ laidMetH Tryz.prog lay3 w) ∧ sizedMet enc Tryz.prog Tryz.f6 (OpenSpec.ofChange Rows.camEndsSpec) false w args)
      (Rows.camEndsSpec.post enc Tryz.prog Tryz.f6 false true false false) := by
  refine returnsInHanded_of_change_and (C := Tryz.checked) (X := fun w _ => laidMetH Tryz.prog lay3 w) (fun _ _ _ hh h => h.of_heap hh) ownT started (by kernel_rfl) Tryz.func6
    (ChangeSpec.witness_shaped (enc := enc) (C := Tryz.checked) (os := os) (X := fun w _ => laidMetH Tryz.prog lay3 w) false (World.laidAll Tryz.prog os lay3) #[.agg #[.int .i64 0, .int .i64 0, .int .i64 0, .int .i64 0], .int .i64 0, .slice none 0 0] 12 (World.laidAll_os _ _ _)
      (World.shaped_of_ZipB (by kernel_rfl) (by kernel_rfl)) (by kernel_rfl) (by kernel_rfl) (by kernel_rfl)
      (by rw [MakeChecks.laidMetH_plain _ _ _ (by kernel_rfl)]; exact laidMet_laidAll _ (by kernel_rfl) (by kernel_rfl))) ?_
  intro W base args ds gs before hval0 hW _ _ _ _
  have hval : ∀ (j : Nat) t v, Tryz.f6.params[j]? = some t → args[j]? = some v → Value.okWide Tryz.prog W .any base t v := hval0
  have hW' := hW
  obtain ⟨p, q, hA0, hV, rfl, _, _⟩ := hW
  have hA : DataW.TrodAll enc Tryz.prog W 0 (fun _ => true) true Tryz.f6.params.toList args.toList ds p := hA0
  rw [Tryz.params6] at hA hval
  obtain ⟨v0, vs0, d0, ds0, p0, q0, hargs, rfl, rfl, h0, r0⟩ := trodAll_cons hA
  obtain ⟨v1, vs1, d1, ds1, p1, q1, rfl, rfl, rfl, h1, r1⟩ := trodAll_cons r0
  obtain ⟨v2, vs2, d2, ds2, p2, q2, rfl, rfl, rfl, h2, r2⟩ := trodAll_cons r1
  obtain ⟨rfl, rfl, rfl⟩ := trodAll_nil r2
  obtain rfl : args = #[v0, v1, v2] := by cases args; simp_all
  obtain ⟨rfl, rfl⟩ := trodVars_none hV
  obtain ⟨lo0, hi0, sl0, ch0, rfl⟩ := op23 (hval 0 23 v0 rfl rfl) h0
  obtain ⟨a1, rfl, _, _⟩ := op3 (hval 1 3 v1 rfl rfl) h1
  obtain ⟨b2, c2, gs2, rfl, rd2, hl2⟩ := op35 (hval 2 35 v2 rfl rfl) h2
  clear hA0 hval0
  refine (law6 lo0 hi0 sl0 ch0 a1 b2 c2 gs2 W rd2).mono fun e W' ⟨he, bel⟩ => ?_
  subst he
  exact ⟨_, rfl, _, _, _, [], _, [], hW', trodAll_mk1 (shut_bool Tryz.underlying4 _), (trodAll_cons_mk (Below.trod laidOutT (by kernel_rfl) (of_decide_eq_true (by kernel_rfl)) h0 bel (trod_lt h0)) (trodAll_cons_mk (Below.trod laidOutT (by kernel_rfl) (of_decide_eq_true (by kernel_rfl)) h1 bel (trod_lt h1)) (trodAll_cons_mk (Below.trod laidOutT (by kernel_rfl) (of_decide_eq_true (by kernel_rfl)) h2 bel (trod_lt h2)) trodAll_mk0))), rfl, bel.frame _, fun h => by cases h⟩
theorem camEnds_wf : Rows.camEndsRow.wf (OpenSpec.ofChange Rows.camEndsSpec) = true := by kernel_rfl
theorem camEnds_inPlace : (Rows.camEndsRow.inPlace == Tryz.prog.inPlace 6) = true := by kernel_rfl
theorem camEnds_unfollowed : (Rows.camEndsRow.unfollowed == Tryz.prog.unfollowed 6) = true := by kernel_rfl
theorem camEnds_recurses : (Rows.camEndsRow.recurses == Tryz.prog.recurses 6) = true := by kernel_rfl
theorem camEnds_named : (Rows.camEndsRow.named == Tryz.prog.varsNamed 6) = true := by kernel_rfl
theorem camEnds_goes : false = Rows.camEndsRow.goesBy Tryz.prog := by kernel_rfl
theorem camEnds_func : Tryz.prog.funcNamed Rows.camEndsRow.func = some 6 := by kernel_rfl
theorem camEnds_text : Rows.camEndsRow.wfByText (OpenSpec.ofChange Rows.camEndsSpec) = true := by kernel_rfl
theorem camEnds_closed : joinedFacts Tryz.prog 6 Tryz.f6 Rows.camEndsSpec Rows.camEndsRow = true :=
  (and_t (and_t (and_t (and_t (and_t (and_t (and_t (and_t (and_t (and_t (and_t (and_t (and_t (and_t (and_t (and_t (and_t (and_t (and_t (and_t (and_t (and_t (and_t (and_t (and_t (and_t (and_t (and_t (and_t (and_t (and_t camEnds_wf tLaidOut) tMaps) (by kernel_rfl)) (by kernel_rfl)) (by kernel_rfl)) (by kernel_rfl)) (by kernel_rfl)) (by kernel_rfl)) camEnds_inPlace) camEnds_unfollowed) camEnds_recurses) camEnds_named) (by kernel_rfl)) (by kernel_rfl)) (by kernel_rfl)) (by kernel_rfl)) (by kernel_rfl)) (by kernel_rfl)) (by kernel_rfl)) (by kernel_rfl)) (by kernel_rfl)) (by kernel_rfl)) (by kernel_rfl)) tHeard) tMayEnter) (eq_t (α := Bool) tFinal.symm)) (eq_t tMake)) (by kernel_rfl)) (by kernel_rfl)) (by kernel_rfl)) (by kernel_rfl))
theorem camEnds_wrap : Func.isWrapper Tryz.prog Tryz.f6 Rows.camEndsRow.wrapper Rows.camEndsRow.mainSum := by unfold Func.isWrapper; rw [if_neg (of_decide_eq_false (by kernel_rfl))]; exact ⟨rfl, rfl⟩
theorem camEnds_row : Rows.CamEndsSaid :=
  OpenClaim.holds_of_wide 6 Tryz.f6 rfl rfl rfl rfl rfl rfl rfl ⟨rfl, rfl, rfl, rfl, rfl⟩ rfl rfl rfl rfl rfl camEnds_func Tryz.func6 camEnds_closed (of_decide_eq_true (by kernel_rfl)) camEnds_wrap (fun os started H enc _ => camEnds_lifted os started H enc)
theorem camEnds_plain : ∀ (j : Nat) t, Tryz.f6.params[j]? = some t → Tryz.prog.wantsStandIn t = false := fun j t ht => by
  rw [Tryz.params6] at ht
  have hm : t ∈ [23, 3, 35] := by simpa using Array.mem_of_getElem? ht
  have hall : ([23, 3, 35].all fun u => !Tryz.prog.wantsStandIn u) = true := by kernel_rfl
  exact (show Tryz.prog.wantsStandIn t = false by simpa using List.all_eq_true.1 hall t hm)
theorem camEnds_holds : Rows.CamEndsCardSaid :=
  Claim7.holds_tied_plain_at .later [] [.data, .data, .data] true (true, "985ec80ef9f166c509f88728729dbb443cbd59a290a76d8409e815b6bbda0ad3") true camEnds_row (fun _ h => by cases h) camEnds_text (fun _ h => by cases h) camEnds_row_tie rfl ⟨rfl, rfl⟩ tMainIs rfl
    (fun f fn hf hfn => by
      obtain rfl : f = 6 := Option.some.inj (camEnds_func.symm.trans hf) |>.symm
      obtain rfl : fn = Tryz.f6 := (Option.some.inj (Tryz.func6.symm.trans hfn)).symm
      exact ⟨tLooks, camEnds_plain⟩)
    camEnds_goes
#print axioms camEnds_holds
end Go.Proofs.YtncfgkhbenmpoaaGreatDoor
end
