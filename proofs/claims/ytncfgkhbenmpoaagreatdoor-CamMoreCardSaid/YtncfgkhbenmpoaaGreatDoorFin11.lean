/-
  The law CamMore: its card. Conditions: none of the input; the tables of the library that the row lists are as the program lays them (the tie is given).
-/
import Derived.Test.YtncfgkhbenmpoaaGreatDoorGj
import Derived.Test.YtncfgkhbenmpoaaGreatDoorGt
import Derived.Test.YtncfgkhbenmpoaaGreatDoorGv
import Derived.Test.YtncfgkhbenmpoaaGreatDoorCards
section
namespace Go.Proofs.YtncfgkhbenmpoaaGreatDoor
open Go Go.ChangeShapes Go.WideShapes Go.ChangeAt Go.RowKit Go.Proofs
set_option linter.unusedVariables false

set_option maxRecDepth 100000 in
theorem camMore_lifted (os : Os) (started : os.Started) (H : Type) (enc : TypeId × Value → H) :
    ReturnsInHanded {} Tryz.checked os 11 .any (fun w args => (Rows.camMoreSpec.pre enc Tryz.prog Tryz.f11 [] false w args ∧ laidMetH Tryz.prog lay3 w) ∧ sizedMet enc Tryz.prog Tryz.f11 (OpenSpec.ofChange Rows.camMoreSpec) false w args)
      (Rows.camMoreSpec.post enc Tryz.prog Tryz.f11 false true false false) := by
  refine returnsInHanded_of_change_and (C := Tryz.checked) (X := fun w _ => laidMetH Tryz.prog lay3 w) (fun _ _ _ hh h => h.of_heap hh) ownT started (by kernel_rfl) Tryz.func11
    (ChangeSpec.witness_shaped (enc := enc) (C := Tryz.checked) (os := os) (X := fun w _ => laidMetH Tryz.prog lay3 w) false (World.laidAll Tryz.prog os lay3) #[.agg #[.int .i64 0, .int .i64 0, .int .i64 0, .int .i64 0], .slice none 0 0, .int .i64 0, .int .i64 0, .slice none 0 0] 12 (World.laidAll_os _ _ _)
      (World.shaped_of_ZipB (by kernel_rfl) (by kernel_rfl)) (by kernel_rfl) (by kernel_rfl) (by kernel_rfl)
      (by rw [MakeChecks.laidMetH_plain _ _ _ (by kernel_rfl)]; exact laidMet_laidAll _ (by kernel_rfl) (by kernel_rfl))) ?_
  intro W base args ds gs before hval0 hW _ _ _ _
  have hval : ∀ (j : Nat) t v, Tryz.f11.params[j]? = some t → args[j]? = some v → Value.okWide Tryz.prog W .any base t v := hval0
  have hW' := hW
  obtain ⟨p, q, hA0, hV, rfl, _, _⟩ := hW
  have hA : DataW.TrodAll enc Tryz.prog W 0 (fun _ => true) true Tryz.f11.params.toList args.toList ds p := hA0
  rw [Tryz.params11] at hA hval
  obtain ⟨v0, vs0, d0, ds0, p0, q0, hargs, rfl, rfl, h0, r0⟩ := trodAll_cons hA
  obtain ⟨v1, vs1, d1, ds1, p1, q1, rfl, rfl, rfl, h1, r1⟩ := trodAll_cons r0
  obtain ⟨v2, vs2, d2, ds2, p2, q2, rfl, rfl, rfl, h2, r2⟩ := trodAll_cons r1
  obtain ⟨v3, vs3, d3, ds3, p3, q3, rfl, rfl, rfl, h3, r3⟩ := trodAll_cons r2
  obtain ⟨v4, vs4, d4, ds4, p4, q4, rfl, rfl, rfl, h4, r4⟩ := trodAll_cons r3
  obtain ⟨rfl, rfl, rfl⟩ := trodAll_nil r4
  obtain rfl : args = #[v0, v1, v2, v3, v4] := by cases args; simp_all
  obtain ⟨rfl, rfl⟩ := trodVars_none hV
  obtain ⟨lo0, hi0, sl0, ch0, rfl⟩ := op23 (hval 0 23 v0 rfl rfl) h0
  obtain ⟨b1, c1, xs1, rfl, rd1, hl1⟩ := op24 (hval 1 24 v1 rfl rfl) h1
  obtain ⟨a2, rfl, _, _⟩ := op3 (hval 2 3 v2 rfl rfl) h2
  obtain ⟨a3, rfl, _, _⟩ := op3 (hval 3 3 v3 rfl rfl) h3
  obtain ⟨b4, c4, gs4, rfl, rd4, hl4⟩ := op35 (hval 4 35 v4 rfl rfl) h4
  clear hA0 hval0
  refine (law11 lo0 hi0 sl0 ch0 b1 c1 xs1 a2 a3 b4 c4 gs4 W rd1 rd4).mono fun e W' ⟨he, bel⟩ => ?_
  subst he
  exact ⟨_, rfl, _, _, _, [], _, [], hW', trodAll_mk1 (shut_bool Tryz.underlying4 _), (trodAll_cons_mk (Below.trod laidOutT (by kernel_rfl) (of_decide_eq_true (by kernel_rfl)) h0 bel (trod_lt h0)) (trodAll_cons_mk (Below.trod laidOutT (by kernel_rfl) (of_decide_eq_true (by kernel_rfl)) h1 bel (trod_lt h1)) (trodAll_cons_mk (Below.trod laidOutT (by kernel_rfl) (of_decide_eq_true (by kernel_rfl)) h2 bel (trod_lt h2)) (trodAll_cons_mk (Below.trod laidOutT (by kernel_rfl) (of_decide_eq_true (by kernel_rfl)) h3 bel (trod_lt h3)) (trodAll_cons_mk (Below.trod laidOutT (by kernel_rfl) (of_decide_eq_true (by kernel_rfl)) h4 bel (trod_lt h4)) trodAll_mk0))))), rfl, bel.frame _, fun h => by cases h⟩
theorem camMore_wf : Rows.camMoreRow.wf (OpenSpec.ofChange Rows.camMoreSpec) = true := by kernel_rfl
theorem camMore_inPlace : (Rows.camMoreRow.inPlace == Tryz.prog.inPlace 11) = true := by kernel_rfl
theorem camMore_unfollowed : (Rows.camMoreRow.unfollowed == Tryz.prog.unfollowed 11) = true := by kernel_rfl
theorem camMore_recurses : (Rows.camMoreRow.recurses == Tryz.prog.recurses 11) = true := by kernel_rfl
theorem camMore_named : (Rows.camMoreRow.named == Tryz.prog.varsNamed 11) = true := by kernel_rfl
theorem camMore_goes : false = Rows.camMoreRow.goesBy Tryz.prog := by kernel_rfl
theorem camMore_func : Tryz.prog.funcNamed Rows.camMoreRow.func = some 11 := by kernel_rfl
theorem camMore_text : Rows.camMoreRow.wfByText (OpenSpec.ofChange Rows.camMoreSpec) = true := by kernel_rfl
theorem camMore_closed : joinedFacts Tryz.prog 11 Tryz.f11 Rows.camMoreSpec Rows.camMoreRow = true :=
  (and_t (and_t (and_t (and_t (and_t (and_t (and_t (and_t (and_t (and_t (and_t (and_t (and_t (and_t (and_t (and_t (and_t (and_t (and_t (and_t (and_t (and_t (and_t (and_t (and_t (and_t (and_t (and_t (and_t (and_t (and_t camMore_wf tLaidOut) tMaps) (by kernel_rfl)) (by kernel_rfl)) (by kernel_rfl)) (by kernel_rfl)) (by kernel_rfl)) (by kernel_rfl)) camMore_inPlace) camMore_unfollowed) camMore_recurses) camMore_named) (by kernel_rfl)) (by kernel_rfl)) (by kernel_rfl)) (by kernel_rfl)) (by kernel_rfl)) (by kernel_rfl)) (by kernel_rfl)) (by kernel_rfl)) (by kernel_rfl)) (by kernel_rfl)) (by kernel_rfl)) tHeard) tMayEnter) (eq_t (α := Bool) tFinal.symm)) (eq_t tMake)) (by kernel_rfl)) (by kernel_rfl)) (by kernel_rfl)) (by kernel_rfl))
theorem camMore_wrap : Func.isWrapper Tryz.prog Tryz.f11 Rows.camMoreRow.wrapper Rows.camMoreRow.mainSum := by unfold Func.isWrapper; rw [if_neg (of_decide_eq_false (by kernel_rfl))]; exact ⟨rfl, rfl⟩
theorem camMore_row : Rows.CamMoreSaid :=
  OpenClaim.holds_of_wide 11 Tryz.f11 rfl rfl rfl rfl rfl rfl rfl ⟨rfl, rfl, rfl, rfl, rfl⟩ rfl rfl rfl rfl rfl camMore_func Tryz.func11 camMore_closed (of_decide_eq_true (by kernel_rfl)) camMore_wrap (fun os started H enc _ => camMore_lifted os started H enc)
theorem camMore_plain : ∀ (j : Nat) t, Tryz.f11.params[j]? = some t → Tryz.prog.wantsStandIn t = false := fun j t ht => by
  rw [Tryz.params11] at ht
  have hm : t ∈ [23, 24, 3, 3, 35] := by simpa using Array.mem_of_getElem? ht
  have hall : ([23, 24, 3, 3, 35].all fun u => !Tryz.prog.wantsStandIn u) = true := by kernel_rfl
  exact (show Tryz.prog.wantsStandIn t = false by simpa using List.all_eq_true.1 hall t hm)
theorem camMore_holds : Rows.CamMoreCardSaid :=
  Claim7.holds_tied_plain_at .later [] [.data, .data, .data] true (true, "985ec80ef9f166c509f88728729dbb443cbd59a290a76d8409e815b6bbda0ad3") true camMore_row (fun _ h => by cases h) camMore_text (fun _ h => by cases h) camMore_row_tie rfl ⟨rfl, rfl⟩ tMainIs rfl
    (fun f fn hf hfn => by
      obtain rfl : f = 11 := Option.some.inj (camMore_func.symm.trans hf) |>.symm
      obtain rfl : fn = Tryz.f11 := (Option.some.inj (Tryz.func11.symm.trans hfn)).symm
      exact ⟨tLooks, camMore_plain⟩)
    camMore_goes
#print axioms camMore_holds
end Go.Proofs.YtncfgkhbenmpoaaGreatDoor
end
