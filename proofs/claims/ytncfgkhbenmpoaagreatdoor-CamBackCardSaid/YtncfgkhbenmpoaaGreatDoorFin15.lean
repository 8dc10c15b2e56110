/-
  The law CamBack: its card. Conditions: none of the input; the tables of the library that the row lists are as the program lays them (the tie is given).
-/
import Derived.Test.YtncfgkhbenmpoaaGreatDoorGj
import Derived.Test.YtncfgkhbenmpoaaGreatDoorGt
import Derived.Test.YtncfgkhbenmpoaaGreatDoorGq
import Derived.Test.YtncfgkhbenmpoaaGreatDoorCards
section
namespace Go.Proofs.YtncfgkhbenmpoaaGreatDoor
open Go Go.ChangeShapes Go.WideShapes Go.ChangeAt Go.RowKit Go.Proofs
set_option linter.unusedVariables false

set_option maxRecDepth 100000 in
theorem camBack_lifted (os : Os) (started : os.Started) (H : Type) (enc : TypeId × Value → H) :
    ReturnsInHanded {} Tryz.checked os 15 .any (fun w args => (Rows.camBackSpec.pre enc Tryz.prog Tryz.f15 [] false w args ∧ laidMetH Tryz.prog lay3 w) ∧ sizedMet enc Tryz.prog Tryz.f15 (OpenSpec.ofChange Rows.camBackSpec) false w args)
      (Rows.camBackSpec.post enc Tryz.prog Tryz.f15 false true false false) := by
  refine returnsInHanded_of_change_and (C := Tryz.checked) (X := fun w _ => laidMetH Tryz.prog lay3 w) (fun _ _ _ hh h => h.of_heap hh) ownT started (by kernel_rfl) Tryz.func15
    (ChangeSpec.witness_shaped (enc := enc) (C := Tryz.checked) (os := os) (X := fun w _ => laidMetH Tryz.prog lay3 w) false (World.laidAll Tryz.prog os lay3) #[.agg #[.int .i64 0, .slice none 0 0], .int .i64 0, .int .i64 0, .int .i64 0] 12 (World.laidAll_os _ _ _)
      (World.shaped_of_ZipB (by kernel_rfl) (by kernel_rfl)) (by kernel_rfl) (by kernel_rfl) (by kernel_rfl)
      (by rw [MakeChecks.laidMetH_plain _ _ _ (by kernel_rfl)]; exact laidMet_laidAll _ (by kernel_rfl) (by kernel_rfl))) ?_
  intro W base args ds gs before hval0 hW _ _ _ _
  have hval : ∀ (j : Nat) t v, Tryz.f15.params[j]? = some t → args[j]? = some v → Value.okWide Tryz.prog W .any base t v := hval0
  have hW' := hW
  obtain ⟨p, q, hA0, hV, rfl, _, _⟩ := hW
  have hA : DataW.TrodAll enc Tryz.prog W 0 (fun _ => true) true Tryz.f15.params.toList args.toList ds p := hA0
  rw [Tryz.params15] at hA hval
  obtain ⟨v0, vs0, d0, ds0, p0, q0, hargs, rfl, rfl, h0, r0⟩ := trodAll_cons hA
  obtain ⟨v1, vs1, d1, ds1, p1, q1, rfl, rfl, rfl, h1, r1⟩ := trodAll_cons r0
  obtain ⟨v2, vs2, d2, ds2, p2, q2, rfl, rfl, rfl, h2, r2⟩ := trodAll_cons r1
  obtain ⟨v3, vs3, d3, ds3, p3, q3, rfl, rfl, rfl, h3, r3⟩ := trodAll_cons r2
  obtain ⟨rfl, rfl, rfl⟩ := trodAll_nil r3
  obtain rfl : args = #[v0, v1, v2, v3] := by cases args; simp_all
  obtain ⟨rfl, rfl⟩ := trodVars_none hV
  obtain ⟨u0, b0, c0, xs0, rfl, rd0, hl0⟩ := op61 (hval 0 61 v0 rfl rfl) h0
  obtain ⟨a1, rfl, _, _⟩ := op3 (hval 1 3 v1 rfl rfl) h1
  obtain ⟨a2, rfl, _, _⟩ := op3 (hval 2 3 v2 rfl rfl) h2
  obtain ⟨a3, rfl, _, _⟩ := op3 (hval 3 3 v3 rfl rfl) h3
  clear hA0 hval0
  refine (law15 u0 b0 c0 xs0 a1 a2 a3 W rd0).mono fun e W' ⟨he, bel⟩ => ?_
  subst he
  exact ⟨_, rfl, _, _, _, [], _, [], hW', trodAll_mk1 (shut_bool Tryz.underlying4 _), (trodAll_cons_mk (Below.trod laidOutT (by kernel_rfl) (of_decide_eq_true (by kernel_rfl)) h0 bel (trod_lt h0)) (trodAll_cons_mk (Below.trod laidOutT (by kernel_rfl) (of_decide_eq_true (by kernel_rfl)) h1 bel (trod_lt h1)) (trodAll_cons_mk (Below.trod laidOutT (by kernel_rfl) (of_decide_eq_true (by kernel_rfl)) h2 bel (trod_lt h2)) (trodAll_cons_mk (Below.trod laidOutT (by kernel_rfl) (of_decide_eq_true (by kernel_rfl)) h3 bel (trod_lt h3)) trodAll_mk0)))), rfl, bel.frame _, fun h => by cases h⟩
theorem camBack_wf : Rows.camBackRow.wf (OpenSpec.ofChange Rows.camBackSpec) = true := by kernel_rfl
theorem camBack_inPlace : (Rows.camBackRow.inPlace == Tryz.prog.inPlace 15) = true := by kernel_rfl
theorem camBack_unfollowed : (Rows.camBackRow.unfollowed == Tryz.prog.unfollowed 15) = true := by kernel_rfl
theorem camBack_recurses : (Rows.camBackRow.recurses == Tryz.prog.recurses 15) = true := by kernel_rfl
theorem camBack_named : (Rows.camBackRow.named == Tryz.prog.varsNamed 15) = true := by kernel_rfl
theorem camBack_goes : false = Rows.camBackRow.goesBy Tryz.prog := by kernel_rfl
theorem camBack_func : Tryz.prog.funcNamed Rows.camBackRow.func = some 15 := by kernel_rfl
theorem camBack_text : Rows.camBackRow.wfByText (OpenSpec.ofChange Rows.camBackSpec) = true := by kernel_rfl
theorem camBack_closed : joinedFacts Tryz.prog 15 Tryz.f15 Rows.camBackSpec Rows.camBackRow = true :=
  (and_t (and_t (and_t (and_t (and_t (and_t (and_t (and_t (and_t (and_t (and_t (and_t (and_t (and_t (and_t (and_t (and_t (and_t (and_t (and_t (and_t (and_t (and_t (and_t (and_t (and_t (and_t (and_t (and_t (and_t (and_t camBack_wf tLaidOut) tMaps) (by kernel_rfl)) (by kernel_rfl)) (by kernel_rfl)) (by kernel_rfl)) (by kernel_rfl)) (by kernel_rfl)) camBack_inPlace) camBack_unfollowed) camBack_recurses) camBack_named) (by kernel_rfl)) (by kernel_rfl)) (by kernel_rfl)) (by kernel_rfl)) (by kernel_rfl)) (by kernel_rfl)) (by kernel_rfl)) (by kernel_rfl)) (by kernel_rfl)) (by kernel_rfl)) (by kernel_rfl)) tHeard) tMayEnter) (eq_t (α := Bool) tFinal.symm)) (eq_t tMake)) (by kernel_rfl)) (by kernel_rfl)) (by kernel_rfl)) (by kernel_rfl))
theorem camBack_wrap : Func.isWrapper Tryz.prog Tryz.f15 Rows.camBackRow.wrapper Rows.camBackRow.mainSum := by unfold Func.isWrapper; rw [if_neg (of_decide_eq_false (by kernel_rfl))]; exact ⟨rfl, rfl⟩
theorem camBack_row : Rows.CamBackSaid :=
  OpenClaim.holds_of_wide 15 Tryz.f15 rfl rfl rfl rfl rfl rfl rfl ⟨rfl, rfl, rfl, rfl, rfl⟩ rfl rfl rfl rfl rfl camBack_func Tryz.func15 camBack_closed (of_decide_eq_true (by kernel_rfl)) camBack_wrap (fun os started H enc _ => camBack_lifted os started H enc)
theorem camBack_plain : ∀ (j : Nat) t, Tryz.f15.params[j]? = some t → Tryz.prog.wantsStandIn t = false := fun j t ht => by
  rw [Tryz.params15] at ht
  have hm : t ∈ [61, 3, 3, 3] := by simpa using Array.mem_of_getElem? ht
  have hall : ([61, 3, 3, 3].all fun u => !Tryz.prog.wantsStandIn u) = true := by kernel_rfl
  exact (show Tryz.prog.wantsStandIn t = false by simpa using List.all_eq_true.1 hall t hm)
theorem camBack_holds : Rows.CamBackCardSaid :=
  Claim7.holds_tied_plain_at .later [] [.data, .data, .data] true (true, "985ec80ef9f166c509f88728729dbb443cbd59a290a76d8409e815b6bbda0ad3") true camBack_row (fun _ h => by cases h) camBack_text (fun _ h => by cases h) camBack_row_tie rfl ⟨rfl, rfl⟩ tMainIs rfl
    (fun f fn hf hfn => by
      obtain rfl : f = 15 := Option.some.inj (camBack_func.symm.trans hf) |>.symm
      obtain rfl : fn = Tryz.f15 := (Option.some.inj (Tryz.func15.symm.trans hfn)).symm
      exact ⟨tLooks, camBack_plain⟩)
    camBack_goes
#print axioms camBack_holds
end Go.Proofs.YtncfgkhbenmpoaaGreatDoor
end
