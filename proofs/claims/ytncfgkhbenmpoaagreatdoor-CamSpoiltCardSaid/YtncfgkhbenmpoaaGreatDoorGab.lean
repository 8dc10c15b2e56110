/-
  What the rows of books ask besides: five tables, a variable of the library, the shape of the world.
  The law of books that are written (the walk).
-/
import Derived.Test.YtncfgkhbenmpoaaGreatDoorGj
import Derived.Stop.LaidErr
import Derived.Shelf.Vars
import Derived.HandedShaped
import Derived.Lib.LaidTab
import Derived.Lib.ItoaNum
import Derived.Test.YtncfgkhbenmpoaaGreatDoorGaa
section
namespace Go.Proofs.YtncfgkhbenmpoaaGreatDoor
open Go Go.ChangeShapes Go.WideShapes Go.ChangeAt Go.RowKit Go.Proofs
set_option linter.unusedVariables false

def lay5 : List (String × DataW Unit) := [("math/bits.deBruijn32tab", Rows.laid_math_bits_deBruijn32tab), ("math/bits.deBruijn64tab", Rows.laid_math_bits_deBruijn64tab), ("internal/strconv.uint64pow10", Rows.laid_internal_strconv_uint64pow10), ("unicode/utf8.acceptRanges", Rows.laid_unicode_utf8_acceptRanges), ("unicode/utf8.first", Rows.laid_unicode_utf8_first)]
theorem pow10_data : (Rows.laid_internal_strconv_uint64pow10 : DataW Unit) = Lib.tabData .u64 Lib.pow10Tab := by kernel_rfl
theorem pow10_of {W : World} (h : laidMetH Tryz.prog lay5 W) : Lib.TabIs Tryz.prog W "internal/strconv.uint64pow10" .u64 Lib.pow10Tab := by
  rw [MakeChecks.laidMetH_plain _ _ _ (by kernel_rfl)] at h
  have h2 : laidMet Tryz.prog (("internal/strconv.uint64pow10", Lib.tabData .u64 Lib.pow10Tab) :: [("unicode/utf8.acceptRanges", Rows.laid_unicode_utf8_acceptRanges), ("unicode/utf8.first", Rows.laid_unicode_utf8_first)]) W := by
    rw [← pow10_data]; exact h.tail.tail
  exact Lib.tabIs_of_head (g := 0) (t := 215) (e := 196) (n := Lib.pow10Tab.length) (by kernel_rfl) (by kernel_rfl) (Tryz.underlying215) (by kernel_rfl) (by kernel_rfl) (by kernel_rfl) h2
/-- the wrap: what the row lists is kept, and so is the shape of the world -/
theorem returns_listed {H : Type} {enc : TypeId × Value → H} {C : Checked} {os : Os} {f : FuncId} {fn : Func} {s : ChangeSpec} {X : World → Array Value → Prop}
    (hX : ∀ (w w' : World) (args : Array Value), w.heap = w'.heap → X w args → X w' args)
    (own : ownKnob C.prog.godebug = none) (started : os.Started) (noInit : C.prog.inits.idxOf? f = none) (hfn : C.prog.funcs[f]? = some fn)
    (witness : ∃ (w : World) (tape : Tape) (i : Input), w.os = os ∧ (w.forCall tape i).Shaped C.prog ∧ i.vars = [] ∧ Input.okWide C.prog (w.forCall tape i) .any w.heap.size f i ∧
      ((s.pre enc C.prog fn [] false (w.forCall tape i).memory i.args ∧ X (w.forCall tape i).memory i.args) ∧ sizedMet enc C.prog fn (OpenSpec.ofChange s) false (w.forCall tape i).memory i.args) ∧ ({} : Assume).holds C.prog (lone (Frame.enter C.prog f i.args .normal) [] (w.forCall tape i)))
    (contract : ∀ (W : World) (base : Nat) (args : Array Value) (ds gs : List (DataW H)) (before : List MemPlace),
      (∀ (j : Nat) t v, fn.params[j]? = some t → args[j]? = some v → Value.okWide C.prog W .any base t v) →
      DataW.Whole enc C.prog fn.params.toList s.vars false W args.toList ds gs before → X W args → W.ShapedOpen C.prog →
      Calls C.prog f args W fun e W' => ∃ v, e = .returned v ∧ s.post enc C.prog fn false true false false W args v W') :
    ReturnsInHanded {} C os f .any (fun w args => (s.pre enc C.prog fn [] false w args ∧ X w args) ∧ sizedMet enc C.prog fn (OpenSpec.ofChange s) false w args) (s.post enc C.prog fn false true false false) := by
  refine returnsInHanded_of_calls own started noInit witness ?_
  intro w tape i _ hsh _ hok hpre _
  obtain ⟨_, _, _, fn', hfn', _, _, _, _, hval⟩ := hok
  obtain rfl : fn' = fn := Option.some.inj (hfn'.symm.trans hfn)
  obtain ⟨⟨⟨ds, gs, before, hw, _⟩, hx⟩, _⟩ := hpre
  refine (contract (w.forCall tape i) w.heap.size i.args ds gs before hval (DataW.Whole.of_heap (w' := w.forCall tape i) (by rfl) hw) (hX _ _ _ (by rfl) hx) hsh).mono fun e W' ⟨v, he, hp⟩ => ?_
  subst he
  exact ChangeSpec.post_blind hp
theorem maxLen_of {W : World} (h : W.ShapedOpen Tryz.prog) : ∃ m, W.cell? ⟨1, 0, none⟩ = some (.int .i64 m) :=
  cell_of_shapedOpen_int (g := 1) (t := 3) (zero := #[.int .i64 0]) h (of_decide_eq_true (by kernel_rfl)) (by kernel_rfl) rfl (by kernel_rfl) (by kernel_rfl) Tryz.underlying3
end Go.Proofs.YtncfgkhbenmpoaaGreatDoor
end

section
namespace Go.Proofs.YtncfgkhbenmpoaaGreatDoor
open Go Go.RowKit Go.Proofs Go.Shelf
set_option linter.unusedVariables false

theorem len_of_few {css : List (List Int)} (h : fewB css = true) : LenC css := by
  have := of_decide_eq_true h
  exact ⟨by have := this.1; omega, fun i hi' => by have := this.2 i hi'; omega⟩
theorem c72_no (lo hi sl ch : Int) (p : Option Addr) (cap : Nat) (css : List (List Int)) (w : World) (hx : RdC w p css) (hl : LenC css) (h : (ruleB lo hi sl ch && camsB css) = false) :
    Calls Tryz.prog 72 #[.agg #[.int .i64 lo, .int .i64 hi, .int .i64 sl, .int .i64 ch], .slice p css.length cap] w fun e w' => e = .returned (.tuple #[.string ⟨#[]⟩, .int .i64 2]) ∧ Below w.heap.size w w' :=
  (c72 lo hi sl ch p cap css w hx hl).mono (by
    rintro e w' ⟨⟨t, er, rfl, h1, h2⟩, hb⟩
    rw [h] at h1 h2
    have h1 : t = ⟨#[]⟩ := h1
    have h2 : er = 2 := h2
    subst h1
    subst h2
    exact ⟨rfl, hb⟩)
theorem c72_ok (lo hi sl ch : Int) (p : Option Addr) (cap : Nat) (css : List (List Int)) (w : World) (hx : RdC w p css) (hl : LenC css) (h : (ruleB lo hi sl ch && camsB css) = true) (T : ByteArray) (hT : textF lo hi sl ch css = T) :
    Calls Tryz.prog 72 #[.agg #[.int .i64 lo, .int .i64 hi, .int .i64 sl, .int .i64 ch], .slice p css.length cap] w fun e w' => e = .returned (.tuple #[.string T, .int .i64 0]) ∧ Below w.heap.size w w' :=
  (c72 lo hi sl ch p cap css w hx hl).mono (by
    rintro e w' ⟨⟨t, er, rfl, h1, h2⟩, hb⟩
    rw [h] at h1 h2
    have h1 : t = textF lo hi sl ch css := h1
    have h2 : er = 0 := h2
    rw [hT] at h1
    subst h1
    subst h2
    exact ⟨rfl, hb⟩)
/-- the answer of reading a book that was written -/
theorem c74_book (lo hi sl ch : Int) (css : List (List Int)) (m : Int) (w : World) (hr : ruleB lo hi sl ch = true) (hc : camsB css = true) (T : ByteArray) (hT : textF lo hi sl ch css = T) (hm : w.cell? ⟨1, 0, none⟩ = some (.int .i64 m)) (hI : ItoaR 1000 w) :
    Calls Tryz.prog 74 #[.string T] w fun e w' => (∃ p cp, e = .returned (.tuple #[.agg #[.int .i64 lo, .int .i64 hi, .int .i64 sl, .int .i64 ch], .slice p css.length cp, .int .i64 0]) ∧ RdC w' p css) ∧ Below w.heap.size w w' :=
  (c74 T m w (by rw [← hT]; have := book_size hr hc; omega) hm hI).mono (by
    rintro e w' ⟨⟨a, b, c, d, cs, p, cp, er, rfl, h1, h2⟩, hb⟩
    rw [← hT] at h2
    obtain ⟨rfl, rfl, rfl, rfl, rfl, rfl⟩ := read_book hr hc h2
    exact ⟨⟨p, cp, rfl, h1⟩, hb⟩)
set_option maxRecDepth 100000 in
set_option maxHeartbeats 4000000 in
theorem law21 (lo hi sl ch : Int) (p : Option Addr) (cap : Nat) (css : List (List Int)) (m : Int) (w : World) (hx : RdC w p css) (hm : w.cell? ⟨1, 0, none⟩ = some (.int .i64 m)) (ht : Lib.TabIs Tryz.prog w "internal/strconv.uint64pow10" .u64 Lib.pow10Tab) :
    Calls Tryz.prog 21 #[.agg #[.int .i64 lo, .int .i64 hi, .int .i64 sl, .int .i64 ch], .slice p css.length cap] w (LawPost w) := by
  obtain ⟨w0, e0, HS0, k0, k1, k2, k3, b0⟩ := box4 w (.int .i64 lo) (.int .i64 hi) (.int .i64 sl) (.int .i64 ch) 23
  have HX := Lib.hid (hx.below b0)
  have HB := Lib.hid b0
  have km := (b0.cell (lt_of_cellq hm)).trans hm
  have HI := Lib.hid ((itoaR_full ht).below b0)
  clear hx b0 hm ht
  go_enter Tryz.func21, Tryz.ntmps21
  (go_wp2_with fail); refine (c71 p cap css _ HX.out).mono ?_; rintro e wn ⟨rfl, rfl⟩
  clear e0
  cases hTT : (fewB css); (case false => ((clear hTT); (go_wp2_with fail); refine (c25 _).mono ?_; rintro e wn ⟨rfl, bq⟩; replace HB := Lib.hid (HB.out.trans (bq.mono HB.out.size)); clear bq; go_wp2; go_ret; exact ⟨rfl, HB.out⟩)); have S1 := Lib.hid hTT; clear hTT
  have HL := Lib.hid (len_of_few S1.out)
  cases hr : ruleB lo hi sl ch with
  | false =>
    (go_wp2_with fail); refine (c72_no lo hi sl ch p cap css _ HX.out HL.out (by rw [hr]; rfl)).mono ?_; rintro e wn ⟨rfl, bq⟩; replace HB := Lib.hid (HB.out.trans (bq.mono HB.out.size)); replace HX := Lib.hid (HX.out.below bq); replace HI := Lib.hid (HI.out.below bq); replace k0 := (bq.cell (lt_of_cellq k0)).trans k0; replace k1 := (bq.cell (lt_of_cellq k1)).trans k1; replace k2 := (bq.cell (lt_of_cellq k2)).trans k2; replace k3 := (bq.cell (lt_of_cellq k3)).trans k3; replace km := (bq.cell (lt_of_cellq km)).trans km; clear bq
    (go_wp2_with fail); refine (c27 lo hi sl ch _).mono ?_; rw [hr]; rintro e wn ⟨rfl, bq⟩; replace HB := Lib.hid (HB.out.trans (bq.mono HB.out.size)); replace HX := Lib.hid (HX.out.below bq); replace HI := Lib.hid (HI.out.below bq); replace k0 := (bq.cell (lt_of_cellq k0)).trans k0; replace k1 := (bq.cell (lt_of_cellq k1)).trans k1; replace k2 := (bq.cell (lt_of_cellq k2)).trans k2; replace k3 := (bq.cell (lt_of_cellq k3)).trans k3; replace km := (bq.cell (lt_of_cellq km)).trans km; clear bq
    (go_wp2_with fail); refine (c25 _).mono ?_; rintro e wn ⟨rfl, bq⟩; replace HB := Lib.hid (HB.out.trans (bq.mono HB.out.size)); clear bq; go_wp2; go_ret; exact ⟨rfl, HB.out⟩
  | true =>
    cases hc : camsB css with
    | false =>
      (go_wp2_with fail); refine (c72_no lo hi sl ch p cap css _ HX.out HL.out (by rw [hr, hc]; rfl)).mono ?_; rintro e wn ⟨rfl, bq⟩; replace HB := Lib.hid (HB.out.trans (bq.mono HB.out.size)); replace HX := Lib.hid (HX.out.below bq); replace HI := Lib.hid (HI.out.below bq); replace k0 := (bq.cell (lt_of_cellq k0)).trans k0; replace k1 := (bq.cell (lt_of_cellq k1)).trans k1; replace k2 := (bq.cell (lt_of_cellq k2)).trans k2; replace k3 := (bq.cell (lt_of_cellq k3)).trans k3; replace km := (bq.cell (lt_of_cellq km)).trans km; clear bq
      (go_wp2_with fail); refine (c27 lo hi sl ch _).mono ?_; rw [hr]; rintro e wn ⟨rfl, bq⟩; replace HB := Lib.hid (HB.out.trans (bq.mono HB.out.size)); replace HX := Lib.hid (HX.out.below bq); replace HI := Lib.hid (HI.out.below bq); replace k0 := (bq.cell (lt_of_cellq k0)).trans k0; replace k1 := (bq.cell (lt_of_cellq k1)).trans k1; replace k2 := (bq.cell (lt_of_cellq k2)).trans k2; replace k3 := (bq.cell (lt_of_cellq k3)).trans k3; replace km := (bq.cell (lt_of_cellq km)).trans km; clear bq
      (go_wp2_with fail); refine (c73 p cap css _ HX.out HL.out).mono ?_; rw [hc]; rintro e wn ⟨rfl, rfl⟩
      (go_wp2_with fail); refine (c25 _).mono ?_; rintro e wn ⟨rfl, bq⟩; replace HB := Lib.hid (HB.out.trans (bq.mono HB.out.size)); clear bq; go_wp2; go_ret; exact ⟨rfl, HB.out⟩
    | true =>
      obtain ⟨T, hT⟩ : ∃ T, textF lo hi sl ch css = T := ⟨_, rfl⟩
      have HT := Lib.hid hT
      have HR := Lib.hid hr
      have HC := Lib.hid hc
      have HCL := Lib.hid (show css.length ≤ 4 ∧ ∀ i, i < css.length → (gl css i).length ≤ 24 from ⟨(camsB_parts hc).1, fun i hi' => (cam_small ((camsB_parts hc).2 i hi')).2⟩)
      have HBO := Lib.hid (show BookOk 1000 lo hi sl ch css from ⟨small_up (rule_small hr), by have := HCL.out.1; omega, fun i hi' => ⟨small_up (cam_small ((camsB_parts hc).2 i hi')).1, by have := HCL.out.2 i hi'; omega⟩⟩)
      (go_wp2_with fail); refine (c72_ok lo hi sl ch p cap css _ HX.out HL.out (by rw [hr, hc]; rfl) T hT).mono ?_; rintro e wn ⟨rfl, bq⟩; replace HB := Lib.hid (HB.out.trans (bq.mono HB.out.size)); replace HX := Lib.hid (HX.out.below bq); replace HI := Lib.hid (HI.out.below bq); replace k0 := (bq.cell (lt_of_cellq k0)).trans k0; replace k1 := (bq.cell (lt_of_cellq k1)).trans k1; replace k2 := (bq.cell (lt_of_cellq k2)).trans k2; replace k3 := (bq.cell (lt_of_cellq k3)).trans k3; replace km := (bq.cell (lt_of_cellq km)).trans km; clear bq
      (go_wp2_with fail); refine (c27 lo hi sl ch _).mono ?_; rw [hr]; rintro e wn ⟨rfl, bq⟩; replace HB := Lib.hid (HB.out.trans (bq.mono HB.out.size)); replace HX := Lib.hid (HX.out.below bq); replace HI := Lib.hid (HI.out.below bq); replace k0 := (bq.cell (lt_of_cellq k0)).trans k0; replace k1 := (bq.cell (lt_of_cellq k1)).trans k1; replace k2 := (bq.cell (lt_of_cellq k2)).trans k2; replace k3 := (bq.cell (lt_of_cellq k3)).trans k3; replace km := (bq.cell (lt_of_cellq km)).trans km; clear bq
      (go_wp2_with fail); refine (c73 p cap css _ HX.out HL.out).mono ?_; rw [hc]; rintro e wn ⟨rfl, rfl⟩
      clear hr hc hT
      (go_wp2_with fail); refine (c74_book lo hi sl ch css m _ HR.out HC.out T HT.out km HI.out).mono ?_; rintro e wn ⟨⟨pc, cc, rfl, hrd⟩, bq⟩; replace HB := Lib.hid (HB.out.trans (bq.mono HB.out.size)); replace HX := Lib.hid (HX.out.below bq); replace HI := Lib.hid (HI.out.below bq); replace k0 := (bq.cell (lt_of_cellq k0)).trans k0; replace k1 := (bq.cell (lt_of_cellq k1)).trans k1; replace k2 := (bq.cell (lt_of_cellq k2)).trans k2; replace k3 := (bq.cell (lt_of_cellq k3)).trans k3; replace km := (bq.cell (lt_of_cellq km)).trans km; clear bq
      have HRD := Lib.hid hrd
      clear hrd
      obtain ⟨wb, eb, HSb, x0, x1, x2, x3, bb⟩ := box4 wn (.int .i64 lo) (.int .i64 hi) (.int .i64 sl) (.int .i64 ch) 23
      replace HB := Lib.hid (HB.out.trans (bb.mono HB.out.size))
      replace HX := Lib.hid (HX.out.below bb)
      replace HRD := Lib.hid (HRD.out.below bb)
      replace k0 := (bb.cell (lt_of_cellq k0)).trans k0
      replace k1 := (bb.cell (lt_of_cellq k1)).trans k1
      replace k2 := (bb.cell (lt_of_cellq k2)).trans k2
      replace k3 := (bb.cell (lt_of_cellq k3)).trans k3
      have h75 := c75 lo hi sl ch p cap css wb HX.out HBO.out
      unfold TextPost at h75
      rw [HT.out] at h75
      clear bb km
      (go_wp2_with fail); refine (h75).mono ?_; rintro e wn ⟨rfl, bq⟩; replace HB := Lib.hid (HB.out.trans (bq.mono HB.out.size)); replace HX := Lib.hid (HX.out.below bq); replace HRD := Lib.hid (HRD.out.below bq); replace k0 := (bq.cell (lt_of_cellq k0)).trans k0; replace k1 := (bq.cell (lt_of_cellq k1)).trans k1; replace k2 := (bq.cell (lt_of_cellq k2)).trans k2; replace k3 := (bq.cell (lt_of_cellq k3)).trans k3; replace x0 := (bq.cell (lt_of_cellq x0)).trans x0; replace x1 := (bq.cell (lt_of_cellq x1)).trans x1; replace x2 := (bq.cell (lt_of_cellq x2)).trans x2; replace x3 := (bq.cell (lt_of_cellq x3)).trans x3; clear bq
      clear h75 eb
      (go_wp2_with fail); refine (c76 pc cc css p cap css _ HRD.out HX.out (by have := HCL.out.1; omega) (fun i hi' => by have := HCL.out.2 i hi'; omega)).mono ?_; rintro e wn ⟨rfl, nq, hq⟩; (have bq := below_dr hq); clear hq; replace HB := Lib.hid (HB.out.trans (bq.mono HB.out.size)); replace HX := Lib.hid (HX.out.below bq); replace k0 := (bq.cell (lt_of_cellq k0)).trans k0; clear bq
      (go_wp2_with fail); refine (c25 _).mono ?_; rintro e wn ⟨rfl, bq⟩; replace HB := Lib.hid (HB.out.trans (bq.mono HB.out.size)); clear bq; go_wp2; go_ret; exact ⟨rfl, HB.out⟩
end Go.Proofs.YtncfgkhbenmpoaaGreatDoor
end
