/-
  Texts of lines, plain (no program in sight): lines and their ends, parts between single bytes, the check of a text, a spoilt text.
  Logs of pieces as defined, plain: how long they are, a spoilt log, what reading answers (no program in sight).
  A number's decimal text by the document (the walk).
  The program's Print: the document of a piece, or the error; a law's walk.
  A negation in a quiet walk.
  A drawn region whose cells are known: its beginning, in short words.
  The document by its own words: ref.Print (the walk).
  The law SlackPrints: the walk.
  The law SlackPrints: its card. Conditions: none of the input; the tables of the library that the row lists are as the program lays them (the tie is given).
-/
import Derived.Test.YtlednchfifphgaaGreatDoorGI
import Derived.Lib.Join
import Derived.Lib.SplitLaws
import Derived.Lib.IndexBytes
import Derived.Lib.ItoaNum
import Derived.Lib.ItoaMem
import Derived.Test.YtlednchfifphgaaGreatDoorGA
import Derived.Laws.IdiomStrings
import Derived.Test.YtlednchfifphgaaGreatDoorGY
import Derived.Test.YtlednchfifphgaaGreatDoorGH
import Derived.Test.YtlednchfifphgaaGreatDoorGX2
import Derived.Test.YtlednchfifphgaaGreatDoorGL
import Derived.Test.YtlednchfifphgaaGreatDoorGZ
import Derived.Test.YtlednchfifphgaaGreatDoorCards
section
namespace Go.Proofs.YtlednchfifphgaaGreatDoor
open Go
set_option linter.unusedVariables false


theorem dec1 {n : Int} (h : 0 ≤ n ∧ n ≤ 9) : (decA n).data.toList = [UInt8.ofNat (48 + n.toNat)] := by
  unfold decA; rw [Lib.decDigits, dif_pos (by omega)]
end Go.Proofs.YtlednchfifphgaaGreatDoor
end

section
namespace Go.Proofs.YtlednchfifphgaaGreatDoor
open Go
set_option linter.unusedVariables false

theorem flat_le : ∀ (L : List (List UInt8)) (m : Nat), (∀ l ∈ L, l.length ≤ m) → (flat L).length ≤ (m + 1) * L.length := by
  intro L m
  induction L with
  | nil => intro _; simp [flat]
  | cons l r ih =>
    intro h; have h1 := ih fun x hx => h x (List.mem_cons_of_mem _ hx)
    have h2 := h l List.mem_cons_self; simp only [flat, List.length_append, List.length_cons, Nat.mul_succ]; omega
theorem chk_len (S : Int) : (chkF S).data.toList.length = 7 := by
  unfold chkF; simp only [ba_append]; rw [dec1 (by omega), dec1 (by omega), dec1 (by omega)]
  rfl
theorem text_size {p : Pc} (hp : PieceOk p) : (textP p).size ≤ 400 := by
  have hs := small_of hp; have e : (textP p).size = (flat (txtL (rowsP p))).length := by unfold textP; rw [size_toList, txtF_data]
  rw [e]; obtain ⟨S, hS⟩ : ∃ S, sumRows (rowsP p) (rowsP p).length = S := ⟨_, rfl⟩; unfold txtL; rw [hS, flat_app]; have h5 : (flat [(chkF S).data.toList]).length = 8 := by simp only [flat, List.length_append, chk_len]; rfl
  rw [List.length_append, h5]; unfold rowsP; rw [List.map_cons, List.map_append, List.map_cons, flat, List.length_append, List.length_cons, flat_app, List.length_append, flat, List.length_append, List.length_cons]; have h1 := head_size hs; have h2 := mv_size hs
  have h3 := flat_le ((p.ms.map meR).map (·.data.toList)) 16 (fun l hl => by
    obtain ⟨x, hx, rfl⟩ := List.mem_map.1 hl; rw [← size_toList]; exact me_size hs hx)
  have h4 := flat_le ((p.rs.map rdR).map (·.data.toList)) 31 (fun l hl => by
    obtain ⟨x, hx, rfl⟩ := List.mem_map.1 hl; rw [← size_toList]; exact rd_size hs hx)
  rw [List.length_map, List.length_map] at h3 h4; rw [size_toList] at h1 h2; have := hp.n4; have := hp.m8; have := hp.r6; omega
theorem read_book {p q : Pc} {er : Int} (hp : pieceB p = true) (h : ReadR (textP p) q er) : q = p ∧ er = 0 := by
  have hb := bk_text (pieceB_iff.1 hp); have hz := text_size (pieceB_iff.1 hp)
  rcases h with ⟨⟨h1, _⟩ | ⟨_, h1, _⟩ | ⟨_, ⟨x, h1, h2⟩, _⟩, _⟩ | ⟨_, h1, _, h2⟩
  · omega
  · exact absurd hb (h1 _)
  · rw [bk_unique h1 hb, hp] at h2; cases h2
  · exact ⟨bk_unique h1 hb, h2⟩
end Go.Proofs.YtlednchfifphgaaGreatDoor
end

section
namespace Go.Proofs.YtlednchfifphgaaGreatDoor
open Go Go.RowKit Go.Proofs Go.Shelf
set_option linter.unusedVariables false

theorem digit_conv (d : Nat) (hd : d < 10) (w : World) :
    (convert 172 9 (.slice (some ⟨w.heap.size, 0, none⟩) 1 1)).run Tryz.prog (w.alloc (.cells #[.int .u8 (48 + (d : Int))] 5)) = .ok (.string ⟨[UInt8.ofNat (48 + d)].toArray⟩) (w.alloc (.cells #[.int .u8 (48 + (d : Int))] 5)) := by
  have h := run_convert_bytes_back (P := Tryz.prog) (w.alloc (.cells #[.int .u8 (48 + (d : Int))] 5)) 172 9 5 ⟨w.heap.size, 0, none⟩ 1 [UInt8.ofNat (48 + d)] Tryz.underlying172 Tryz.underlying5 Tryz.underlying9 (fun j hj => by
    have hj0 : j = 0 := by simpa using hj
    subst hj0
    have e : ((UInt8.ofNat (48 + d)).toNat : Int) = 48 + (d : Int) := by
      rw [UInt8.toNat_ofNat']; omega
    simp only [List.getElem_cons_zero]; rw [e, add_new, at_new]
    simp)
  exact h
theorem app_one (b : UInt8) (l : List UInt8) : (⟨[b].toArray⟩ : ByteArray) ++ (⟨l.toArray⟩ : ByteArray) = ⟨(b :: l).toArray⟩ := by
  apply ByteArray.ext; simp [ByteArray.data_append]
def DecTo (n cur : Nat) (l : List UInt8) : Prop := if cur < 10 then l = Lib.decDigits n else Lib.decDigits (cur / 10) ++ l = Lib.decDigits n
theorem decTo_start (n : Nat) : DecTo n n [UInt8.ofNat (48 + n % 10)] := by
  unfold DecTo
  by_cases h : n < 10
  · rw [if_pos h, Lib.decDigits, dif_pos h, Nat.mod_eq_of_lt h]
  · rw [if_neg h]; conv => rhs; rw [Lib.decDigits, dif_neg h]
theorem decTo_next {n cur : Nat} {l : List UInt8} (h : DecTo n cur l) (hc : ¬ cur < 10) : DecTo n (cur / 10) (UInt8.ofNat (48 + cur / 10 % 10) :: l) := by
  unfold DecTo at h ⊢; rw [if_neg hc] at h
  by_cases h2 : cur / 10 < 10
  · rw [if_pos h2, ← h]
    conv => rhs; rw [Lib.decDigits, dif_pos h2]
    rw [Nat.mod_eq_of_lt h2]; rfl
  · rw [if_neg h2, ← h]
    conv => rhs; rw [Lib.decDigits, dif_neg h2]
    simp

set_option maxRecDepth 100000 in
theorem r_decNat (n : Nat) (hn : n < 100000) (w : World) :
    Calls Tryz.prog 86 #[.int .i64 n] w fun e w' => e = .returned (.string ⟨(Lib.decDigits n).toArray⟩) ∧ Below w.heap.size w w' := by
  obtain ⟨d, hd⟩ : ∃ d, n % 10 = d := ⟨_, rfl⟩; have hdl : d < 10 := by omega
  have ht1 : (n : Int).tmod 10 = (d : Int) := by rw [Int.tmod_eq_emod_of_nonneg (by omega)]; omega
  have ht2 : (n : Int) % 10 = (d : Int) := by omega
  have hw1 : IntKind.i64.wrap (d : Int) = (d : Int) := w64 _ (by omega) (by omega); have hw2 : IntKind.i64.wrap (48 + (d : Int)) = 48 + (d : Int) := w64 _ (by omega) (by omega); have hw3 : IntKind.u8.wrap (48 + (d : Int)) = 48 + (d : Int) := by rw [IntKind.wrap_u8]; omega
  have hcv := digit_conv d hdl w; have HD := Lib.hid (show DecTo n n [UInt8.ofNat (48 + d)] by rw [← hd]; exact decTo_start n); obtain ⟨l0, hl0⟩ : ∃ l0, [UInt8.ofNat (48 + d)] = l0 := ⟨_, rfl⟩; obtain ⟨s0, hs0⟩ : ∃ s0 : ByteArray, (⟨l0.toArray⟩ : ByteArray) = s0 := ⟨_, rfl⟩; obtain ⟨w1, e1⟩ : ∃ w1, w.alloc (.cells #[.int .u8 (48 + (d : Int))] 5) = w1 := ⟨_, rfl⟩; have HB := Lib.hid (show Below w.heap.size w w1 by rw [← e1]; exact below_alloc1 _ _); rw [hl0, hs0, e1] at hcv; rw [hl0] at HD; have HS := Lib.hid hs0; have HL0 := Lib.hid (show l0.length = 1 by rw [← hl0]; rfl); clear hd hl0 hs0
  go_enter Tryz.func86, Tryz.ntmps86
  have hn0 : decide ((n : Int) < 0) = false := by simp
  go_wp2; clear e1 hcv
  go_loopw [0, 3] (fun a v wx => ∃ cur : Nat, ∃ l : List UInt8, ∃ s : ByteArray, cur ≤ n ∧ a = .int .i64 cur ∧ v = .string s ∧ s.size + cur ≤ 100001 ∧ Hid ((⟨l.toArray⟩ : ByteArray) = s) ∧ Hid (DecTo n cur l) ∧ Hid (Below w1.heap.size w1 wx)) (fun a v _ => (intOf a).toNat)
  case atStart => exact ⟨n, l0, s0, Nat.le_refl _, rfl, rfl, by rw [← HS.out]; show l0.length + n ≤ _; rw [HL0.out]; omega, HS, HD, Lib.hid (Below.refl _ _)⟩
  case round =>
    obtain ⟨cur, l, s, hcn, rfl, rfl, hsz, HSS, HDT, HM⟩ := hrel; clear ht1 ht2 hw1 hw2 hw3 hdl HD HS HL0
    by_cases hc : cur < 10
    · have hcI : decide ((cur : Int) ≥ 10) = false := by simp; omega
      have hcJ : decide ((10 : Int) ≤ (cur : Int)) = false := by simp; omega
      have HE := Lib.hid (show s = ⟨(Lib.decDigits n).toArray⟩ by
        have h := HDT.out; unfold DecTo at h; rw [if_pos hc] at h; rw [← HSS.out, h])
      go_wp2; go_ret; exact ⟨by rw [HE.out]; rfl, HB.out.trans (HM.out.mono HB.out.size)⟩
    · have hcI : decide ((cur : Int) ≥ 10) = true := by simp; omega
      have hcJ : decide ((10 : Int) ≤ (cur : Int)) = true := by simp; omega
      obtain ⟨q, hq⟩ : ∃ q, cur / 10 = q := ⟨_, rfl⟩; obtain ⟨d', hd'⟩ : ∃ d', q % 10 = d' := ⟨_, rfl⟩; have hdl' : d' < 10 := by omega
      have hqc : q < cur := by omega
      have hq1 : (cur : Int).tdiv 10 = (q : Int) := by rw [Int.tdiv_eq_ediv_of_nonneg (by omega)]; omega
      have hq2 : (cur : Int) / 10 = (q : Int) := by omega
      have ht1 : (q : Int).tmod 10 = (d' : Int) := by rw [Int.tmod_eq_emod_of_nonneg (by omega)]; omega
      have ht2 : (q : Int) % 10 = (d' : Int) := by omega
      have hw0 : IntKind.i64.wrap (q : Int) = (q : Int) := w64 _ (by omega) (by omega); have hw1 : IntKind.i64.wrap (d' : Int) = (d' : Int) := w64 _ (by omega) (by omega); have hw2 : IntKind.i64.wrap (48 + (d' : Int)) = 48 + (d' : Int) := w64 _ (by omega) (by omega); have hw3 : IntKind.u8.wrap (48 + (d' : Int)) = 48 + (d' : Int) := by rw [IntKind.wrap_u8]; omega
      have HDN := Lib.hid (show DecTo n q (UInt8.ofNat (48 + d') :: l) by rw [← hd', ← hq]; exact decTo_next HDT.out hc); have hcv := digit_conv d' hdl' wr; obtain ⟨s1, hs1⟩ : ∃ s1 : ByteArray, (⟨[UInt8.ofNat (48 + d')].toArray⟩ : ByteArray) = s1 := ⟨_, rfl⟩; have HS1 := Lib.hid (show s1 ++ s = ⟨(UInt8.ofNat (48 + d') :: l).toArray⟩ by rw [← hs1, ← HSS.out]; exact app_one _ _); have h1z : s1.size = 1 := by rw [← hs1]; rfl
      have H1Z := Lib.hid h1z; obtain ⟨w2, e2⟩ : ∃ w2, wr.alloc (.cells #[.int .u8 (48 + (d' : Int))] 5) = w2 := ⟨_, rfl⟩; have HB2 := Lib.hid (show Below w1.heap.size w1 w2 by rw [← e2]; exact HM.out.alloc HM.out.size _); rw [hs1, e2] at hcv; clear hq hd' hs1 h1z; go_wp2
      case isTrue hh => (exfalso; have h1 := H1Z.out; first | omega | (simp only [ByteArray.size, maxLen] at *; omega))
      clear e2 hcv; go_roundw
      case rel => exact ⟨q, _, _, by omega, rfl, rfl, by rw [ByteArray.size_append, H1Z.out]; omega, Lib.hid HS1.out.symm, HDN, HB2⟩
      case measure => simp [intOf]; omega

theorem itoB_nat (k : Nat) : itoB (k : Int) = ⟨(Lib.decDigits k).toArray⟩ := by
  unfold itoB Lib.itoa; rw [if_neg (by omega), Int.toNat_natCast]
theorem itoB_neg {n : Int} (h : n < 0) : itoB n = ⟨#[45]⟩ ++ ⟨(Lib.decDigits n.natAbs).toArray⟩ := by
  unfold itoB Lib.itoa; rw [if_pos h]; exact (app_one 45 _).symm
set_option maxRecDepth 100000 in
theorem r_Decimal (n : Int) (hn : -9999 ≤ n ∧ n ≤ 9999) (w : World) :
    Calls Tryz.prog 86 #[.int .i64 n] w fun e w' => e = .returned (.string (itoB n)) ∧ Below w.heap.size w w' := by
  by_cases h0 : n < 0
  · obtain ⟨k, hk⟩ : ∃ k : Nat, n.natAbs = k := ⟨_, rfl⟩
    have hw : IntKind.i64.wrap (-n) = (k : Int) := by rw [show -n = (k : Int) by omega]; exact w64 _ (by omega) (by omega)
    have h0' : decide (n < 0) = true := decide_eq_true h0; have HK := Lib.hid (show k ≤ 9999 by omega); have HE := Lib.hid (show itoB n = ⟨#[45]⟩ ++ ⟨(Lib.decDigits k).toArray⟩ by rw [itoB_neg h0, hk]); have hsz : (Lib.decDigits k).length ≤ 4 := dec_len 3 k (by omega); have hd1 : ¬ 9223372036854775807 < 1 + (Lib.decDigits k).length := by omega
    clear hk hn
    go_enter Tryz.func86, Tryz.ntmps86
    (go_wp2_with fail); refine (r_decNat k (by have := HK.out; omega) _).mono ?_
    rintro e w' ⟨rfl, hb⟩; have HB := Lib.hid hb; clear hb; go_wp2; go_ret; exact ⟨by rw [HE.out]; rfl, HB.out⟩
  · obtain ⟨k, rfl⟩ : ∃ k : Nat, n = (k : Int) := ⟨n.toNat, by omega⟩
    refine (r_decNat k (by omega) w).mono fun e w' hq => ?_
    rw [itoB_nat]; exact hq

set_option maxRecDepth 100000 in
set_option maxHeartbeats 1000000 in
theorem r_row (word : ByteArray) (p : Option Addr) (cap : Nat) (xs : List Int) (w : World) (hx : RdI w p xs) (hl : xs.length ≤ 1000) (hs : InG xs) (hw : word.size ≤ 10) :
    Calls Tryz.prog 85 #[.string word, .slice p xs.length cap] w fun e w' => e = .returned (.string (rowT word xs xs.length)) ∧ Below w.heap.size w w' := by
  have HX := Lib.hid hx; have HS := Lib.hid hs; have HWD := Lib.hid hw; clear hx hs hw
  go_enter Tryz.func85, Tryz.ntmps85
  go_wp2
  go_loopw [0, 5] (fun s i wr => ∃ k : Nat, k ≤ xs.length ∧ i = .int .i64 k ∧ s = .string (rowT word xs k) ∧ Hid (Below w.heap.size w wr)) (fun _ i _ => xs.length - (intOf i).toNat)
  case atStart => exact ⟨0, Nat.zero_le _, rfl, rfl, Lib.hid (Below.refl _ _)⟩
  case round =>
    obtain ⟨k, hk, rfl, rfl, HB1⟩ := hrel
    by_cases hlt : k < xs.length
    · have hltI : decide ((k : Int) < (xs.length : Int)) = true := by simp; omega
      obtain ⟨b, off, rfl, hc⟩ := (HX.out.below HB1.out).at hlt; have e1 := hc k hlt; have hxr := HS.out k hlt; have HST := Lib.hid (rowT_step word xs k hlt); have hit := r_Decimal (gi xs k) hxr wr; have hd1 := ito_size hxr; obtain ⟨x, hxe⟩ : ∃ x, gi xs k = x := ⟨_, rfl⟩; rw [hxe] at e1 hit hd1 HST; obtain ⟨t, ht⟩ : ∃ t, itoB x = t := ⟨_, rfl⟩; rw [ht] at hit hd1 HST; clear hc hxe hxr ht; have hd2 := rowT_size word xs HS.out k (by omega); have hd0 := HWD.out; obtain ⟨R, hR⟩ : ∃ R, rowT word xs k = R := ⟨_, rfl⟩; rw [hR] at hd2 HST ⊢; have hd3 : ¬ 9223372036854775807 < R.size + 1 := by omega
      have hd4 : ¬ 9223372036854775807 < R.size + 1 + t.size := by omega
      clear hR hd0 hd1 hd2; go_wp2_with fail; refine hit.mono ?_; clear hit; rintro e w' ⟨rfl, hb⟩; have HB2 := Lib.hid (HB1.out.trans (hb.mono HB1.out.size)); clear hb; go_wp2; go_roundw
      case rel => exact ⟨k + 1, by omega, by go_num, by rw [HST.out, ← ByteArray.append_assoc], HB2⟩
      case measure => simp [intOf]; omega
    · obtain rfl : k = xs.length := by omega
      have hltI : decide ((xs.length : Int) < (xs.length : Int)) = false := by simp
      go_wp2; go_ret; exact ⟨rfl, HB1.out⟩
end Go.Proofs.YtlednchfifphgaaGreatDoor
end

section
namespace Go.Proofs.YtlednchfifphgaaGreatDoor
open Go Go.RowKit Go.Proofs Go.Shelf
set_option linter.unusedVariables false

def PrintPost (p : Pc) (w : World) (e : Ending) (w' : World) : Prop := e = (if pieceB p then .returned (.tuple #[.string (textP p), .int .i64 0]) else .returned (.tuple #[.string ⟨#[]⟩, .int .i64 2])) ∧ Below w.heap.size w w'
set_option maxRecDepth 100000 in
theorem c_Print (pm pv pr : Option Addr) (cm cv cr : Nat) (p : Pc) (w : World) (hp : RdP w pm pv pr p) (hl : LenOk p) (hI : ItoaG w) :
    Calls Tryz.prog 45 #[.agg #[.slice pm p.ms.length cm, .slice pv p.mv.length cv, .slice pr p.rs.length cr]] w (PrintPost p w) := by
  obtain ⟨w1, e1, HS1, k0, k1, k2, b1⟩ := box3 w (.slice pm p.ms.length cm) (.slice pv p.mv.length cv) (.slice pr p.rs.length cr) 26; have HP := Lib.hid (hp.below b1); have HI := Lib.hid hI; have HB := Lib.hid b1; have HL := Lib.hid hl; clear hp hI b1 hl
  go_enter Tryz.func45, Tryz.ntmps45
  (go_wp2_with fail); refine (c_isPiece pm pv pr cm cv cr p _ HP.out HL.out).mono ?_
  clear e1
  rcases hb : pieceB p with _ | _
  · have HBF := Lib.hid hb
    clear hb; rintro e wn ⟨rfl, bq⟩; replace HB := Lib.hid (HB.out.trans (bq.mono HB.out.size)); clear bq; go_wp2; go_ret2; exact ⟨by rw [HBF.out]; rfl, HB.out⟩
  have HPO := Lib.hid (textOk_of (pieceB_iff.1 hb)); have HBB := Lib.hid hb; clear hb; rintro e wn ⟨rfl, bq⟩; replace HB := Lib.hid (HB.out.trans (bq.mono HB.out.size)); replace HP := Lib.hid (HP.out.below bq); have k0 := (bq.cell (lt_of_cellq k0)).trans k0; have k1 := (bq.cell (lt_of_cellq k1)).trans k1; have k2 := (bq.cell (lt_of_cellq k2)).trans k2; clear bq; replace HI := Lib.hid (HI.out.below HB.out)
  (go_wp2_with fail); refine (c_text pm pv pr cm cv cr p _ HP.out HPO.out HI.out).mono ?_
  rintro e wn ⟨rfl, bq⟩
  skip; replace HB := Lib.hid (HB.out.trans (bq.mono HB.out.size)); clear bq
  go_wp2; go_ret2; exact ⟨by rw [HBB.out]; rfl, HB.out⟩
end Go.Proofs.YtlednchfifphgaaGreatDoor
end

section
namespace Go.Proofs.YtlednchfifphgaaGreatDoor
open Go Go.RowKit
set_option linter.unusedVariables false
end Go.Proofs.YtlednchfifphgaaGreatDoor
end

section
namespace Go.Proofs.YtlednchfifphgaaGreatDoor
open Go Go.RowKit
set_option linter.unusedVariables false
section
variable {P : Program} {ops : Array Oper} {Q : Exit → Act → World → Prop} {id : Nat} {a : Act} {w : World}
theorem cl3 {a0 a1 a2 : Addr} {v0 v1 v2 : Value} (h0 : w.cell? a0 = some v0) (h1 : w.cell? a1 = some v1) (h2 : w.cell? a2 = some v2) : ∀ w', Below w.heap.size w w' → w'.cell? a0 = some v0 ∧ w'.cell? a1 = some v1 ∧ w'.cell? a2 = some v2 := fun w' hb => ⟨(hb.cell (lt_of_cellq h0)).trans h0, (hb.cell (lt_of_cellq h1)).trans h1, (hb.cell (lt_of_cellq h2)).trans h2⟩
theorem held3 {a0 a1 a2 : Addr} {v0 v1 v2 : Value} (h0 : w.cell? a0 = some v0) (h1 : w.cell? a1 = some v1) (h2 : w.cell? a2 = some v2)
    (k : ∀ W0, Below w.heap.size w W0 → wpAnyH P .any ops Q (fun w' => w'.cell? a0 = some v0 ∧ w'.cell? a1 = some v1 ∧ w'.cell? a2 = some v2) ops.size (Array.replicate ops.size false) a W0)
    (hm : P.follows .mixedOrders = true := by kernel_rfl) : (Code.region id ops true).wp P Q a w :=
  wp_region_held_drew (S := fun w' => w'.cell? a0 = some v0 ∧ w'.cell? a1 = some v1 ∧ w'.cell? a2 = some v2) hm (cl3 h0 h1 h2 _ (Below.refl _ _).drew) (fun _ => k _ (Below.refl _ _).drew)
end
end Go.Proofs.YtlednchfifphgaaGreatDoor
end

section
namespace Go.Proofs.YtlednchfifphgaaGreatDoor
open Go Go.RowKit Go.Proofs Go.Shelf
set_option linter.unusedVariables false
set_option linter.unusedSimpArgs false

def outTo (ls : List ByteArray) : Nat → ByteArray
  | 0 => ⟨#[]⟩
  | k + 1 => outTo ls k ++ ls.getD k ByteArray.empty ++ ⟨#[10]⟩
theorem out_size (ls : List ByteArray) (hs : ∀ i, i < ls.length → (ls.getD i ByteArray.empty).size ≤ 2500) : ∀ k, k ≤ ls.length → (outTo ls k).size ≤ k * 2501 := by
  intro k
  induction k with
  | zero => intro _; exact Nat.zero_le _
  | succ k ih =>
    intro hk; have h1 := ih (by omega); have h2 := hs k (by omega); simp only [outTo, ByteArray.size_append]; have : (⟨#[10]⟩ : ByteArray).size = 1 := rfl; omega
theorem out_data (ls : List ByteArray) : ∀ k, k ≤ ls.length → (outTo ls k).data.toList = flat ((ls.take k).map (·.data.toList)) := by
  intro k
  induction k with
  | zero => intro _; simp [outTo, flat]
  | succ k ih =>
    intro hk; have hk' : k < ls.length := by omega
    rw [List.take_succ_eq_append_getElem hk', List.map_append, flat_app, ← ih (by omega)]; simp only [outTo, ba_append]; simp [flat, hk']
theorem out_end (ls : List ByteArray) (h : ls ≠ []) (s tt a e b c : Nat) (hs : sumRows ls ls.length = (s : Int)) (htt : s % 113 = tt) (ha : tt / 100 = a) (he : tt / 10 = e) (hb : e % 10 = b) (hc : tt % 10 = c) :
    (((((outTo ls ls.length) ++ ⟨#[101, 110, 100, 32]⟩) ++ ⟨(Lib.decDigits a).toArray⟩) ++ ⟨(Lib.decDigits b).toArray⟩) ++ ⟨(Lib.decDigits c).toArray⟩) ++ ⟨#[10]⟩ = txtF ls := by
  rw [← txt_end ls h _ rfl s tt a e b c hs htt ha he hb hc]
  have e1 : outTo ls ls.length = (⟨(Lib.join (ls.map (·.data.toList)) [10]).toArray⟩ : ByteArray) ++ ⟨#[10]⟩ := by
    apply ba_inj; rw [out_data ls _ (Nat.le_refl _), List.take_length, ba_append]
    cases ls with
    | nil => exact absurd rfl h
    | cons x r => rw [List.map_cons, ← join_flat]
  have e2 : (⟨#[10]⟩ : ByteArray) ++ ⟨#[101, 110, 100, 32]⟩ = ⟨#[10, 101, 110, 100, 32]⟩ := rfl; rw [e1, ByteArray.append_assoc (c := (⟨#[101, 110, 100, 32]⟩ : ByteArray)), e2]

set_option maxRecDepth 100000 in
set_option maxHeartbeats 4000000 in
theorem r_Print (pm pv pr : Option Addr) (cm cv cr : Nat) (p : Pc) (w : World) (hp : RdP w pm pv pr p) (ht : TextOk p) :
    Calls Tryz.prog 47 #[.agg #[.slice pm p.ms.length cm, .slice pv p.mv.length cv, .slice pr p.rs.length cr]] w (TextPost p w) := by
  obtain ⟨i0, hi0, hy0, hy1, hy2⟩ := info_parts infStr; obtain ⟨w0, e0, HS0, k0, k1, k2, b0⟩ := box3 w (.slice pm p.ms.length cm) (.slice pv p.mv.length cv) (.slice pr p.rs.length cr) 26; obtain ⟨w1, e1, HS1, _, _, b1⟩ := box1 w0 (.int .i64 p.ms.length) 3; have hn9 := ht.small.n
  have hh : Calls Tryz.prog 85 #[.string pieceW, .slice (some ⟨w0.heap.size, 0, none⟩) 1 1] w1 fun e w' => e = .returned (.string (rowT pieceW [(p.ms.length : Int)] 1)) ∧ Below w1.heap.size w1 w' :=
    r_row pieceW (some ⟨w0.heap.size, 0, none⟩) 1 [(p.ms.length : Int)] w1 (by rw [← e1]; exact rd_lit w0 [(p.ms.length : Int)] 3) (by simp) (fun i hi => by
      have : i = 0 := by simpa using hi
      subst this; show -9999 ≤ (p.ms.length : Int) ∧ (p.ms.length : Int) ≤ 9999; omega) (by decide)
  have HP := Lib.hid (hp.below (b0.trans (b1.mono b0.size))); have HT := Lib.hid ht; have HB1 := Lib.hid (b0.trans (b1.mono b0.size)); have hm450 := ht.ms; have hr450 := ht.rs; have hv400 := ht.mv; have HK := Lib.hid (show w1.cell? ⟨w.heap.size, 0, none⟩ = some (.slice pm p.ms.length cm) ∧ w1.cell? ⟨w.heap.size, 1, none⟩ = some (.slice pv p.mv.length cv) ∧ w1.cell? ⟨w.heap.size, 2, none⟩ = some (.slice pr p.rs.length cr) from ⟨(b1.cell (lt_of_cellq k0)).trans k0, (b1.cell (lt_of_cellq k1)).trans k1, (b1.cell (lt_of_cellq k2)).trans k2⟩); clear hp ht b0 b1 k1 k2 hn9
  go_enter Tryz.func47, Tryz.ntmps47
  go_wp2_with fail; refine hh.mono ?_; rintro e w2 ⟨rfl, hb2⟩; have HB2 := Lib.hid hb2; have k0 := (hb2.cell (lt_of_cellq HK.out.1)).trans HK.out.1; clear hh hb2 e0 e1; obtain ⟨H, hH⟩ : ∃ H, rowT pieceW [(p.ms.length : Int)] 1 = H := ⟨_, rfl⟩; have HHE := Lib.hid (show rowsA p 0 = [H] by rw [rowsA_zero, hH]); rw [hH]; clear hH; obtain ⟨w3, e3, HS3, _, _, b3⟩ := box1 w2 (.string H) 9; have HO0 := Lib.hid (show w3.ownsRow w2.heap.size 9 1 (.slice (some ⟨w2.heap.size, 0, none⟩) 1 1) 1 [.string H] by rw [← e3]; exact one_own w2 w2.heap.size (Nat.le_refl _) H); have HBE0 := Lib.hid b3; have k0 := (b3.cell (lt_of_cellq k0)).trans k0; clear b3; go_wp2; clear e3
  go_loopw [3, 4] (fun v i wr => ∃ k : Nat, k ≤ p.ms.length ∧ i = .int .i64 k ∧ Hid (wr.ownsRow w2.heap.size 9 1 v (k + 1) (stV (rowsA p k))) ∧ Hid (Below w2.heap.size w2 wr)) (fun _ i _ => p.ms.length - (intOf i).toNat)
  case atStart => exact ⟨0, Nat.zero_le _, rfl, Lib.hid (by rw [HHE.out]; exact HO0.out), HBE0⟩
  case round =>
    obtain ⟨k, hk, rfl, HO, HB⟩ := hrel; have HBW := Lib.hid (HB2.out.trans (HB.out.mono HB2.out.size)); have k0 := (HBW.out.cell (lt_of_cellq HK.out.1)).trans HK.out.1
    by_cases hlt : k < p.ms.length
    · obtain ⟨b, off, rfl, hc⟩ := ((HP.out.below HBW.out).ms).at hlt
      obtain ⟨d0, d1⟩ := hc k hlt; have hsm := HT.out.small.ms k hlt; have HST := Lib.hid (rowsA_succ p k hlt); obtain ⟨M, hM⟩ : ∃ M, gm p.ms k = M := ⟨_, rfl⟩; have HME := Lib.hid hM; rw [hM] at d0 d1 hsm HST; obtain ⟨lo, hi⟩ := M; clear hc hM; go_wp2; have HSB := Lib.hid (cl3 k0 d0 d1); refine held3 k0 d0 d1 (fun W0 HB0 => ?_); refine tk 0 rfl (by exact HSB.out _ HB0) ?_; (try simp only [Act.put, ptL]); refine tk 1 rfl (by exact HSB.out _ HB0) ?_; (try simp only [Act.put, ptL]); refine tk 2 rfl (by exact HSB.out _ HB0) ?_; (try simp only [Act.put, ptL]); refine tk 3 rfl (by exact HSB.out _ HB0) ?_; (try simp only [Act.put, ptL]); refine tk 4 rfl (by exact HSB.out _ HB0) ?_; (try simp only [Act.put, ptL]); refine tk 5 rfl (by exact HSB.out _ HB0) ?_; (try simp only [Act.put, ptL]); refine tk 6 rfl (by exact HSB.out _ HB0) ?_; (try simp only [Act.put, ptL]); refine tk 7 rfl (by exact HSB.out _ HB0) ?_; (try simp only [Act.put, ptL]); refine tk 8 rfl (by exact HSB.out _ HB0) ?_; (try simp only [Act.put, ptL]); refine tk 9 rfl (by exact HSB.out _ HB0) ?_; (try simp only [Act.put, ptL]); refine tk 10 rfl (by exact HSB.out _ HB0) ?_; (try simp only [Act.put, ptL]); refine tk 11 rfl (by exact HSB.out _ HB0) ?_; (try simp only [Act.put, ptL]); refine tk 12 rfl (by exact HSB.out _ HB0) ?_; (try simp only [Act.put, ptL]); refine tk 13 rfl (by exact HSB.out _ HB0) ?_; (try simp only [Act.put, ptL]); refine tk 14 rfl (by exact HSB.out _ HB0) ?_; (try simp only [Act.put, ptL])
      refine rz1 15 rfl ?_; intro K hK; go_simp; obtain ⟨W1, e1⟩ : ∃ W1, W0.alloc (.cells #[.int .i64 lo, .int .i64 hi] 3) = W1 := ⟨_, rfl⟩; rw [e1]; have HB1 : Below wr.heap.size wr W1 := by rw [← e1]; exact HB0.alloc HB0.size _
      have hcl : Calls Tryz.prog 85 #[.string meshW, .slice (some ⟨W0.heap.size, 0, none⟩) 2 2] W1 fun e w' => e = .returned (.string (meR (lo, hi))) ∧ Below W1.heap.size W1 w' :=
        r_row meshW (some ⟨W0.heap.size, 0, none⟩) 2 [lo, hi] W1 (by rw [← e1]; exact rd_lit W0 [lo, hi] 3) (by simp) hsm (by decide)
      refine kz hK (by exact HSB.out _ HB1) ?_; clear hK K; (try simp only [Act.put, ptL]); refine rz1 16 rfl ?_; intro K hK; go_simp; refine hcl.mono ?_; clear hcl; rintro e W2 ⟨rfl, b2⟩; have HB2w := HB1.trans (b2.mono HB1.size); refine kz hK (by exact HSB.out _ HB2w) ?_; clear hK K; (try simp only [Act.put, ptL]); refine rz1 17 rfl ?_; intro K hK; go_simp; refine kz hK (by exact HSB.out _ (HB2w.alloc HB2w.size _)) ?_; clear hK K; (try simp only [Act.put, ptL]); have hO1 := (own_kept HO.out HB2w).alloc (.cells #[.string (meR (lo, hi))] 9); have hB1 := (HB.out.trans (HB2w.mono HB.out.size)).alloc (HB.out.trans (HB2w.mono HB.out.size)).size (.cells #[.string (meR (lo, hi))] 9); refine rz1 18 rfl ?_; intro K hK; refine step_append_lies _ rfl _ _ 122 rfl w2.heap.size 9 i0 _ 1 16 Tryz.underlying122 hi0 hy0 hy1 hy2 rfl (by decide) _ _ _ rfl hO1 ⟨W2.heap.size, 0, none⟩ 1 1 [.string (meR (lo, hi))] rfl rfl (news_of W2 _ _) (by intro u hu; simp at hu; subst hu; rfl) (by decide) (by unfold maxLen; omega) (by omega) (by have := hB1.size; omega) _ rfl ?_
      intro g' cap' w7 hown' hgrow _ _; have HO7 := Lib.hid hown'; have HB7 := Lib.hid (hB1.grown hgrow (by have := hB1.size; omega) (fun j hj => (hO1.lt j hj).1)); have HBY := Lib.hid (HB2.out.trans (HB7.out.mono HB2.out.size)); have f0 := (HBY.out.cell (lt_of_cellq HK.out.1)).trans HK.out.1; obtain ⟨b', off', hbe, hc'⟩ := ((HP.out.below HBY.out).ms).at hlt
      cases hbe
      obtain ⟨f1, f2⟩ := hc' k hlt; rw [HME.out] at f1 f2; refine kz hK (by exact ⟨f0, f1, f2⟩) ?_; clear hK K; (try simp only [Act.put, ptL]); refine tk 19 rfl (by exact ⟨f0, f1, f2⟩) ?_; (try simp only [Act.put, ptL]); refine wpAnyH_done (by kernel_rfl) ?_ _; clear hown' hgrow hc' hO1 hB1 HB0 HB1 HB2w HSB b2 e1 f0 f1 f2; go_wp2; go_roundw
      case rel => exact ⟨k + 1, by omega, by go_num, Lib.hid (by rw [HST.out, stV_append]; exact HO7.out), HB7⟩
      case measure => simp [intOf]; omega
    · obtain rfl : k = p.ms.length := by omega
      have k1 := (HBW.out.cell (lt_of_cellq HK.out.2.1)).trans HK.out.2.1; have hcl := r_row movesW pv cv p.mv wr ((HP.out.below HBW.out).mv) (by omega) HT.out.small.mv (by decide); obtain ⟨V, hV⟩ : ∃ V, rowT movesW p.mv p.mv.length = V := ⟨_, rfl⟩; have HVE := Lib.hid (show rowsB p 0 = rowsA p p.ms.length ++ [V] by rw [rowsB_zero, hV]); rw [hV] at hcl; clear hV; go_wp2_with fail; refine hcl.mono ?_; clear hcl; rintro e w3 ⟨rfl, b3⟩; have HO3 := Lib.hid (own_kept HO.out b3); have HB3 := Lib.hid (HB.out.trans (b3.mono HB.out.size)); clear b3; go_wp2_with (at_builtin; refine wpList_append_own _ rfl _ _ 122 rfl w2.heap.size 9 i0 _ 1 16 Tryz.underlying122 hi0 hy0 hy1 hy2 rfl (by decide) _ _ _ rfl (HO3.out.alloc _) ⟨w3.heap.size, 0, none⟩ 1 1 [.string V] rfl rfl ?c1 ?c2 ?c3 ?c4 ?c5 ?_)
      case c1 => exact news_of _ _ _
      case c2 => intro u hu; simp at hu; subst hu; rfl
      case c3 => unfold maxLen; omega
      case c4 => omega
      case c5 => have := HB3.out.size; simp; omega
      intro v' w7 hown' hgrow _; have HO7 := Lib.hid hown'; have HB7 := Lib.hid ((HB3.out.alloc HB3.out.size _).grown hgrow (by have := HB3.out.size; simp; omega) (fun j hj => (HO3.out.lt j hj).1)); clear hown' hgrow; have HBX := Lib.hid (HB2.out.trans (HB7.out.mono HB2.out.size)); have k2 := (HBX.out.cell (lt_of_cellq HK.out.2.2)).trans HK.out.2.2; go_wp2
      go_loopw [3, 5] (fun v i wr => ∃ k : Nat, k ≤ p.rs.length ∧ i = .int .i64 k ∧ Hid (wr.ownsRow w2.heap.size 9 1 v (p.ms.length + 2 + k) (stV (rowsB p k))) ∧ Hid (Below w2.heap.size w2 wr)) (fun _ i _ => p.rs.length - (intOf i).toNat)
      case atStart => exact ⟨0, Nat.zero_le _, rfl, Lib.hid (by rw [HVE.out, stV_append]; exact HO7.out), HB7⟩
      case round =>
        obtain ⟨k, hk, rfl, HO, HB⟩ := hrel; have HBW := Lib.hid (HB2.out.trans (HB.out.mono HB2.out.size)); have k2 := (HBW.out.cell (lt_of_cellq HK.out.2.2)).trans HK.out.2.2
        by_cases hlt : k < p.rs.length
        · obtain ⟨b, off, rfl, hc⟩ := ((HP.out.below HBW.out).rs).at hlt
          obtain ⟨d0, d1, d2, d3⟩ := hc k hlt; have hsm := HT.out.small.rs k hlt; have HST := Lib.hid (rowsB_succ p k hlt); obtain ⟨M, hM⟩ : ∃ M, gr p.rs k = M := ⟨_, rfl⟩; rw [hM] at d0 d1 d2 d3 hsm HST; obtain ⟨a, c, s, o⟩ := M; obtain ⟨w4, e4, HS4, y0, y1, y2, y3, b4⟩ := box4 wr (.int .i64 a) (.int .i64 c) (.int .i64 s) (.int .i64 o) 68; obtain ⟨w5, e5, HS5, z0, z1, z2, z3, b5⟩ := box4 w4 (.int .i64 a) (.int .i64 c) (.int .i64 s) (.int .i64 o) 3; have b45 := b4.trans (b5.mono b4.size)
          have hcl : Calls Tryz.prog 85 #[.string readW, .slice (some ⟨w4.heap.size, 0, none⟩) 4 4] w5 fun e w' => e = .returned (.string (rdR ⟨a, c, s, o⟩)) ∧ Below w5.heap.size w5 w' :=
            r_row readW (some ⟨w4.heap.size, 0, none⟩) 4 [a, c, s, o] w5 (by rw [← e5]; exact rd_lit w4 [a, c, s, o] 3) (by simp) hsm (by decide)
          have HO5 := Lib.hid (own_kept HO.out b45); have HB5 := Lib.hid (HB.out.trans (b45.mono HB.out.size)); clear hc hM hsm b4 b5 b45 z0 z1 z2 z3; go_wp2_with fail; refine hcl.mono ?_; clear hcl; rintro e w6 ⟨rfl, b6⟩; have HO6 := Lib.hid (own_kept HO5.out b6); have HB6 := Lib.hid (HB5.out.trans (b6.mono HB5.out.size)); clear b6 e4 e5; go_wp2_with (at_builtin; refine wpList_append_own _ rfl _ _ 122 rfl w2.heap.size 9 i0 _ 1 16 Tryz.underlying122 hi0 hy0 hy1 hy2 rfl (by decide) _ _ _ rfl (HO6.out.alloc _) ⟨w6.heap.size, 0, none⟩ 1 1 [.string (rdR ⟨a, c, s, o⟩)] rfl rfl ?c1 ?c2 ?c3 ?c4 ?c5 ?_)
          case c1 => exact news_of _ _ _
          case c2 => intro u hu; simp at hu; subst hu; rfl
          case c3 => unfold maxLen; omega
          case c4 => omega
          case c5 => have := HB6.out.size; simp; omega
          intro v' w7 hown' hgrow _; have HO7 := Lib.hid hown'; have HB7 := Lib.hid ((HB6.out.alloc HB6.out.size _).grown hgrow (by have := HB6.out.size; simp; omega) (fun j hj => (HO6.out.lt j hj).1)); clear hown' hgrow; go_wp2; go_roundw
          case rel => exact ⟨k + 1, by omega, by go_num, Lib.hid (by rw [HST.out, stV_append]; exact HO7.out), HB7⟩
          case measure => simp [intOf]; omega
        · obtain rfl : k = p.rs.length := by omega
          obtain ⟨n, hn⟩ : ∃ n, p.ms.length + 2 + p.rs.length = n := ⟨_, rfl⟩; have HON := Lib.hid (show wr.ownsRow w2.heap.size 9 1 u3 n (stV (rowsP p)) by rw [← rowsB_all, ← hn]; exact HO.out); have HLL := Lib.hid (show (rowsP p).length = n by rw [rowsP_len]; omega); have hn9 : n ≤ 902 := by omega
          have hn2 : 2 ≤ n := by omega
          obtain ⟨g, cap5, hv⟩ : ∃ g cap, u3 = .slice (some ⟨g, 0, none⟩) n cap := by
            have h := HON.out; obtain ⟨n', rfl⟩ : ∃ n', n = n' + 1 := ⟨n - 1, by omega⟩; exact own_form h
          subst hv; rw [show p.ms.length + 2 + p.rs.length = n from hn] at *
          have HCE := Lib.hid (show ∀ i, i < n → wr.cell? ⟨g, i, none⟩ = some (.string ((rowsP p).getD i ByteArray.empty)) from fun i hi' => by
            have h := HON.out.cells (g := g) rfl i _ (stV_get _ i (by rw [HLL.out]; exact hi'))
            rwa [add_new] at h)
          have HSZ := Lib.hid (show ∀ i, i < n → ((rowsP p).getD i ByteArray.empty).size ≤ 2500 from fun i hi' => rows_size HT.out i (by rw [HLL.out]; exact hi')); obtain ⟨ls, hls⟩ : ∃ ls, rowsP p = ls := ⟨_, rfl⟩; have HJL := Lib.hid (join_len HT.out); rw [hls] at HCE HSZ HLL HON HJL; have HLS := Lib.hid hls; clear hn hls HO; have HOS := Lib.hid (show ∀ k, k ≤ n → (outTo ls k).size ≤ k * 2501 from fun k hk => out_size ls (fun i hi => HSZ.out i (by rw [HLL.out] at hi; exact hi)) k (by rw [HLL.out]; exact hk)); go_wp2
          go_loopw [7, 8, 9] (fun t s i w4 => ∃ k : Nat, k ≤ n ∧ i = .int .i64 k ∧ s = .int .i64 (sumRows ls k) ∧ t = .string (outTo ls k) ∧ w4 = wr) (fun _ _ i _ => n - (intOf i).toNat)
          case atStart => exact ⟨0, Nat.zero_le _, rfl, rfl, rfl, rfl⟩
          case round =>
            rename_i w3
            obtain ⟨k, hk, rfl, rfl, rfl, rfl⟩ := hrel
            by_cases hlt : k < n
            · have hltI : decide ((k : Int) < (n : Int)) = true := by simp; omega
              have e1 := HCE.out k hlt; have hsk := HSZ.out k hlt; obtain ⟨l, hl⟩ : ∃ l, ls.getD k ByteArray.empty = l := ⟨_, rfl⟩; rw [hl] at e1 hsk; have HST := Lib.hid (show sumRows ls (k + 1) = sumRows ls k + rowSum k l l.size by simp only [sumRows]; rw [hl]); have hsr := sumRows_range ls (fun i hi' => HSZ.out i (by rw [HLL.out] at hi'; exact hi')) (by rw [HLL.out]; omega) k (by rw [HLL.out]; omega); have HSR := Lib.hid (show 0 ≤ sumRows ls k ∧ sumRows ls k ≤ 2000000000000000 by omega); obtain ⟨S, hS⟩ : ∃ S, sumRows ls k = S := ⟨_, rfl⟩; rw [hS] at HST HSR ⊢; have hos := HOS.out k (by omega); have HOT := Lib.hid (show outTo ls (k + 1) = outTo ls k ++ l ++ ⟨#[10]⟩ by simp only [outTo]; rw [hl]); obtain ⟨T, hT⟩ : ∃ T, outTo ls k = T := ⟨_, rfl⟩; rw [hT] at hos HOT; rw [hT]; have hz1 : ¬ 9223372036854775807 < T.size + l.size := by omega
              have hz2 : ¬ 9223372036854775807 < T.size + l.size + 1 := by omega
              clear hos hT; clear hl hsr hS; go_wp2
              go_loopw [8, 10] (fun s i w5 => ∃ j : Nat, j ≤ l.size ∧ i = .int .i64 j ∧ s = .int .i64 (S + rowSum k l j) ∧ w5 = wr) (fun _ i _ => l.size - (intOf i).toNat)
              case atStart => exact ⟨0, Nat.zero_le _, rfl, by simp [rowSum], rfl⟩
              case round =>
                obtain ⟨j, hj, rfl, rfl, rfl⟩ := hrel
                by_cases hjl : j < l.size
                · have hjlI : decide ((j : Int) < (l.size : Int)) = true := by simp; omega
                  have hix := ix_byte l j hjl; have hby := byteAt_range l j; have hrs := rowSum_range k (by omega) l j (by omega); have hSR := HSR.out; have HRS := Lib.hid (show rowSum k l (j + 1) = rowSum k l j + byteAt l j * ((j : Int) + 1) * ((k : Int) + 1) from rfl); obtain ⟨B, hB⟩ : ∃ B, byteAt l j = B := ⟨_, rfl⟩; obtain ⟨R, hR⟩ : ∃ R, rowSum k l j = R := ⟨_, rfl⟩; rw [hB] at hix hby HRS; rw [hR] at hrs HRS; have hm1 : 0 ≤ B * ((j : Int) + 1) ∧ B * ((j : Int) + 1) ≤ 255 * 2501 := ⟨Int.mul_nonneg hby.1 (by omega), Int.mul_le_mul hby.2 (by omega) (by omega) (by omega)⟩; have hm2 : 0 ≤ B * ((j : Int) + 1) * ((k : Int) + 1) ∧ B * ((j : Int) + 1) * ((k : Int) + 1) ≤ (255 * 2501) * 1001 := ⟨Int.mul_nonneg hm1.1 (by omega), Int.mul_le_mul hm1.2 (by omega) (by omega) (by omega)⟩; have hw0 : IntKind.i64.wrap B = B := w64 _ (by omega) (by omega); have hw1 : IntKind.i64.wrap (B * ((j : Int) + 1)) = B * ((j : Int) + 1) := w64 _ (by omega) (by omega)
                  have hw2 : IntKind.i64.wrap (B * ((j : Int) + 1) * ((k : Int) + 1)) = B * ((j : Int) + 1) * ((k : Int) + 1) := w64 _ (by omega) (by omega); have hw3 : IntKind.i64.wrap (S + R + B * ((j : Int) + 1) * ((k : Int) + 1)) = S + R + B * ((j : Int) + 1) * ((k : Int) + 1) := w64 _ (by omega) (by omega); rw [hR]; go_wp2; go_roundw
                  case rel => exact ⟨j + 1, by omega, by go_num, by rw [HRS.out, Int.add_assoc], trivial⟩
                  case measure => simp [intOf]; omega
                · obtain rfl : j = l.size := by omega
                  have hjlI : decide ((l.size : Int) < (l.size : Int)) = false := by simp
                  go_wp2; go_roundw
                  case rel => exact ⟨k + 1, by omega, by go_num, by rw [HST.out], by rw [HOT.out], trivial⟩
                  case measure => simp [intOf]; omega
            · obtain rfl : k = n := by omega
              have hltI : decide ((k : Int) < (k : Int)) = false := by simp
              have hsr := sumRows_range ls (fun i hi' => HSZ.out i (by rw [HLL.out] at hi'; exact hi')) (by rw [HLL.out]; omega) k (by rw [HLL.out]; omega); obtain ⟨S, hS⟩ : ∃ S, sumRows ls k = S := ⟨_, rfl⟩; rw [hS] at hsr ⊢; obtain ⟨s, hs⟩ : ∃ s : Nat, S = s := ⟨S.toNat, by omega⟩; subst hs; have HS := Lib.hid (show sumRows ls ls.length = (s : Int) by rw [HLL.out]; exact hS); obtain ⟨tt, htt⟩ : ∃ tt : Nat, s % 113 = tt := ⟨_, rfl⟩; obtain ⟨a, ha⟩ : ∃ a : Nat, tt / 100 = a := ⟨_, rfl⟩; obtain ⟨e, he⟩ : ∃ e : Nat, tt / 10 = e := ⟨_, rfl⟩; obtain ⟨b, hb⟩ : ∃ b : Nat, e % 10 = b := ⟨_, rfl⟩; obtain ⟨c, hc⟩ : ∃ c : Nat, tt % 10 = c := ⟨_, rfl⟩; have ba : a < 100 := by omega
              have bb : b < 100 := by omega
              have bc : c < 100 := by omega
              have hd1 := dec_le a ba; have hd2 := dec_le b bb; have hd3 := dec_le c bc; have hq0 : Int.tmod (s : Int) 113 = (tt : Int) := tmodN s 113 tt htt; have hr0 : (s : Int) % 113 = (tt : Int) := by omega
              have hr1 : (tt : Int) / 100 = (a : Int) := by omega
              have hr2 : (tt : Int) / 10 = (e : Int) := by omega
              have hr3 : (e : Int) % 10 = (b : Int) := by omega
              have hr4 : (tt : Int) % 10 = (c : Int) := by omega
              have HEND := Lib.hid (out_end ls (by intro hc; have := HLL.out; rw [hc] at this; simp at this; omega) s tt a e b c HS.out htt ha he hb hc); have HTX := Lib.hid (show textP p = txtF ls by unfold textP; rw [HLS.out]); have hos := HOS.out k (Nat.le_refl _); rw [HLL.out] at HEND; obtain ⟨T, hT⟩ : ∃ T, outTo ls k = T := ⟨_, rfl⟩; rw [hT] at HEND hos; rw [hT]; have h1 := r_decNat a (by omega); have h2 := r_decNat b (by omega); have h3 := r_decNat c (by omega); obtain ⟨A, hA⟩ : ∃ A : ByteArray, (⟨(Lib.decDigits a).toArray⟩ : ByteArray) = A := ⟨_, rfl⟩; obtain ⟨B, hB⟩ : ∃ B : ByteArray, (⟨(Lib.decDigits b).toArray⟩ : ByteArray) = B := ⟨_, rfl⟩; obtain ⟨C, hC⟩ : ∃ C : ByteArray, (⟨(Lib.decDigits c).toArray⟩ : ByteArray) = C := ⟨_, rfl⟩; have zA : A.size ≤ 2 := by rw [← hA]; exact hd1
              have zB : B.size ≤ 2 := by rw [← hB]; exact hd2
              have zC : C.size ≤ 2 := by rw [← hC]; exact hd3
              rw [hA] at h1; rw [hB] at h2; rw [hC] at h3; rw [hA, hB, hC] at HEND; have hl1 : ¬ 9223372036854775807 < T.size + 4 := by omega
              have hl2 : ¬ 9223372036854775807 < T.size + 4 + A.size := by omega
              have hl3 : ¬ 9223372036854775807 < T.size + 4 + A.size + B.size := by omega
              have hl4 : ¬ 9223372036854775807 < T.size + 4 + A.size + B.size + C.size := by omega
              have hl5 : ¬ 9223372036854775807 < T.size + 4 + A.size + B.size + C.size + 1 := by omega
              have HBF := Lib.hid (HB1.out.trans ((HB2.out.trans (HB.out.mono HB2.out.size)).mono HB1.out.size)); have H1 := Lib.hid h1; have H2 := Lib.hid h2; have H3 := Lib.hid h3; clear htt ha he hb hc hA hB hC hd1 hd2 hd3 zA zB zC hS hsr hT hos h1 h2 h3; go_wp2_with fail; refine (H1.out _).mono ?_; rintro e1 w5 ⟨rfl, hb5⟩; have HB5 := Lib.hid (HBF.out.trans (hb5.mono HBF.out.size)); clear hb5; go_wp2_with fail; refine (H2.out _).mono ?_; rintro e1 w6 ⟨rfl, hb6⟩; have HB6 := Lib.hid (HB5.out.trans (hb6.mono HB5.out.size)); clear hb6; go_wp2_with fail; refine (H3.out _).mono ?_; rintro e1 w7 ⟨rfl, hb7⟩; have HB7 := Lib.hid (HB6.out.trans (hb7.mono HB6.out.size)); clear hb7; go_wp2; go_ret; refine ⟨?_, HB7.out⟩; rw [HTX.out, ← HEND.out]; rfl
end Go.Proofs.YtlednchfifphgaaGreatDoor
end

section
namespace Go.Proofs.YtlednchfifphgaaGreatDoor
open Go Go.RowKit Go.Proofs
set_option linter.unusedVariables false
set_option linter.unusedSimpArgs false

set_option maxHeartbeats 3200000 in
set_option maxRecDepth 100000 in
theorem law_Prints (pm pv pr : Option Addr) (cm cv cr : Nat) (p : Pc) (m : Int) (w : World) (hp : RdP w pm pv pr p) (hm : MaxL m w) (hi : ItoaG w) :
    Calls Tryz.prog 13 #[.agg #[.slice pm p.ms.length cm, .slice pv p.mv.length cv, .slice pr p.rs.length cr]] w (LawPost w) := by
  obtain ⟨w1, e1, HS1, k0, k1, k2, b1⟩ := box3 w (.slice pm p.ms.length cm) (.slice pv p.mv.length cv) (.slice pr p.rs.length cr) 26; have HP := Lib.hid (hp.below b1); have HM := Lib.hid hm; have HI := Lib.hid hi; have HB := Lib.hid b1; clear hp hm hi b1
  go_enter Tryz.func13, Tryz.ntmps13
  (go_wp2_with fail); refine (c_short pm pv pr cm cv cr p _).mono ?_
  clear e1
  rcases hs : shortB p with _ | _
  · rintro e wn ⟨rfl, bq⟩; replace HB := Lib.hid (HB.out.trans (bq.mono HB.out.size)); clear bq
    (go_wp2_with fail); refine (c_known m _ (HM.out.below HB.out) (HI.out.below HB.out)).mono ?_; rintro e wn ⟨rfl, bq⟩; have HFK := Lib.hid (HB.out.trans (bq.mono HB.out.size)); clear bq; go_wp2; go_ret; exact ⟨rfl, HFK.out⟩
  rintro e wn ⟨rfl, bq⟩; replace HB := Lib.hid (HB.out.trans (bq.mono HB.out.size)); replace HP := Lib.hid (HP.out.below bq); have k0 := (bq.cell (lt_of_cellq k0)).trans k0; have k1 := (bq.cell (lt_of_cellq k1)).trans k1; have k2 := (bq.cell (lt_of_cellq k2)).trans k2; clear bq; have HLN := Lib.hid (short_len hs); clear hs
  (go_wp2_with fail); refine (c_Print pm pv pr cm cv cr p _ HP.out HLN.out (HI.out.below HB.out)).mono ?_
  unfold PrintPost
  rcases h1 : pieceB p with _ | _
  · have H1 := Lib.hid h1
    simp only [Bool.false_eq_true, if_false]; clear h1; rintro e wn ⟨rfl, bq⟩; replace HB := Lib.hid (HB.out.trans (bq.mono HB.out.size)); replace HP := Lib.hid (HP.out.below bq); have k0 := (bq.cell (lt_of_cellq k0)).trans k0; have k1 := (bq.cell (lt_of_cellq k1)).trans k1; have k2 := (bq.cell (lt_of_cellq k2)).trans k2; clear bq
    (go_wp2_with fail); refine (r_Piece pm pv pr cm cv cr p _ HP.out HLN.out).mono ?_
    rw [H1.out]; rintro e wn ⟨rfl, bq⟩; replace HB := Lib.hid (HB.out.trans (bq.mono HB.out.size)); clear bq
    (go_wp2_with fail); refine (c_known m _ (HM.out.below HB.out) (HI.out.below HB.out)).mono ?_; rintro e wn ⟨rfl, bq⟩; have HFK := Lib.hid (HB.out.trans (bq.mono HB.out.size)); clear bq; go_wp2; go_ret; exact ⟨rfl, HFK.out⟩
  have HPO := Lib.hid (pieceB_iff.1 h1); have HP1 := Lib.hid h1; simp only [if_true]; clear h1; obtain ⟨T, hT⟩ : ∃ T, textP p = T := ⟨_, rfl⟩; have HT := Lib.hid hT; have HTS := Lib.hid (show T.size ≤ 1000000 by rw [← hT]; have := text_size HPO.out; omega); rw [hT]; clear hT; rintro e wn ⟨rfl, bq⟩; replace HB := Lib.hid (HB.out.trans (bq.mono HB.out.size)); replace HP := Lib.hid (HP.out.below bq); have k0 := (bq.cell (lt_of_cellq k0)).trans k0; have k1 := (bq.cell (lt_of_cellq k1)).trans k1; have k2 := (bq.cell (lt_of_cellq k2)).trans k2; clear bq
  (go_wp2_with fail); refine (r_Piece pm pv pr cm cv cr p _ HP.out HLN.out).mono ?_
  rw [HP1.out]; rintro e wn ⟨rfl, bq⟩; replace HB := Lib.hid (HB.out.trans (bq.mono HB.out.size)); replace HP := Lib.hid (HP.out.below bq); have k0 := (bq.cell (lt_of_cellq k0)).trans k0; have k1 := (bq.cell (lt_of_cellq k1)).trans k1; have k2 := (bq.cell (lt_of_cellq k2)).trans k2; clear bq
  (go_wp2_with fail); refine (c_Read T m _ HTS.out (HM.out.below HB.out) (HI.out.below HB.out)).mono ?_
  rintro e wn ⟨⟨q, qm, dm, qv, dv, qr, dr, er, rfl, hq, hrr⟩, bq⟩; obtain ⟨rfl, rfl⟩ := read_book HP1.out (by rw [HT.out]; exact hrr); have HQ := Lib.hid hq; clear hrr hq
  skip; replace HB := Lib.hid (HB.out.trans (bq.mono HB.out.size)); replace HP := Lib.hid (HP.out.below bq); have k0 := (bq.cell (lt_of_cellq k0)).trans k0; have k1 := (bq.cell (lt_of_cellq k1)).trans k1; have k2 := (bq.cell (lt_of_cellq k2)).trans k2; clear bq
  obtain ⟨wx, e2, HS2, q0, q1, q2, b2⟩ := box3 wn (.slice qm q.ms.length dm) (.slice qv q.mv.length dv) (.slice qr q.rs.length dr) 26; have HB2 := Lib.hid (HB.out.trans (b2.mono HB.out.size)); have HP2 := Lib.hid (HP.out.below b2); have HQ2 := Lib.hid (HQ.out.below b2); have k0 := (b2.cell (lt_of_cellq k0)).trans k0; have k1 := (b2.cell (lt_of_cellq k1)).trans k1; have k2 := (b2.cell (lt_of_cellq k2)).trans k2; have hbb : (T.toList == T.toList) = true := beq_self_eq_true _; clear b2 HB HP HQ; have HB := HB2; have HP := HP2; have HQ := HQ2; clear HB2 HP2 HQ2
  (go_wp2_with fail); refine (r_Print pm pv pr cm cv cr q _ HP.out (textOk_of HPO.out)).mono ?_
  clear e2; unfold TextPost; rw [HT.out]; rintro e wn ⟨rfl, bq⟩; replace HB := Lib.hid (HB.out.trans (bq.mono HB.out.size)); replace HP := Lib.hid (HP.out.below bq); replace HQ := Lib.hid (HQ.out.below bq); have k0 := (bq.cell (lt_of_cellq k0)).trans k0; have k1 := (bq.cell (lt_of_cellq k1)).trans k1; have k2 := (bq.cell (lt_of_cellq k2)).trans k2; have q0 := (bq.cell (lt_of_cellq q0)).trans q0; have q1 := (bq.cell (lt_of_cellq q1)).trans q1; have q2 := (bq.cell (lt_of_cellq q2)).trans q2; clear bq
  (go_wp2_with fail); refine (c_samePieces qm qv qr dm dv dr q pm pv pr cm cv cr q _ HQ.out HP.out HLN.out).mono ?_
  rintro e wn ⟨⟨b, rfl, hb⟩, bq⟩; obtain rfl : b = true := hb.2 rfl; clear hb
  skip; replace HB := Lib.hid (HB.out.trans (bq.mono HB.out.size)); clear bq
  (go_wp2_with fail); refine (c_known m _ (HM.out.below HB.out) (HI.out.below HB.out)).mono ?_; rintro e wn ⟨rfl, bq⟩; have HFK := Lib.hid (HB.out.trans (bq.mono HB.out.size)); clear bq; go_wp2; go_ret; exact ⟨rfl, HFK.out⟩
end Go.Proofs.YtlednchfifphgaaGreatDoor
end

section
namespace Go.Proofs.YtlednchfifphgaaGreatDoor
open Go Go.ChangeShapes Go.WideShapes Go.ChangeAt Go.RowKit Go.Proofs
set_option linter.unusedVariables false

set_option maxRecDepth 100000 in
theorem slackPrints_lifted (os : Os) (started : os.Started) (H : Type) (enc : TypeId × Value → H) :
    ReturnsInHanded {} Tryz.checked os 13 .any (fun w args => (Rows.slackPrintsSpec.pre enc Tryz.prog Tryz.f13 [] false w args ∧ laidMetH Tryz.prog lay5 w) ∧ sizedMet enc Tryz.prog Tryz.f13 (OpenSpec.ofChange Rows.slackPrintsSpec) false w args)
      (Rows.slackPrintsSpec.post enc Tryz.prog Tryz.f13 false true false false) := by
  refine returns_listed (C := Tryz.checked) (X := fun w _ => laidMetH Tryz.prog lay5 w) (fun _ _ _ hh h => h.of_heap hh) ownT started (by kernel_rfl) Tryz.func13
    (ChangeSpec.witness_shaped (enc := enc) (C := Tryz.checked) (os := os) (X := fun w _ => laidMetH Tryz.prog lay5 w) false (World.laidAll Tryz.prog os lay5) #[.agg #[.slice none 0 0, .slice none 0 0, .slice none 0 0]] 12 (World.laidAll_os _ _ _)
      (World.shaped_of_ZipB (by kernel_rfl) (by kernel_rfl)) (by kernel_rfl) (by kernel_rfl) (by kernel_rfl)
      (by rw [MakeChecks.laidMetH_plain _ _ _ (by kernel_rfl)]; exact laidMet_laidAll _ (by kernel_rfl) (by kernel_rfl))) ?_
  intro W base args ds gs before hval0 hW hX hSh; have hval : ∀ (j : Nat) t v, Tryz.f13.params[j]? = some t → args[j]? = some v → Value.okWide Tryz.prog W .any base t v := hval0; have hW' := hW; obtain ⟨p, q, hA0, hV, rfl, _, _⟩ := hW; have hA : DataW.TrodAll enc Tryz.prog W 0 (fun _ => true) true Tryz.f13.params.toList args.toList ds p := hA0; rw [Tryz.params13] at hA hval; obtain ⟨v0, vs0, d0, ds0, p0, q0, hargs, rfl, rfl, h0, r0⟩ := trodAll_cons hA; obtain ⟨rfl, rfl, rfl⟩ := trodAll_nil r0; obtain rfl : args = #[v0] := by cases args; simp_all
  obtain ⟨rfl, rfl⟩ := trodVars_none hV; obtain ⟨pm0, pv0, pr0, cm0, cv0, cr0, p0, rfl, rd0⟩ := op_piece (hval 0 26 v0 rfl rfl) h0; clear hA0 hval0; obtain ⟨m, hm⟩ := maxLen_of hSh; have hit := itoaG_of (pow10_of hX); refine (law_Prints pm0 pv0 pr0 cm0 cv0 cr0 p0 m W rd0 hm hit).mono fun e W' ⟨he, bel⟩ => ?_
  subst he; exact ⟨_, rfl, _, _, _, [], _, [], hW', trodAll_mk1 (shut_bool Tryz.underlying4 _), (trodAll_cons_mk (Below.trod laidOutT (by kernel_rfl) (of_decide_eq_true (by kernel_rfl)) h0 bel (trod_lt h0)) trodAll_mk0), rfl, bel.frame _, fun h => by cases h⟩
theorem slackPrints_wf : Rows.slackPrintsRow.wf (OpenSpec.ofChange Rows.slackPrintsSpec) = true := by kernel_rfl
theorem slackPrints_inPlace : (Rows.slackPrintsRow.inPlace == Tryz.prog.inPlace 13) = true := by kernel_rfl
theorem slackPrints_unfollowed : (Rows.slackPrintsRow.unfollowed == Tryz.prog.unfollowed 13) = true := by kernel_rfl
theorem slackPrints_recurses : (Rows.slackPrintsRow.recurses == Tryz.prog.recurses 13) = true := by kernel_rfl
theorem slackPrints_named : (Rows.slackPrintsRow.named == Tryz.prog.varsNamed 13) = true := by kernel_rfl
theorem slackPrints_goes : false = Rows.slackPrintsRow.goesBy Tryz.prog := by kernel_rfl
theorem slackPrints_func : Tryz.prog.funcNamed Rows.slackPrintsRow.func = some 13 := by kernel_rfl
theorem slackPrints_text : Rows.slackPrintsRow.wfByText (OpenSpec.ofChange Rows.slackPrintsSpec) = true := by kernel_rfl
theorem slackPrints_closed : joinedFacts Tryz.prog 13 Tryz.f13 Rows.slackPrintsSpec Rows.slackPrintsRow = true :=
  (and_t (and_t (and_t (and_t (and_t (and_t (and_t (and_t (and_t (and_t (and_t (and_t (and_t (and_t (and_t (and_t (and_t (and_t (and_t (and_t (and_t (and_t (and_t (and_t (and_t (and_t (and_t (and_t (and_t (and_t (and_t slackPrints_wf tLaidOut) tMaps) (by kernel_rfl)) (by kernel_rfl)) (by kernel_rfl)) (by kernel_rfl)) (by kernel_rfl)) (by kernel_rfl)) slackPrints_inPlace) slackPrints_unfollowed) slackPrints_recurses) slackPrints_named) (by kernel_rfl)) (by kernel_rfl)) (by kernel_rfl)) (by kernel_rfl)) (by kernel_rfl)) (by kernel_rfl)) (by kernel_rfl)) (by kernel_rfl)) (by kernel_rfl)) (by kernel_rfl)) (by kernel_rfl)) tHeard) tMayEnter) (eq_t (α := Bool) tFinal.symm)) (eq_t tMake)) (by kernel_rfl)) (by kernel_rfl)) (by kernel_rfl)) (by kernel_rfl))
theorem slackPrints_wrap : Func.isWrapper Tryz.prog Tryz.f13 Rows.slackPrintsRow.wrapper Rows.slackPrintsRow.mainSum := by unfold Func.isWrapper; rw [if_neg (of_decide_eq_false (by kernel_rfl))]; exact ⟨rfl, rfl⟩
theorem slackPrints_row : Rows.SlackPrintsSaid :=
  OpenClaim.holds_of_wide 13 Tryz.f13 rfl rfl rfl rfl rfl rfl rfl ⟨rfl, rfl, rfl, rfl, rfl⟩ rfl rfl rfl rfl rfl slackPrints_func Tryz.func13 slackPrints_closed (of_decide_eq_true (by kernel_rfl)) slackPrints_wrap (fun os started H enc _ => slackPrints_lifted os started H enc)
theorem slackPrints_plain : ∀ (j : Nat) t, Tryz.f13.params[j]? = some t → Tryz.prog.wantsStandIn t = false := fun j t ht => by
  rw [Tryz.params13] at ht; have hm : t ∈ [26] := by simpa using Array.mem_of_getElem? ht
  have hall : ([26].all fun u => !Tryz.prog.wantsStandIn u) = true := by kernel_rfl
  exact (show Tryz.prog.wantsStandIn t = false by simpa using List.all_eq_true.1 hall t hm)
theorem slackPrints_holds : Rows.SlackPrintsCardSaid :=
  Claim7.holds_tied_plain_at .later [] [.data, .data, .data, .data, .pinned] true (true, "ce0818d0c59e3fa5e3ee8c8a0f2895fb96dd737b57a340924acb54004d6cceea") true slackPrints_row (fun _ h => by cases h) slackPrints_text (fun _ h => by cases h) slackPrints_row_tie rfl ⟨rfl, rfl⟩ tMainIs rfl
    (fun f fn hf hfn => by
      obtain rfl : f = 13 := Option.some.inj (slackPrints_func.symm.trans hf) |>.symm
      obtain rfl : fn = Tryz.f13 := (Option.some.inj (Tryz.func13.symm.trans hfn)).symm; exact ⟨tLooks, slackPrints_plain⟩)
    slackPrints_goes
#print axioms slackPrints_holds
end Go.Proofs.YtlednchfifphgaaGreatDoor
end
