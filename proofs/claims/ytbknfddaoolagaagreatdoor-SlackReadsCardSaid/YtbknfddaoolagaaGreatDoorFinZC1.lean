/-
  Texts of lines, plain (no program in sight): lines and their ends, parts between single bytes, the check of a text, a spoilt text.
  The log of a piece, plain: its rows, reading it back (no program in sight).
  Logs of pieces as defined, plain: how long they are, a spoilt log, what reading answers (no program in sight).
  A number's decimal text by the document (the walk).
  The program's Print: the document of a piece, or the error; a law's walk.
  A negation in a quiet walk.
  A drawn region whose cells are known: its beginning, in short words.
  The document by its own words: ref.Print (the walk).
  A text cut at single bytes, by the document (the walk).
  A number read back by the document: ref.number (the walk).
  Words read as numbers, by the document (the walk).
  How much a text can hold, for the document's reader (plain).
  A text read as a log by the document: ref.Read (the walk; printed by slkref.py).
  The law SlackReads: the walk.
  The law SlackReads: its card. Conditions: none of the input; the tables of the library that the row lists are as the program lays them (the tie is given).
-/
import Derived.Test.YtbknfddaoolagaaGreatDoorGI
import Derived.Lib.Join
import Derived.Lib.SplitLaws
import Derived.Lib.IndexBytes
import Derived.Lib.ItoaNum
import Derived.Lib.ItoaMem
import Derived.Test.YtbknfddaoolagaaGreatDoorGA
import Derived.Laws.IdiomStrings
import Derived.Test.YtbknfddaoolagaaGreatDoorGH
import Derived.Deep.AppendLies
import Derived.Test.YtbknfddaoolagaaGreatDoorGJ
import Derived.Test.YtbknfddaoolagaaGreatDoorGK
import Derived.Deep.RegionHeld3
import Derived.Test.YtbknfddaoolagaaGreatDoorGG
import Derived.Test.YtbknfddaoolagaaGreatDoorGL
import Derived.Test.YtbknfddaoolagaaGreatDoorGY
import Derived.Test.YtbknfddaoolagaaGreatDoorGZ
import Derived.Test.YtbknfddaoolagaaGreatDoorCards
section
namespace Go.Proofs.YtbknfddaoolagaaGreatDoor
open Go
set_option linter.unusedVariables false


theorem pre_nil (c : UInt8) (s : List UInt8) : pre [] (cutL c s) = cutL c s := by
  obtain ⟨h, t, e⟩ := cutL_shape c s; rw [e]; rfl
theorem pre_hit (c : UInt8) (cur r : List UInt8) : pre cur (cutL c (c :: r)) = cur :: cutL c r := by
  rw [cutL_hit]; simp [pre]
theorem pre_other {b c : UInt8} (h : b ≠ c) (cur r : List UInt8) : pre cur (cutL c (b :: r)) = pre (cur ++ [b]) (cutL c r) := by
  rw [cutL_other h]; simp [pre]
theorem pre_end (c : UInt8) (cur : List UInt8) : pre cur (cutL c []) = [cur] := by simp [pre, cutL]
end Go.Proofs.YtbknfddaoolagaaGreatDoor
end

section
namespace Go.Proofs.YtbknfddaoolagaaGreatDoor
open Go
set_option linter.unusedVariables false

theorem told_parts {w r : ByteArray} {xs : List Int} (h : toldG w r = some xs) : NumsG (partsF 32 r).tail ∧ headP (partsF 32 r) = w ∧ (partsF 32 r).tail.map valG = xs := by
  unfold toldG at h
  split at h
  · rename_i hc
    exact ⟨hc.2, hc.1, Option.some.inj h⟩
  · cases h

def stepG (st : Pc) (row : ByteArray) : Option Pc :=
  if NumsG (partsF 32 row).tail then
    if headP (partsF 32 row) = meshW then
      if (partsF 32 row).tail.length = 2 then some { st with ms := st.ms ++ [(gi ((partsF 32 row).tail.map valG) 0, gi ((partsF 32 row).tail.map valG) 1)] } else none
    else if headP (partsF 32 row) = movesW then some { st with mv := (partsF 32 row).tail.map valG }
    else if headP (partsF 32 row) = readW then
      if (partsF 32 row).tail.length = 4 then some { st with rs := st.rs ++ [⟨gi ((partsF 32 row).tail.map valG) 0, gi ((partsF 32 row).tail.map valG) 1, gi ((partsF 32 row).tail.map valG) 2, gi ((partsF 32 row).tail.map valG) 3⟩] } else none
    else none
  else none
def stG (rows : List ByteArray) : Nat → Option Pc
  | 0 => some ⟨[], [], []⟩
  | k + 1 => (stG rows k).bind fun st => stepG st (rows.getD (k + 1) ByteArray.empty)
theorem stepG_mesh {st : Pc} {row : ByteArray} {m : Int × Int} (h : toldG meshW row = some (meL m)) : stepG st row = some { st with ms := st.ms ++ [m] } := by
  obtain ⟨h1, h2, h3⟩ := told_parts h; have hl : (partsF 32 row).tail.length = 2 := by have := congrArg List.length h3; rw [List.length_map] at this; exact this
  unfold stepG; rw [if_pos h1, if_pos h2, if_pos hl, h3]
  rfl
theorem stepG_moves {st : Pc} {row : ByteArray} {xs : List Int} (h : toldG movesW row = some xs) : stepG st row = some { st with mv := xs } := by
  obtain ⟨h1, h2, h3⟩ := told_parts h; unfold stepG; rw [if_pos h1, if_neg (by rw [h2]; decide), if_pos h2, h3]
theorem stepG_read {st : Pc} {row : ByteArray} {r : Rd} (h : toldG readW row = some (rdL r)) : stepG st row = some { st with rs := st.rs ++ [r] } := by
  obtain ⟨h1, h2, h3⟩ := told_parts h; have hl : (partsF 32 row).tail.length = 4 := by have := congrArg List.length h3; rw [List.length_map] at this; exact this
  unfold stepG; rw [if_pos h1, if_neg (by rw [h2]; decide), if_neg (by rw [h2]; decide), if_pos h2, if_pos hl, h3]
  rfl
theorem stG_ms {s : ByteArray} {p : Pc} (h : ParsedP s p) : ∀ k, k ≤ p.ms.length → stG (partsF 10 s) k = some ⟨p.ms.take k, [], []⟩ := by
  intro k
  induction k with
  | zero => intro _; rfl
  | succ k ih =>
    intro hk; rw [stG, ih (by omega)]; show stepG _ _ = _; rw [stepG_mesh (h.ms k (by omega)), List.take_succ_eq_append_getElem (by omega), gm_get _ _ (by omega)]
theorem stG_rs {s : ByteArray} {p : Pc} (h : ParsedP s p) : ∀ k, k ≤ p.rs.length → stG (partsF 10 s) (p.ms.length + 1 + k) = some ⟨p.ms, p.mv, p.rs.take k⟩ := by
  intro k
  induction k with
  | zero =>
    intro _; rw [Nat.add_zero, stG, stG_ms h p.ms.length (Nat.le_refl _)]; show stepG _ _ = _; rw [stepG_moves h.mv, List.take_length]; rfl
  | succ k ih =>
    intro hk; rw [show p.ms.length + 1 + (k + 1) = (p.ms.length + 1 + k) + 1 by omega, stG, ih (by omega)]; show stepG _ ((partsF 10 s).getD (p.ms.length + 1 + k + 1) ByteArray.empty) = _; have := h.rs k (by omega); rw [show p.ms.length + 2 + k = p.ms.length + 1 + k + 1 by omega] at this; rw [stepG_read this, List.take_succ_eq_append_getElem (by omega), gr_get _ _ (by omega)]
theorem stG_mono {rows : List ByteArray} {k : Nat} (h : stG rows k = none) : ∀ n, k ≤ n → stG rows n = none := by
  intro n hn
  induction n with
  | zero => obtain rfl : k = 0 := by omega
            exact h
  | succ n ih =>
    by_cases h2 : k = n + 1
    · rw [← h2]; exact h
    · rw [stG, ih (by omega)]; rfl
theorem stG_all {s : ByteArray} {p : Pc} (h : BkP s p) : stG (partsF 10 s) ((partsF 10 s).length - 3) = some p := by
  have hp := parsed_of_bk h; have := stG_rs hp p.rs.length (Nat.le_refl _); rw [List.take_length] at this; rw [hp.len, show p.ms.length + p.rs.length + 4 - 3 = p.ms.length + 1 + p.rs.length by omega, this]
theorem noBk_of_step {s : ByteArray} {k : Nat} (hk : k ≤ (partsF 10 s).length - 3) (h : stG (partsF 10 s) k = none) : ∀ p, ¬ BkP s p := by
  intro p hb; have h1 := stG_all hb; rw [stG_mono h _ hk] at h1
  cases h1
theorem bk_of_steps {s : ByteArray} {st : Pc} (h : stG (partsF 10 s) ((partsF 10 s).length - 3) = some st) {p : Pc} (hb : BkP s p) : textP st = s := by
  have h1 := stG_all hb; rw [h] at h1
  cases h1
  exact hb.2
end Go.Proofs.YtbknfddaoolagaaGreatDoor
end

section
namespace Go.Proofs.YtbknfddaoolagaaGreatDoor
open Go
set_option linter.unusedVariables false

theorem read_none {s : ByteArray} {q : Pc} {er : Int} (hs : s.size ≤ 400) (hn : ∀ p, ¬ BkP s p) (h : ReadR s q er) : q = noP ∧ er = 4 := by
  rcases h with ⟨⟨h1, _⟩ | ⟨_, _, h1⟩ | ⟨_, ⟨x, h1, _⟩, _⟩, h2⟩ | ⟨_, h1, _⟩
  · omega
  · exact ⟨h2, h1⟩
  · exact absurd h1 (hn _)
  · exact absurd h1 (hn _)
theorem read_long {s : ByteArray} {q : Pc} {er : Int} (hs : 400 < s.size) (h : ReadR s q er) : q = noP ∧ er = 3 := by
  rcases h with ⟨⟨_, h1⟩ | ⟨h1, _⟩ | ⟨h1, _⟩, h2⟩ | ⟨h1, _⟩
  · exact ⟨h2, h1⟩
  all_goals omega
theorem read_bad {s : ByteArray} {p q : Pc} {er : Int} (hs : s.size ≤ 400) (hb : BkP s p) (hf : pieceB p = false) (h : ReadR s q er) : q = noP ∧ er = 2 := by
  rcases h with ⟨⟨h1, _⟩ | ⟨_, h1, _⟩ | ⟨_, _, h1⟩, h2⟩ | ⟨_, h1, h2, _⟩
  · omega
  · exact absurd hb (h1 _)
  · exact ⟨h2, h1⟩
  · rw [bk_unique h1 hb, hf] at h2; cases h2
end Go.Proofs.YtbknfddaoolagaaGreatDoor
end

section
namespace Go.Proofs.YtbknfddaoolagaaGreatDoor
open Go Go.RowKit Go.Proofs Go.Shelf
set_option linter.unusedVariables false

theorem digit_conv (d : Nat) (hd : d < 10) (w : World) :
    (convert 171 9 (.slice (some ⟨w.heap.size, 0, none⟩) 1 1)).run Tryz.prog (w.alloc (.cells #[.int .u8 (48 + (d : Int))] 5)) = .ok (.string ⟨[UInt8.ofNat (48 + d)].toArray⟩) (w.alloc (.cells #[.int .u8 (48 + (d : Int))] 5)) := by
  have h := run_convert_bytes_back (P := Tryz.prog) (w.alloc (.cells #[.int .u8 (48 + (d : Int))] 5)) 171 9 5 ⟨w.heap.size, 0, none⟩ 1 [UInt8.ofNat (48 + d)] Tryz.underlying171 Tryz.underlying5 Tryz.underlying9 (fun j hj => by
    have hj0 : j = 0 := by simpa using hj
    subst hj0
    have e : ((UInt8.ofNat (48 + d)).toNat : Int) = 48 + (d : Int) := by
      rw [UInt8.toNat_ofNat']; omega
    simp only [List.getElem_cons_zero]; rw [e, add_new, at_new]
    simp)
  exact h
theorem app_one (b : UInt8) (l : List UInt8) : (⟨[b].toArray⟩ : ByteArray) ++ (⟨l.toArray⟩ : ByteArray) = ⟨(b :: l).toArray⟩ := by
  apply ByteArray.ext; simp [ByteArray.data_append]
def DecTo (n cur : Nat) (l : List UInt8) : Prop := if cur < 10 then l = Lib.decDigits n else Lib.decDigits (cur / 10) ++ l = Lib.decDigits n
theorem decTo_start (n : Nat) : DecTo n n [UInt8.ofNat (48 + n % 10)] := by
  unfold DecTo
  by_cases h : n < 10
  · rw [if_pos h, Lib.decDigits, dif_pos h, Nat.mod_eq_of_lt h]
  · rw [if_neg h]; conv => rhs; rw [Lib.decDigits, dif_neg h]
theorem decTo_next {n cur : Nat} {l : List UInt8} (h : DecTo n cur l) (hc : ¬ cur < 10) : DecTo n (cur / 10) (UInt8.ofNat (48 + cur / 10 % 10) :: l) := by
  unfold DecTo at h ⊢; rw [if_neg hc] at h
  by_cases h2 : cur / 10 < 10
  · rw [if_pos h2, ← h]
    conv => rhs; rw [Lib.decDigits, dif_pos h2]
    rw [Nat.mod_eq_of_lt h2]; rfl
  · rw [if_neg h2, ← h]
    conv => rhs; rw [Lib.decDigits, dif_neg h2]
    simp

set_option maxRecDepth 100000 in
theorem r_decNat (n : Nat) (hn : n < 100000) (w : World) :
    Calls Tryz.prog 95 #[.int .i64 n] w fun e w' => e = .returned (.string ⟨(Lib.decDigits n).toArray⟩) ∧ Below w.heap.size w w' := by
  obtain ⟨d, hd⟩ : ∃ d, n % 10 = d := ⟨_, rfl⟩; have hdl : d < 10 := by omega
  have ht1 : (n : Int).tmod 10 = (d : Int) := by rw [Int.tmod_eq_emod_of_nonneg (by omega)]; omega
  have ht2 : (n : Int) % 10 = (d : Int) := by omega
  have hw1 : IntKind.i64.wrap (d : Int) = (d : Int) := w64 _ (by omega) (by omega); have hw2 : IntKind.i64.wrap (48 + (d : Int)) = 48 + (d : Int) := w64 _ (by omega) (by omega); have hw3 : IntKind.u8.wrap (48 + (d : Int)) = 48 + (d : Int) := by rw [IntKind.wrap_u8]; omega
  have hcv := digit_conv d hdl w; have HD := Lib.hid (show DecTo n n [UInt8.ofNat (48 + d)] by rw [← hd]; exact decTo_start n); obtain ⟨l0, hl0⟩ : ∃ l0, [UInt8.ofNat (48 + d)] = l0 := ⟨_, rfl⟩; obtain ⟨s0, hs0⟩ : ∃ s0 : ByteArray, (⟨l0.toArray⟩ : ByteArray) = s0 := ⟨_, rfl⟩; obtain ⟨w1, e1⟩ : ∃ w1, w.alloc (.cells #[.int .u8 (48 + (d : Int))] 5) = w1 := ⟨_, rfl⟩; have HB := Lib.hid (show Below w.heap.size w w1 by rw [← e1]; exact below_alloc1 _ _); rw [hl0, hs0, e1] at hcv; rw [hl0] at HD; have HS := Lib.hid hs0; have HL0 := Lib.hid (show l0.length = 1 by rw [← hl0]; rfl); clear hd hl0 hs0
  go_enter Tryz.func95, Tryz.ntmps95
  have hn0 : decide ((n : Int) < 0) = false := by simp
  go_wp2; clear e1 hcv
  go_loopw [0, 3] (fun a v wx => ∃ cur : Nat, ∃ l : List UInt8, ∃ s : ByteArray, cur ≤ n ∧ a = .int .i64 cur ∧ v = .string s ∧ s.size + cur ≤ 100001 ∧ Hid ((⟨l.toArray⟩ : ByteArray) = s) ∧ Hid (DecTo n cur l) ∧ Hid (Below w1.heap.size w1 wx)) (fun a v _ => (intOf a).toNat)
  case atStart => exact ⟨n, l0, s0, Nat.le_refl _, rfl, rfl, by rw [← HS.out]; show l0.length + n ≤ _; rw [HL0.out]; omega, HS, HD, Lib.hid (Below.refl _ _)⟩
  case round =>
    obtain ⟨cur, l, s, hcn, rfl, rfl, hsz, HSS, HDT, HM⟩ := hrel; clear ht1 ht2 hw1 hw2 hw3 hdl HD HS HL0
    by_cases hc : cur < 10
    · have hcI : decide ((cur : Int) ≥ 10) = false := by simp; omega
      have hcJ : decide ((10 : Int) ≤ (cur : Int)) = false := by simp; omega
      have HE := Lib.hid (show s = ⟨(Lib.decDigits n).toArray⟩ by
        have h := HDT.out; unfold DecTo at h; rw [if_pos hc] at h; rw [← HSS.out, h])
      go_wp2; go_ret; exact ⟨by rw [HE.out]; rfl, HB.out.trans (HM.out.mono HB.out.size)⟩
    · have hcI : decide ((cur : Int) ≥ 10) = true := by simp; omega
      have hcJ : decide ((10 : Int) ≤ (cur : Int)) = true := by simp; omega
      obtain ⟨q, hq⟩ : ∃ q, cur / 10 = q := ⟨_, rfl⟩; obtain ⟨d', hd'⟩ : ∃ d', q % 10 = d' := ⟨_, rfl⟩; have hdl' : d' < 10 := by omega
      have hqc : q < cur := by omega
      have hq1 : (cur : Int).tdiv 10 = (q : Int) := by rw [Int.tdiv_eq_ediv_of_nonneg (by omega)]; omega
      have hq2 : (cur : Int) / 10 = (q : Int) := by omega
      have ht1 : (q : Int).tmod 10 = (d' : Int) := by rw [Int.tmod_eq_emod_of_nonneg (by omega)]; omega
      have ht2 : (q : Int) % 10 = (d' : Int) := by omega
      have hw0 : IntKind.i64.wrap (q : Int) = (q : Int) := w64 _ (by omega) (by omega); have hw1 : IntKind.i64.wrap (d' : Int) = (d' : Int) := w64 _ (by omega) (by omega); have hw2 : IntKind.i64.wrap (48 + (d' : Int)) = 48 + (d' : Int) := w64 _ (by omega) (by omega); have hw3 : IntKind.u8.wrap (48 + (d' : Int)) = 48 + (d' : Int) := by rw [IntKind.wrap_u8]; omega
      have HDN := Lib.hid (show DecTo n q (UInt8.ofNat (48 + d') :: l) by rw [← hd', ← hq]; exact decTo_next HDT.out hc); have hcv := digit_conv d' hdl' wr; obtain ⟨s1, hs1⟩ : ∃ s1 : ByteArray, (⟨[UInt8.ofNat (48 + d')].toArray⟩ : ByteArray) = s1 := ⟨_, rfl⟩; have HS1 := Lib.hid (show s1 ++ s = ⟨(UInt8.ofNat (48 + d') :: l).toArray⟩ by rw [← hs1, ← HSS.out]; exact app_one _ _); have h1z : s1.size = 1 := by rw [← hs1]; rfl
      have H1Z := Lib.hid h1z; obtain ⟨w2, e2⟩ : ∃ w2, wr.alloc (.cells #[.int .u8 (48 + (d' : Int))] 5) = w2 := ⟨_, rfl⟩; have HB2 := Lib.hid (show Below w1.heap.size w1 w2 by rw [← e2]; exact HM.out.alloc HM.out.size _); rw [hs1, e2] at hcv; clear hq hd' hs1 h1z; go_wp2
      case isTrue hh => (exfalso; have h1 := H1Z.out; first | omega | (simp only [ByteArray.size, maxLen] at *; omega))
      clear e2 hcv; go_roundw
      case rel => exact ⟨q, _, _, by omega, rfl, rfl, by rw [ByteArray.size_append, H1Z.out]; omega, Lib.hid HS1.out.symm, HDN, HB2⟩
      case measure => simp [intOf]; omega

theorem itoB_nat (k : Nat) : itoB (k : Int) = ⟨(Lib.decDigits k).toArray⟩ := by
  unfold itoB Lib.itoa; rw [if_neg (by omega), Int.toNat_natCast]
theorem itoB_neg {n : Int} (h : n < 0) : itoB n = ⟨#[45]⟩ ++ ⟨(Lib.decDigits n.natAbs).toArray⟩ := by
  unfold itoB Lib.itoa; rw [if_pos h]; exact (app_one 45 _).symm
set_option maxRecDepth 100000 in
theorem r_Decimal (n : Int) (hn : -9999 ≤ n ∧ n ≤ 9999) (w : World) :
    Calls Tryz.prog 95 #[.int .i64 n] w fun e w' => e = .returned (.string (itoB n)) ∧ Below w.heap.size w w' := by
  by_cases h0 : n < 0
  · obtain ⟨k, hk⟩ : ∃ k : Nat, n.natAbs = k := ⟨_, rfl⟩
    have hw : IntKind.i64.wrap (-n) = (k : Int) := by rw [show -n = (k : Int) by omega]; exact w64 _ (by omega) (by omega)
    have h0' : decide (n < 0) = true := decide_eq_true h0; have HK := Lib.hid (show k ≤ 9999 by omega); have HE := Lib.hid (show itoB n = ⟨#[45]⟩ ++ ⟨(Lib.decDigits k).toArray⟩ by rw [itoB_neg h0, hk]); have hsz : (Lib.decDigits k).length ≤ 4 := dec_len 3 k (by omega); have hd1 : ¬ 9223372036854775807 < 1 + (Lib.decDigits k).length := by omega
    clear hk hn
    go_enter Tryz.func95, Tryz.ntmps95
    (go_wp2_with fail); refine (r_decNat k (by have := HK.out; omega) _).mono ?_
    rintro e w' ⟨rfl, hb⟩; have HB := Lib.hid hb; clear hb; go_wp2; go_ret; exact ⟨by rw [HE.out]; rfl, HB.out⟩
  · obtain ⟨k, rfl⟩ : ∃ k : Nat, n = (k : Int) := ⟨n.toNat, by omega⟩
    refine (r_decNat k (by omega) w).mono fun e w' hq => ?_
    rw [itoB_nat]; exact hq

set_option maxRecDepth 100000 in
set_option maxHeartbeats 1000000 in
theorem r_row (word : ByteArray) (p : Option Addr) (cap : Nat) (xs : List Int) (w : World) (hx : RdI w p xs) (hl : xs.length ≤ 1000) (hs : InG xs) (hw : word.size ≤ 10) :
    Calls Tryz.prog 94 #[.string word, .slice p xs.length cap] w fun e w' => e = .returned (.string (rowT word xs xs.length)) ∧ Below w.heap.size w w' := by
  have HX := Lib.hid hx; have HS := Lib.hid hs; have HWD := Lib.hid hw; clear hx hs hw
  go_enter Tryz.func94, Tryz.ntmps94
  go_wp2
  go_loopw [0, 5] (fun s i wr => ∃ k : Nat, k ≤ xs.length ∧ i = .int .i64 k ∧ s = .string (rowT word xs k) ∧ Hid (Below w.heap.size w wr)) (fun _ i _ => xs.length - (intOf i).toNat)
  case atStart => exact ⟨0, Nat.zero_le _, rfl, rfl, Lib.hid (Below.refl _ _)⟩
  case round =>
    obtain ⟨k, hk, rfl, rfl, HB1⟩ := hrel
    by_cases hlt : k < xs.length
    · have hltI : decide ((k : Int) < (xs.length : Int)) = true := by simp; omega
      obtain ⟨b, off, rfl, hc⟩ := (HX.out.below HB1.out).at hlt; have e1 := hc k hlt; have hxr := HS.out k hlt; have HST := Lib.hid (rowT_step word xs k hlt); have hit := r_Decimal (gi xs k) hxr wr; have hd1 := ito_size hxr; obtain ⟨x, hxe⟩ : ∃ x, gi xs k = x := ⟨_, rfl⟩; rw [hxe] at e1 hit hd1 HST; obtain ⟨t, ht⟩ : ∃ t, itoB x = t := ⟨_, rfl⟩; rw [ht] at hit hd1 HST; clear hc hxe hxr ht; have hd2 := rowT_size word xs HS.out k (by omega); have hd0 := HWD.out; obtain ⟨R, hR⟩ : ∃ R, rowT word xs k = R := ⟨_, rfl⟩; rw [hR] at hd2 HST ⊢; have hd3 : ¬ 9223372036854775807 < R.size + 1 := by omega
      have hd4 : ¬ 9223372036854775807 < R.size + 1 + t.size := by omega
      clear hR hd0 hd1 hd2; go_wp2_with fail; refine hit.mono ?_; clear hit; rintro e w' ⟨rfl, hb⟩; have HB2 := Lib.hid (HB1.out.trans (hb.mono HB1.out.size)); clear hb; go_wp2; go_roundw
      case rel => exact ⟨k + 1, by omega, by go_num, by rw [HST.out, ← ByteArray.append_assoc], HB2⟩
      case measure => simp [intOf]; omega
    · obtain rfl : k = xs.length := by omega
      have hltI : decide ((xs.length : Int) < (xs.length : Int)) = false := by simp
      go_wp2; go_ret; exact ⟨rfl, HB1.out⟩
end Go.Proofs.YtbknfddaoolagaaGreatDoor
end

section
namespace Go.Proofs.YtbknfddaoolagaaGreatDoor
open Go Go.RowKit Go.Proofs Go.Shelf
set_option linter.unusedVariables false

def PrintPost (p : Pc) (w : World) (e : Ending) (w' : World) : Prop := e = (if pieceB p then .returned (.tuple #[.string (textP p), .int .i64 0]) else .returned (.tuple #[.string ⟨#[]⟩, .int .i64 2])) ∧ Below w.heap.size w w'
set_option maxRecDepth 100000 in
theorem c_Print (pm pv pr : Option Addr) (cm cv cr : Nat) (p : Pc) (w : World) (hp : RdP w pm pv pr p) (hl : LenOk p) (hI : ItoaG w) :
    Calls Tryz.prog 10 #[.agg #[.slice pm p.ms.length cm, .slice pv p.mv.length cv, .slice pr p.rs.length cr]] w (PrintPost p w) := by
  obtain ⟨w1, e1, HS1, k0, k1, k2, b1⟩ := box3 w (.slice pm p.ms.length cm) (.slice pv p.mv.length cv) (.slice pr p.rs.length cr) 27; have HP := Lib.hid (hp.below b1); have HI := Lib.hid hI; have HB := Lib.hid b1; have HL := Lib.hid hl; clear hp hI b1 hl
  go_enter Tryz.func10, Tryz.ntmps10
  (go_wp2_with fail); refine (c_isPiece pm pv pr cm cv cr p _ HP.out HL.out).mono ?_
  clear e1
  rcases hb : pieceB p with _ | _
  · have HBF := Lib.hid hb
    clear hb; rintro e wn ⟨rfl, bq⟩; replace HB := Lib.hid (HB.out.trans (bq.mono HB.out.size)); clear bq; go_wp2; go_ret2; exact ⟨by rw [HBF.out]; rfl, HB.out⟩
  have HPO := Lib.hid (textOk_of (pieceB_iff.1 hb)); have HBB := Lib.hid hb; clear hb; rintro e wn ⟨rfl, bq⟩; replace HB := Lib.hid (HB.out.trans (bq.mono HB.out.size)); replace HP := Lib.hid (HP.out.below bq); have k0 := (bq.cell (lt_of_cellq k0)).trans k0; have k1 := (bq.cell (lt_of_cellq k1)).trans k1; have k2 := (bq.cell (lt_of_cellq k2)).trans k2; clear bq; replace HI := Lib.hid (HI.out.below HB.out)
  (go_wp2_with fail); refine (c_text pm pv pr cm cv cr p _ HP.out HPO.out HI.out).mono ?_
  rintro e wn ⟨rfl, bq⟩
  skip; replace HB := Lib.hid (HB.out.trans (bq.mono HB.out.size)); clear bq
  go_wp2; go_ret2; exact ⟨by rw [HBB.out]; rfl, HB.out⟩
end Go.Proofs.YtbknfddaoolagaaGreatDoor
end

section
namespace Go.Proofs.YtbknfddaoolagaaGreatDoor
open Go Go.RowKit
set_option linter.unusedVariables false
end Go.Proofs.YtbknfddaoolagaaGreatDoor
end

section
namespace Go.Proofs.YtbknfddaoolagaaGreatDoor
open Go Go.RowKit
set_option linter.unusedVariables false
section
variable {P : Program} {ops : Array Oper} {Q : Exit → Act → World → Prop} {id : Nat} {a : Act} {w : World}
theorem cl3 {a0 a1 a2 : Addr} {v0 v1 v2 : Value} (h0 : w.cell? a0 = some v0) (h1 : w.cell? a1 = some v1) (h2 : w.cell? a2 = some v2) : ∀ w', Below w.heap.size w w' → w'.cell? a0 = some v0 ∧ w'.cell? a1 = some v1 ∧ w'.cell? a2 = some v2 := fun w' hb => ⟨(hb.cell (lt_of_cellq h0)).trans h0, (hb.cell (lt_of_cellq h1)).trans h1, (hb.cell (lt_of_cellq h2)).trans h2⟩
theorem held3 {a0 a1 a2 : Addr} {v0 v1 v2 : Value} (h0 : w.cell? a0 = some v0) (h1 : w.cell? a1 = some v1) (h2 : w.cell? a2 = some v2)
    (k : ∀ W0, Below w.heap.size w W0 → wpAnyH P .any ops Q (fun w' => w'.cell? a0 = some v0 ∧ w'.cell? a1 = some v1 ∧ w'.cell? a2 = some v2) ops.size (Array.replicate ops.size false) a W0)
    (hm : P.follows .mixedOrders = true := by kernel_rfl) : (Code.region id ops true).wp P Q a w :=
  wp_region_held_drew (S := fun w' => w'.cell? a0 = some v0 ∧ w'.cell? a1 = some v1 ∧ w'.cell? a2 = some v2) hm (cl3 h0 h1 h2 _ (Below.refl _ _).drew) (fun _ => k _ (Below.refl _ _).drew)
end
end Go.Proofs.YtbknfddaoolagaaGreatDoor
end

section
namespace Go.Proofs.YtbknfddaoolagaaGreatDoor
open Go Go.RowKit Go.Proofs Go.Shelf
set_option linter.unusedVariables false
set_option linter.unusedSimpArgs false

def outTo (ls : List ByteArray) : Nat → ByteArray
  | 0 => ⟨#[]⟩
  | k + 1 => outTo ls k ++ ls.getD k ByteArray.empty ++ ⟨#[10]⟩
theorem out_size (ls : List ByteArray) (hs : ∀ i, i < ls.length → (ls.getD i ByteArray.empty).size ≤ 2500) : ∀ k, k ≤ ls.length → (outTo ls k).size ≤ k * 2501 := by
  intro k
  induction k with
  | zero => intro _; exact Nat.zero_le _
  | succ k ih =>
    intro hk; have h1 := ih (by omega); have h2 := hs k (by omega); simp only [outTo, ByteArray.size_append]; have : (⟨#[10]⟩ : ByteArray).size = 1 := rfl; omega
theorem out_data (ls : List ByteArray) : ∀ k, k ≤ ls.length → (outTo ls k).data.toList = flat ((ls.take k).map (·.data.toList)) := by
  intro k
  induction k with
  | zero => intro _; simp [outTo, flat]
  | succ k ih =>
    intro hk; have hk' : k < ls.length := by omega
    rw [List.take_succ_eq_append_getElem hk', List.map_append, flat_app, ← ih (by omega)]; simp only [outTo, ba_append]; simp [flat, hk']
theorem out_end (ls : List ByteArray) (h : ls ≠ []) (s tt a e b c : Nat) (hs : sumRows ls ls.length = (s : Int)) (htt : s % 113 = tt) (ha : tt / 100 = a) (he : tt / 10 = e) (hb : e % 10 = b) (hc : tt % 10 = c) :
    (((((outTo ls ls.length) ++ ⟨#[101, 110, 100, 32]⟩) ++ ⟨(Lib.decDigits a).toArray⟩) ++ ⟨(Lib.decDigits b).toArray⟩) ++ ⟨(Lib.decDigits c).toArray⟩) ++ ⟨#[10]⟩ = txtF ls := by
  rw [← txt_end ls h _ rfl s tt a e b c hs htt ha he hb hc]
  have e1 : outTo ls ls.length = (⟨(Lib.join (ls.map (·.data.toList)) [10]).toArray⟩ : ByteArray) ++ ⟨#[10]⟩ := by
    apply ba_inj; rw [out_data ls _ (Nat.le_refl _), List.take_length, ba_append]
    cases ls with
    | nil => exact absurd rfl h
    | cons x r => rw [List.map_cons, ← join_flat]
  have e2 : (⟨#[10]⟩ : ByteArray) ++ ⟨#[101, 110, 100, 32]⟩ = ⟨#[10, 101, 110, 100, 32]⟩ := rfl; rw [e1, ByteArray.append_assoc (c := (⟨#[101, 110, 100, 32]⟩ : ByteArray)), e2]

set_option maxRecDepth 100000 in
set_option maxHeartbeats 4000000 in
theorem r_Print (pm pv pr : Option Addr) (cm cv cr : Nat) (p : Pc) (w : World) (hp : RdP w pm pv pr p) (ht : TextOk p) :
    Calls Tryz.prog 44 #[.agg #[.slice pm p.ms.length cm, .slice pv p.mv.length cv, .slice pr p.rs.length cr]] w (TextPost p w) := by
  obtain ⟨i0, hi0, hy0, hy1, hy2⟩ := info_parts infStr; obtain ⟨w0, e0, HS0, k0, k1, k2, b0⟩ := box3 w (.slice pm p.ms.length cm) (.slice pv p.mv.length cv) (.slice pr p.rs.length cr) 27; obtain ⟨w1, e1, HS1, _, _, b1⟩ := box1 w0 (.int .i64 p.ms.length) 3; have hn9 := ht.small.n
  have hh : Calls Tryz.prog 94 #[.string pieceW, .slice (some ⟨w0.heap.size, 0, none⟩) 1 1] w1 fun e w' => e = .returned (.string (rowT pieceW [(p.ms.length : Int)] 1)) ∧ Below w1.heap.size w1 w' :=
    r_row pieceW (some ⟨w0.heap.size, 0, none⟩) 1 [(p.ms.length : Int)] w1 (by rw [← e1]; exact rd_lit w0 [(p.ms.length : Int)] 3) (by simp) (fun i hi => by
      have : i = 0 := by simpa using hi
      subst this; show -9999 ≤ (p.ms.length : Int) ∧ (p.ms.length : Int) ≤ 9999; omega) (by decide)
  have HP := Lib.hid (hp.below (b0.trans (b1.mono b0.size))); have HT := Lib.hid ht; have HB1 := Lib.hid (b0.trans (b1.mono b0.size)); have hm450 := ht.ms; have hr450 := ht.rs; have hv400 := ht.mv; have HK := Lib.hid (show w1.cell? ⟨w.heap.size, 0, none⟩ = some (.slice pm p.ms.length cm) ∧ w1.cell? ⟨w.heap.size, 1, none⟩ = some (.slice pv p.mv.length cv) ∧ w1.cell? ⟨w.heap.size, 2, none⟩ = some (.slice pr p.rs.length cr) from ⟨(b1.cell (lt_of_cellq k0)).trans k0, (b1.cell (lt_of_cellq k1)).trans k1, (b1.cell (lt_of_cellq k2)).trans k2⟩); clear hp ht b0 b1 k1 k2 hn9
  go_enter Tryz.func44, Tryz.ntmps44
  go_wp2_with fail; refine hh.mono ?_; rintro e w2 ⟨rfl, hb2⟩; have HB2 := Lib.hid hb2; have k0 := (hb2.cell (lt_of_cellq HK.out.1)).trans HK.out.1; clear hh hb2 e0 e1; obtain ⟨H, hH⟩ : ∃ H, rowT pieceW [(p.ms.length : Int)] 1 = H := ⟨_, rfl⟩; have HHE := Lib.hid (show rowsA p 0 = [H] by rw [rowsA_zero, hH]); rw [hH]; clear hH; obtain ⟨w3, e3, HS3, _, _, b3⟩ := box1 w2 (.string H) 9; have HO0 := Lib.hid (show w3.ownsRow w2.heap.size 9 1 (.slice (some ⟨w2.heap.size, 0, none⟩) 1 1) 1 [.string H] by rw [← e3]; exact one_own w2 w2.heap.size (Nat.le_refl _) H); have HBE0 := Lib.hid b3; have k0 := (b3.cell (lt_of_cellq k0)).trans k0; clear b3; go_wp2; clear e3
  go_loopw [3, 4] (fun v i wr => ∃ k : Nat, k ≤ p.ms.length ∧ i = .int .i64 k ∧ Hid (wr.ownsRow w2.heap.size 9 1 v (k + 1) (stV (rowsA p k))) ∧ Hid (Below w2.heap.size w2 wr)) (fun _ i _ => p.ms.length - (intOf i).toNat)
  case atStart => exact ⟨0, Nat.zero_le _, rfl, Lib.hid (by rw [HHE.out]; exact HO0.out), HBE0⟩
  case round =>
    obtain ⟨k, hk, rfl, HO, HB⟩ := hrel; have HBW := Lib.hid (HB2.out.trans (HB.out.mono HB2.out.size)); have k0 := (HBW.out.cell (lt_of_cellq HK.out.1)).trans HK.out.1
    by_cases hlt : k < p.ms.length
    · obtain ⟨b, off, rfl, hc⟩ := ((HP.out.below HBW.out).ms).at hlt
      obtain ⟨d0, d1⟩ := hc k hlt; have hsm := HT.out.small.ms k hlt; have HST := Lib.hid (rowsA_succ p k hlt); obtain ⟨M, hM⟩ : ∃ M, gm p.ms k = M := ⟨_, rfl⟩; have HME := Lib.hid hM; rw [hM] at d0 d1 hsm HST; obtain ⟨lo, hi⟩ := M; clear hc hM; go_wp2; have HSB := Lib.hid (cl3 k0 d0 d1); refine held3 k0 d0 d1 (fun W0 HB0 => ?_); refine tk 0 rfl (by exact HSB.out _ HB0) ?_; (try simp only [Act.put, ptL]); refine tk 1 rfl (by exact HSB.out _ HB0) ?_; (try simp only [Act.put, ptL]); refine tk 2 rfl (by exact HSB.out _ HB0) ?_; (try simp only [Act.put, ptL]); refine tk 3 rfl (by exact HSB.out _ HB0) ?_; (try simp only [Act.put, ptL]); refine tk 4 rfl (by exact HSB.out _ HB0) ?_; (try simp only [Act.put, ptL]); refine tk 5 rfl (by exact HSB.out _ HB0) ?_; (try simp only [Act.put, ptL]); refine tk 6 rfl (by exact HSB.out _ HB0) ?_; (try simp only [Act.put, ptL]); refine tk 7 rfl (by exact HSB.out _ HB0) ?_; (try simp only [Act.put, ptL]); refine tk 8 rfl (by exact HSB.out _ HB0) ?_; (try simp only [Act.put, ptL]); refine tk 9 rfl (by exact HSB.out _ HB0) ?_; (try simp only [Act.put, ptL]); refine tk 10 rfl (by exact HSB.out _ HB0) ?_; (try simp only [Act.put, ptL]); refine tk 11 rfl (by exact HSB.out _ HB0) ?_; (try simp only [Act.put, ptL]); refine tk 12 rfl (by exact HSB.out _ HB0) ?_; (try simp only [Act.put, ptL]); refine tk 13 rfl (by exact HSB.out _ HB0) ?_; (try simp only [Act.put, ptL]); refine tk 14 rfl (by exact HSB.out _ HB0) ?_; (try simp only [Act.put, ptL])
      refine rz1 15 rfl ?_; intro K hK; go_simp; obtain ⟨W1, e1⟩ : ∃ W1, W0.alloc (.cells #[.int .i64 lo, .int .i64 hi] 3) = W1 := ⟨_, rfl⟩; rw [e1]; have HB1 : Below wr.heap.size wr W1 := by rw [← e1]; exact HB0.alloc HB0.size _
      have hcl : Calls Tryz.prog 94 #[.string meshW, .slice (some ⟨W0.heap.size, 0, none⟩) 2 2] W1 fun e w' => e = .returned (.string (meR (lo, hi))) ∧ Below W1.heap.size W1 w' :=
        r_row meshW (some ⟨W0.heap.size, 0, none⟩) 2 [lo, hi] W1 (by rw [← e1]; exact rd_lit W0 [lo, hi] 3) (by simp) hsm (by decide)
      refine kz hK (by exact HSB.out _ HB1) ?_; clear hK K; (try simp only [Act.put, ptL]); refine rz1 16 rfl ?_; intro K hK; go_simp; refine hcl.mono ?_; clear hcl; rintro e W2 ⟨rfl, b2⟩; have HB2w := HB1.trans (b2.mono HB1.size); refine kz hK (by exact HSB.out _ HB2w) ?_; clear hK K; (try simp only [Act.put, ptL]); refine rz1 17 rfl ?_; intro K hK; go_simp; refine kz hK (by exact HSB.out _ (HB2w.alloc HB2w.size _)) ?_; clear hK K; (try simp only [Act.put, ptL]); have hO1 := (own_kept HO.out HB2w).alloc (.cells #[.string (meR (lo, hi))] 9); have hB1 := (HB.out.trans (HB2w.mono HB.out.size)).alloc (HB.out.trans (HB2w.mono HB.out.size)).size (.cells #[.string (meR (lo, hi))] 9); refine rz1 18 rfl ?_; intro K hK; refine step_append_lies _ rfl _ _ 82 rfl w2.heap.size 9 i0 _ 1 16 Tryz.underlying82 hi0 hy0 hy1 hy2 rfl (by decide) _ _ _ rfl hO1 ⟨W2.heap.size, 0, none⟩ 1 1 [.string (meR (lo, hi))] rfl rfl (news_of W2 _ _) (by intro u hu; simp at hu; subst hu; rfl) (by decide) (by unfold maxLen; omega) (by omega) (by have := hB1.size; omega) _ rfl ?_
      intro g' cap' w7 hown' hgrow _ _; have HO7 := Lib.hid hown'; have HB7 := Lib.hid (hB1.grown hgrow (by have := hB1.size; omega) (fun j hj => (hO1.lt j hj).1)); have HBY := Lib.hid (HB2.out.trans (HB7.out.mono HB2.out.size)); have f0 := (HBY.out.cell (lt_of_cellq HK.out.1)).trans HK.out.1; obtain ⟨b', off', hbe, hc'⟩ := ((HP.out.below HBY.out).ms).at hlt
      cases hbe
      obtain ⟨f1, f2⟩ := hc' k hlt; rw [HME.out] at f1 f2; refine kz hK (by exact ⟨f0, f1, f2⟩) ?_; clear hK K; (try simp only [Act.put, ptL]); refine tk 19 rfl (by exact ⟨f0, f1, f2⟩) ?_; (try simp only [Act.put, ptL]); refine wpAnyH_done (by kernel_rfl) ?_ _; clear hown' hgrow hc' hO1 hB1 HB0 HB1 HB2w HSB b2 e1 f0 f1 f2; go_wp2; go_roundw
      case rel => exact ⟨k + 1, by omega, by go_num, Lib.hid (by rw [HST.out, stV_append]; exact HO7.out), HB7⟩
      case measure => simp [intOf]; omega
    · obtain rfl : k = p.ms.length := by omega
      have k1 := (HBW.out.cell (lt_of_cellq HK.out.2.1)).trans HK.out.2.1; have hcl := r_row movesW pv cv p.mv wr ((HP.out.below HBW.out).mv) (by omega) HT.out.small.mv (by decide); obtain ⟨V, hV⟩ : ∃ V, rowT movesW p.mv p.mv.length = V := ⟨_, rfl⟩; have HVE := Lib.hid (show rowsB p 0 = rowsA p p.ms.length ++ [V] by rw [rowsB_zero, hV]); rw [hV] at hcl; clear hV; go_wp2_with fail; refine hcl.mono ?_; clear hcl; rintro e w3 ⟨rfl, b3⟩; have HO3 := Lib.hid (own_kept HO.out b3); have HB3 := Lib.hid (HB.out.trans (b3.mono HB.out.size)); clear b3; go_wp2_with (at_builtin; refine wpList_append_own _ rfl _ _ 82 rfl w2.heap.size 9 i0 _ 1 16 Tryz.underlying82 hi0 hy0 hy1 hy2 rfl (by decide) _ _ _ rfl (HO3.out.alloc _) ⟨w3.heap.size, 0, none⟩ 1 1 [.string V] rfl rfl ?c1 ?c2 ?c3 ?c4 ?c5 ?_)
      case c1 => exact news_of _ _ _
      case c2 => intro u hu; simp at hu; subst hu; rfl
      case c3 => unfold maxLen; omega
      case c4 => omega
      case c5 => have := HB3.out.size; simp; omega
      intro v' w7 hown' hgrow _; have HO7 := Lib.hid hown'; have HB7 := Lib.hid ((HB3.out.alloc HB3.out.size _).grown hgrow (by have := HB3.out.size; simp; omega) (fun j hj => (HO3.out.lt j hj).1)); clear hown' hgrow; have HBX := Lib.hid (HB2.out.trans (HB7.out.mono HB2.out.size)); have k2 := (HBX.out.cell (lt_of_cellq HK.out.2.2)).trans HK.out.2.2; go_wp2
      go_loopw [3, 5] (fun v i wr => ∃ k : Nat, k ≤ p.rs.length ∧ i = .int .i64 k ∧ Hid (wr.ownsRow w2.heap.size 9 1 v (p.ms.length + 2 + k) (stV (rowsB p k))) ∧ Hid (Below w2.heap.size w2 wr)) (fun _ i _ => p.rs.length - (intOf i).toNat)
      case atStart => exact ⟨0, Nat.zero_le _, rfl, Lib.hid (by rw [HVE.out, stV_append]; exact HO7.out), HB7⟩
      case round =>
        obtain ⟨k, hk, rfl, HO, HB⟩ := hrel; have HBW := Lib.hid (HB2.out.trans (HB.out.mono HB2.out.size)); have k2 := (HBW.out.cell (lt_of_cellq HK.out.2.2)).trans HK.out.2.2
        by_cases hlt : k < p.rs.length
        · obtain ⟨b, off, rfl, hc⟩ := ((HP.out.below HBW.out).rs).at hlt
          obtain ⟨d0, d1, d2, d3⟩ := hc k hlt; have hsm := HT.out.small.rs k hlt; have HST := Lib.hid (rowsB_succ p k hlt); obtain ⟨M, hM⟩ : ∃ M, gr p.rs k = M := ⟨_, rfl⟩; rw [hM] at d0 d1 d2 d3 hsm HST; obtain ⟨a, c, s, o⟩ := M; obtain ⟨w4, e4, HS4, y0, y1, y2, y3, b4⟩ := box4 wr (.int .i64 a) (.int .i64 c) (.int .i64 s) (.int .i64 o) 87; obtain ⟨w5, e5, HS5, z0, z1, z2, z3, b5⟩ := box4 w4 (.int .i64 a) (.int .i64 c) (.int .i64 s) (.int .i64 o) 3; have b45 := b4.trans (b5.mono b4.size)
          have hcl : Calls Tryz.prog 94 #[.string readW, .slice (some ⟨w4.heap.size, 0, none⟩) 4 4] w5 fun e w' => e = .returned (.string (rdR ⟨a, c, s, o⟩)) ∧ Below w5.heap.size w5 w' :=
            r_row readW (some ⟨w4.heap.size, 0, none⟩) 4 [a, c, s, o] w5 (by rw [← e5]; exact rd_lit w4 [a, c, s, o] 3) (by simp) hsm (by decide)
          have HO5 := Lib.hid (own_kept HO.out b45); have HB5 := Lib.hid (HB.out.trans (b45.mono HB.out.size)); clear hc hM hsm b4 b5 b45 z0 z1 z2 z3; go_wp2_with fail; refine hcl.mono ?_; clear hcl; rintro e w6 ⟨rfl, b6⟩; have HO6 := Lib.hid (own_kept HO5.out b6); have HB6 := Lib.hid (HB5.out.trans (b6.mono HB5.out.size)); clear b6 e4 e5; go_wp2_with (at_builtin; refine wpList_append_own _ rfl _ _ 82 rfl w2.heap.size 9 i0 _ 1 16 Tryz.underlying82 hi0 hy0 hy1 hy2 rfl (by decide) _ _ _ rfl (HO6.out.alloc _) ⟨w6.heap.size, 0, none⟩ 1 1 [.string (rdR ⟨a, c, s, o⟩)] rfl rfl ?c1 ?c2 ?c3 ?c4 ?c5 ?_)
          case c1 => exact news_of _ _ _
          case c2 => intro u hu; simp at hu; subst hu; rfl
          case c3 => unfold maxLen; omega
          case c4 => omega
          case c5 => have := HB6.out.size; simp; omega
          intro v' w7 hown' hgrow _; have HO7 := Lib.hid hown'; have HB7 := Lib.hid ((HB6.out.alloc HB6.out.size _).grown hgrow (by have := HB6.out.size; simp; omega) (fun j hj => (HO6.out.lt j hj).1)); clear hown' hgrow; go_wp2; go_roundw
          case rel => exact ⟨k + 1, by omega, by go_num, Lib.hid (by rw [HST.out, stV_append]; exact HO7.out), HB7⟩
          case measure => simp [intOf]; omega
        · obtain rfl : k = p.rs.length := by omega
          obtain ⟨n, hn⟩ : ∃ n, p.ms.length + 2 + p.rs.length = n := ⟨_, rfl⟩; have HON := Lib.hid (show wr.ownsRow w2.heap.size 9 1 u3 n (stV (rowsP p)) by rw [← rowsB_all, ← hn]; exact HO.out); have HLL := Lib.hid (show (rowsP p).length = n by rw [rowsP_len]; omega); have hn9 : n ≤ 902 := by omega
          have hn2 : 2 ≤ n := by omega
          obtain ⟨g, cap5, hv⟩ : ∃ g cap, u3 = .slice (some ⟨g, 0, none⟩) n cap := by
            have h := HON.out; obtain ⟨n', rfl⟩ : ∃ n', n = n' + 1 := ⟨n - 1, by omega⟩; exact own_form h
          subst hv; rw [show p.ms.length + 2 + p.rs.length = n from hn] at *
          have HCE := Lib.hid (show ∀ i, i < n → wr.cell? ⟨g, i, none⟩ = some (.string ((rowsP p).getD i ByteArray.empty)) from fun i hi' => by
            have h := HON.out.cells (g := g) rfl i _ (stV_get _ i (by rw [HLL.out]; exact hi'))
            rwa [add_new] at h)
          have HSZ := Lib.hid (show ∀ i, i < n → ((rowsP p).getD i ByteArray.empty).size ≤ 2500 from fun i hi' => rows_size HT.out i (by rw [HLL.out]; exact hi')); obtain ⟨ls, hls⟩ : ∃ ls, rowsP p = ls := ⟨_, rfl⟩; have HJL := Lib.hid (join_len HT.out); rw [hls] at HCE HSZ HLL HON HJL; have HLS := Lib.hid hls; clear hn hls HO; have HOS := Lib.hid (show ∀ k, k ≤ n → (outTo ls k).size ≤ k * 2501 from fun k hk => out_size ls (fun i hi => HSZ.out i (by rw [HLL.out] at hi; exact hi)) k (by rw [HLL.out]; exact hk)); go_wp2
          go_loopw [7, 8, 9] (fun t s i w4 => ∃ k : Nat, k ≤ n ∧ i = .int .i64 k ∧ s = .int .i64 (sumRows ls k) ∧ t = .string (outTo ls k) ∧ w4 = wr) (fun _ _ i _ => n - (intOf i).toNat)
          case atStart => exact ⟨0, Nat.zero_le _, rfl, rfl, rfl, rfl⟩
          case round =>
            rename_i w3
            obtain ⟨k, hk, rfl, rfl, rfl, rfl⟩ := hrel
            by_cases hlt : k < n
            · have hltI : decide ((k : Int) < (n : Int)) = true := by simp; omega
              have e1 := HCE.out k hlt; have hsk := HSZ.out k hlt; obtain ⟨l, hl⟩ : ∃ l, ls.getD k ByteArray.empty = l := ⟨_, rfl⟩; rw [hl] at e1 hsk; have HST := Lib.hid (show sumRows ls (k + 1) = sumRows ls k + rowSum k l l.size by simp only [sumRows]; rw [hl]); have hsr := sumRows_range ls (fun i hi' => HSZ.out i (by rw [HLL.out] at hi'; exact hi')) (by rw [HLL.out]; omega) k (by rw [HLL.out]; omega); have HSR := Lib.hid (show 0 ≤ sumRows ls k ∧ sumRows ls k ≤ 2000000000000000 by omega); obtain ⟨S, hS⟩ : ∃ S, sumRows ls k = S := ⟨_, rfl⟩; rw [hS] at HST HSR ⊢; have hos := HOS.out k (by omega); have HOT := Lib.hid (show outTo ls (k + 1) = outTo ls k ++ l ++ ⟨#[10]⟩ by simp only [outTo]; rw [hl]); obtain ⟨T, hT⟩ : ∃ T, outTo ls k = T := ⟨_, rfl⟩; rw [hT] at hos HOT; rw [hT]; have hz1 : ¬ 9223372036854775807 < T.size + l.size := by omega
              have hz2 : ¬ 9223372036854775807 < T.size + l.size + 1 := by omega
              clear hos hT; clear hl hsr hS; go_wp2
              go_loopw [8, 10] (fun s i w5 => ∃ j : Nat, j ≤ l.size ∧ i = .int .i64 j ∧ s = .int .i64 (S + rowSum k l j) ∧ w5 = wr) (fun _ i _ => l.size - (intOf i).toNat)
              case atStart => exact ⟨0, Nat.zero_le _, rfl, by simp [rowSum], rfl⟩
              case round =>
                obtain ⟨j, hj, rfl, rfl, rfl⟩ := hrel
                by_cases hjl : j < l.size
                · have hjlI : decide ((j : Int) < (l.size : Int)) = true := by simp; omega
                  have hix := ix_byte l j hjl; have hby := byteAt_range l j; have hrs := rowSum_range k (by omega) l j (by omega); have hSR := HSR.out; have HRS := Lib.hid (show rowSum k l (j + 1) = rowSum k l j + byteAt l j * ((j : Int) + 1) * ((k : Int) + 1) from rfl); obtain ⟨B, hB⟩ : ∃ B, byteAt l j = B := ⟨_, rfl⟩; obtain ⟨R, hR⟩ : ∃ R, rowSum k l j = R := ⟨_, rfl⟩; rw [hB] at hix hby HRS; rw [hR] at hrs HRS; have hm1 : 0 ≤ B * ((j : Int) + 1) ∧ B * ((j : Int) + 1) ≤ 255 * 2501 := ⟨Int.mul_nonneg hby.1 (by omega), Int.mul_le_mul hby.2 (by omega) (by omega) (by omega)⟩; have hm2 : 0 ≤ B * ((j : Int) + 1) * ((k : Int) + 1) ∧ B * ((j : Int) + 1) * ((k : Int) + 1) ≤ (255 * 2501) * 1001 := ⟨Int.mul_nonneg hm1.1 (by omega), Int.mul_le_mul hm1.2 (by omega) (by omega) (by omega)⟩; have hw0 : IntKind.i64.wrap B = B := w64 _ (by omega) (by omega); have hw1 : IntKind.i64.wrap (B * ((j : Int) + 1)) = B * ((j : Int) + 1) := w64 _ (by omega) (by omega)
                  have hw2 : IntKind.i64.wrap (B * ((j : Int) + 1) * ((k : Int) + 1)) = B * ((j : Int) + 1) * ((k : Int) + 1) := w64 _ (by omega) (by omega); have hw3 : IntKind.i64.wrap (S + R + B * ((j : Int) + 1) * ((k : Int) + 1)) = S + R + B * ((j : Int) + 1) * ((k : Int) + 1) := w64 _ (by omega) (by omega); rw [hR]; go_wp2; go_roundw
                  case rel => exact ⟨j + 1, by omega, by go_num, by rw [HRS.out, Int.add_assoc], trivial⟩
                  case measure => simp [intOf]; omega
                · obtain rfl : j = l.size := by omega
                  have hjlI : decide ((l.size : Int) < (l.size : Int)) = false := by simp
                  go_wp2; go_roundw
                  case rel => exact ⟨k + 1, by omega, by go_num, by rw [HST.out], by rw [HOT.out], trivial⟩
                  case measure => simp [intOf]; omega
            · obtain rfl : k = n := by omega
              have hltI : decide ((k : Int) < (k : Int)) = false := by simp
              have hsr := sumRows_range ls (fun i hi' => HSZ.out i (by rw [HLL.out] at hi'; exact hi')) (by rw [HLL.out]; omega) k (by rw [HLL.out]; omega); obtain ⟨S, hS⟩ : ∃ S, sumRows ls k = S := ⟨_, rfl⟩; rw [hS] at hsr ⊢; obtain ⟨s, hs⟩ : ∃ s : Nat, S = s := ⟨S.toNat, by omega⟩; subst hs; have HS := Lib.hid (show sumRows ls ls.length = (s : Int) by rw [HLL.out]; exact hS); obtain ⟨tt, htt⟩ : ∃ tt : Nat, s % 113 = tt := ⟨_, rfl⟩; obtain ⟨a, ha⟩ : ∃ a : Nat, tt / 100 = a := ⟨_, rfl⟩; obtain ⟨e, he⟩ : ∃ e : Nat, tt / 10 = e := ⟨_, rfl⟩; obtain ⟨b, hb⟩ : ∃ b : Nat, e % 10 = b := ⟨_, rfl⟩; obtain ⟨c, hc⟩ : ∃ c : Nat, tt % 10 = c := ⟨_, rfl⟩; have ba : a < 100 := by omega
              have bb : b < 100 := by omega
              have bc : c < 100 := by omega
              have hd1 := dec_le a ba; have hd2 := dec_le b bb; have hd3 := dec_le c bc; have hq0 : Int.tmod (s : Int) 113 = (tt : Int) := tmodN s 113 tt htt; have hr0 : (s : Int) % 113 = (tt : Int) := by omega
              have hr1 : (tt : Int) / 100 = (a : Int) := by omega
              have hr2 : (tt : Int) / 10 = (e : Int) := by omega
              have hr3 : (e : Int) % 10 = (b : Int) := by omega
              have hr4 : (tt : Int) % 10 = (c : Int) := by omega
              have HEND := Lib.hid (out_end ls (by intro hc; have := HLL.out; rw [hc] at this; simp at this; omega) s tt a e b c HS.out htt ha he hb hc); have HTX := Lib.hid (show textP p = txtF ls by unfold textP; rw [HLS.out]); have hos := HOS.out k (Nat.le_refl _); rw [HLL.out] at HEND; obtain ⟨T, hT⟩ : ∃ T, outTo ls k = T := ⟨_, rfl⟩; rw [hT] at HEND hos; rw [hT]; have h1 := r_decNat a (by omega); have h2 := r_decNat b (by omega); have h3 := r_decNat c (by omega); obtain ⟨A, hA⟩ : ∃ A : ByteArray, (⟨(Lib.decDigits a).toArray⟩ : ByteArray) = A := ⟨_, rfl⟩; obtain ⟨B, hB⟩ : ∃ B : ByteArray, (⟨(Lib.decDigits b).toArray⟩ : ByteArray) = B := ⟨_, rfl⟩; obtain ⟨C, hC⟩ : ∃ C : ByteArray, (⟨(Lib.decDigits c).toArray⟩ : ByteArray) = C := ⟨_, rfl⟩; have zA : A.size ≤ 2 := by rw [← hA]; exact hd1
              have zB : B.size ≤ 2 := by rw [← hB]; exact hd2
              have zC : C.size ≤ 2 := by rw [← hC]; exact hd3
              rw [hA] at h1; rw [hB] at h2; rw [hC] at h3; rw [hA, hB, hC] at HEND; have hl1 : ¬ 9223372036854775807 < T.size + 4 := by omega
              have hl2 : ¬ 9223372036854775807 < T.size + 4 + A.size := by omega
              have hl3 : ¬ 9223372036854775807 < T.size + 4 + A.size + B.size := by omega
              have hl4 : ¬ 9223372036854775807 < T.size + 4 + A.size + B.size + C.size := by omega
              have hl5 : ¬ 9223372036854775807 < T.size + 4 + A.size + B.size + C.size + 1 := by omega
              have HBF := Lib.hid (HB1.out.trans ((HB2.out.trans (HB.out.mono HB2.out.size)).mono HB1.out.size)); have H1 := Lib.hid h1; have H2 := Lib.hid h2; have H3 := Lib.hid h3; clear htt ha he hb hc hA hB hC hd1 hd2 hd3 zA zB zC hS hsr hT hos h1 h2 h3; go_wp2_with fail; refine (H1.out _).mono ?_; rintro e1 w5 ⟨rfl, hb5⟩; have HB5 := Lib.hid (HBF.out.trans (hb5.mono HBF.out.size)); clear hb5; go_wp2_with fail; refine (H2.out _).mono ?_; rintro e1 w6 ⟨rfl, hb6⟩; have HB6 := Lib.hid (HB5.out.trans (hb6.mono HB5.out.size)); clear hb6; go_wp2_with fail; refine (H3.out _).mono ?_; rintro e1 w7 ⟨rfl, hb7⟩; have HB7 := Lib.hid (HB6.out.trans (hb7.mono HB6.out.size)); clear hb7; go_wp2; go_ret; refine ⟨?_, HB7.out⟩; rw [HTX.out, ← HEND.out]; rfl
end Go.Proofs.YtbknfddaoolagaaGreatDoor
end

section
namespace Go.Proofs.YtbknfddaoolagaaGreatDoor
open Go Go.RowKit Go.Proofs Go.Shelf
set_option linter.unusedVariables false

theorem RdSt.below {w w' : World} {p : Option Addr} {ls : List ByteArray} (h : RdSt w p ls) (hb : Below w.heap.size w w') : RdSt w' p ls := by
  obtain ⟨b, rfl, h⟩ := h; exact ⟨b, rfl, fun i hi => (hb.cell (lt_of_cellq (h i hi))).trans (h i hi)⟩
theorem rdt_of_own {w : World} {B n : Nat} {v : Value} {ls : List ByteArray} (h : w.ownsRow B 9 1 v (n + 1) (stV ls)) (hl : ls.length = n + 1) : ∃ g cap, v = .slice (some ⟨g, 0, none⟩) (n + 1) cap ∧ RdSt w (some ⟨g, 0, none⟩) ls ∧ n + 1 ≤ cap := by
  obtain ⟨g, cap, rfl⟩ := ownsRow_succ h
  have hcap : n + 1 ≤ cap := by
    rcases h.2 with ⟨h1, _⟩ | ⟨_, _, _, h1, _, _, h2, _⟩
    · cases h1
    · cases h1; exact h2
  refine ⟨g, cap, rfl, ⟨g, rfl, fun i hi => ?_⟩, hcap⟩; have := h.cells (g := g) rfl i _ (stV_get ls i hi)
  rwa [add_new] at this

def CutAt (c : UInt8) (s : ByteArray) (done : List ByteArray) (m k : Nat) : Prop := cutL c s.data.toList = done.map (·.data.toList) ++ pre (s.extract m k).data.toList (cutL c (s.data.toList.drop k))
theorem cutAt_start (c : UInt8) (s : ByteArray) : CutAt c s [] 0 0 := by
  unfold CutAt; rw [Lib.extract_data]; simp [pre_nil]
theorem drop_byte {s : ByteArray} {k : Nat} (hk : k < s.size) : s.data.toList.drop k = s.data.getD k 0 :: s.data.toList.drop (k + 1) := by
  have hk' : k < s.data.toList.length := by rw [← size_toList]; exact hk
  have e : s.data.getD k 0 = s.data.toList[k] := by
    unfold Array.getD; rw [dif_pos (show k < s.data.size from hk)]; simp
  rw [List.drop_eq_getElem_cons hk', e]
theorem cutAt_hit {c : UInt8} {s : ByteArray} {done : List ByteArray} {m k : Nat} (h : CutAt c s done m k) (hk : k < s.size) (hc : s.data.getD k 0 = c) : CutAt c s (done ++ [s.extract m k]) (k + 1) (k + 1) := by
  unfold CutAt at h ⊢; rw [drop_byte hk, hc, pre_hit] at h; rw [h, Lib.extract_data s (k + 1) (k + 1), Nat.sub_self, List.take_zero, pre_nil, List.map_append]
  simp
theorem cutAt_other {c : UInt8} {s : ByteArray} {done : List ByteArray} {m k : Nat} (h : CutAt c s done m k) (hk : k < s.size) (hm : m ≤ k) (hc : s.data.getD k 0 ≠ c) : CutAt c s done m (k + 1) := by
  unfold CutAt at h ⊢; rw [drop_byte hk, pre_other hc] at h; rw [h]
  congr 2
  rw [Lib.extract_data, Lib.extract_data, show k + 1 - m = (k - m) + 1 by omega]; have hk' : k - m < (s.data.toList.drop m).length := by rw [List.length_drop, ← size_toList]; omega
  rw [List.take_succ_eq_append_getElem hk']
  congr 2
  rw [List.getElem_drop]
  have e : s.data.getD k 0 = s.data.toList[k]'(by rw [← size_toList]; exact hk) := by
    unfold Array.getD; rw [dif_pos (show k < s.data.size from hk)]; simp
  rw [e]
  congr 1
  omega
theorem cutAt_end {c : UInt8} {s : ByteArray} {done : List ByteArray} {m : Nat} (h : CutAt c s done m s.size) : partsF c s = done ++ [s.extract m s.size] := by
  unfold CutAt at h; have e : s.data.toList.drop s.size = [] := by rw [size_toList]; simp
  rw [e, pre_end] at h; unfold partsF; rw [h, List.map_append, List.map_map]; have : (mkB ∘ fun x : ByteArray => x.data.toList) = id := by funext x; exact mkB_data x
  rw [this, List.map_id, List.map_cons, mkB_data]
  rfl
theorem byte_eq {c : UInt8} {cn : Int} (hc : cn = (c.toNat : Int)) (s : ByteArray) (k : Nat) : (byteAt s k == cn) = (s.data.getD k 0 == c) := by
  subst hc; unfold byteAt; rw [Bool.eq_iff_iff, beq_iff_eq, beq_iff_eq]
  constructor
  · intro h; exact UInt8.toNat_inj.1 (by omega)
  · intro h; rw [h]

set_option maxRecDepth 100000 in
theorem r_split (s : ByteArray) (c : UInt8) (cn : Int) (hc : cn = (c.toNat : Int)) (hs : s.size ≤ 1000) (w : World) :
    Calls Tryz.prog 42 #[.string s, .int .u8 cn] w fun e w' => (∃ g cap, w.heap.size ≤ g ∧ e = .returned (.slice (some ⟨g, 0, none⟩) (partsF c s).length cap) ∧ RdSt w' (some ⟨g, 0, none⟩) (partsF c s) ∧ (partsF c s).length ≤ cap) ∧ Below w.heap.size w w' := by
  obtain ⟨i0, hi0, hy0, hy1, hy2⟩ := info_parts infStr; have HC := Lib.hid hc; obtain ⟨ps, hps⟩ : ∃ ps, partsF c s = ps := ⟨_, rfl⟩; obtain ⟨L, hL⟩ : ∃ L, ps.length = L := ⟨_, rfl⟩; rw [hps, hL]; have HPS := Lib.hid hps; have HL0 := Lib.hid hL; clear hc hps hL
  go_enter Tryz.func42, Tryz.ntmps42
  go_wp2
  go_loopw [5, 6, 7] (fun v f i wr => ∃ (k m n : Nat) (done : List ByteArray), k ≤ s.size ∧ m ≤ k ∧ n ≤ k ∧ f = .int .i64 m ∧ i = .int .i64 k ∧ Hid (wr.ownsRow w.heap.size 9 1 v n (stV done)) ∧ Hid (done.length = n) ∧ Hid (Below w.heap.size w wr) ∧ Hid (CutAt c s done m k)) (fun _ _ i _ => s.size - (intOf i).toNat)
  case atStart => exact ⟨0, 0, 0, [], Nat.zero_le _, Nat.le_refl _, Nat.le_refl _, rfl, rfl, Lib.hid (World.ownsRow_nil _ _ _ _), Lib.hid rfl, Lib.hid (Below.refl _ _), Lib.hid (cutAt_start c s)⟩
  case round =>
    obtain ⟨k, m, n, done, hk, hm, hn, rfl, rfl, HO, HL, HB, HD⟩ := hrel
    by_cases hlt : k < s.size
    · have hltI : decide ((k : Int) < (s.size : Int)) = true := by simp; omega
      have hix := ix_byte s k hlt wr; have hbe := byte_eq HC.out s k
      cases ht : (s.data.getD k 0 == c) with
      | false =>
        rw [ht] at hbe; have HD2 := Lib.hid (cutAt_other HD.out hlt hm (by simpa using ht)); clear ht; go_wp2; go_roundw
        case rel => exact ⟨k + 1, m, n, done, by omega, by omega, by omega, rfl, by go_num, HO, HL, HB, HD2⟩
        case measure => simp [intOf]; omega
      | true =>
        rw [ht] at hbe; have HD2 := Lib.hid (cutAt_hit HD.out hlt (by simpa using ht)); clear ht; go_wp2_with (at_builtin; refine wpList_append_own _ rfl _ _ 82 rfl w.heap.size 9 i0 _ 1 16 Tryz.underlying82 hi0 hy0 hy1 hy2 rfl (by decide) _ _ _ rfl (HO.out.alloc _) ⟨wr.heap.size, 0, none⟩ 1 1 [.string (s.extract m k)] rfl rfl ?c1 ?c2 ?c3 ?c4 ?c5 ?_)
        case c1 => exact news_of _ _ _
        case c2 => intro u hu; simp at hu; subst hu; rfl
        case c3 => unfold maxLen; omega
        case c4 => omega
        case c5 => have := HB.out.size; simp; omega
        intro v' w3 hown' hgrow _; have hlt' := HO.out.lt; have HB3 := Lib.hid (HB.out.trans (((Below.refl w.heap.size wr).alloc HB.out.size _).grown hgrow (by have := HB.out.size; simp; omega) (fun j hj => (hlt' j hj).1))); have HO3 := Lib.hid hown'; clear hown' hgrow hlt'; go_wp2; go_roundw
        case rel => exact ⟨k + 1, k + 1, n + 1, done ++ [s.extract m k], by omega, Nat.le_refl _, by omega, by go_num, by go_num, Lib.hid (by rw [stV_append]; exact HO3.out), Lib.hid (by rw [List.length_append, HL.out]; rfl), HB3, HD2⟩
        case measure => simp [intOf]; omega
    · obtain rfl : k = s.size := by omega
      have hltI : decide ((s.size : Int) < (s.size : Int)) = false := by simp
      have HE := Lib.hid (cutAt_end HD.out); obtain rfl : L = n + 1 := by rw [← HL0.out, ← HPS.out, HE.out, List.length_append, HL.out]; rfl
      go_wp2_with (at_builtin; refine wpList_append_own _ rfl _ _ 82 rfl w.heap.size 9 i0 _ 1 16 Tryz.underlying82 hi0 hy0 hy1 hy2 rfl (by decide) _ _ _ rfl (HO.out.alloc _) ⟨wr.heap.size, 0, none⟩ 1 1 [.string (s.extract m s.size)] rfl rfl ?c1 ?c2 ?c3 ?c4 ?c5 ?_)
      case c1 => exact news_of _ _ _
      case c2 => intro u hu; simp at hu; subst hu; rfl
      case c3 => unfold maxLen; omega
      case c4 => omega
      case c5 => have := HB.out.size; simp; omega
      intro v' w3 hown' hgrow _; have hlt' := HO.out.lt; have HB3 := Lib.hid (HB.out.trans (((Below.refl w.heap.size wr).alloc HB.out.size _).grown hgrow (by have := HB.out.size; simp; omega) (fun j hj => (hlt' j hj).1))); obtain ⟨g, cap, hv, hrd, hcap⟩ := rdt_of_own (ls := ps) (n := n) (by rw [← HPS.out, HE.out, stV_append]; exact hown') HL0.out; subst hv; have HRD := Lib.hid hrd; have HCAP := Lib.hid hcap; have HG := Lib.hid (hown'.lt g rfl).1; clear hown' hgrow hlt' hrd hcap; go_wp2; go_ret; exact ⟨⟨g, cap, HG.out, rfl, HRD.out, HCAP.out⟩, HB3.out⟩
end Go.Proofs.YtbknfddaoolagaaGreatDoor
end

section
namespace Go.Proofs.YtbknfddaoolagaaGreatDoor
open Go Go.RowKit Go.Proofs Go.Shelf
set_option linter.unusedVariables false
set_option linter.unusedSimpArgs false

theorem hasM_byte {x : ByteArray} (h : 0 < x.size) : hasM x = (byteAt x 0 == 45) := by
  have hk : 0 < x.data.toList.length := by rw [← size_toList]; exact h
  have e : x.data.getD 0 0 = x.data.toList[0] := by
    unfold Array.getD; rw [dif_pos (show 0 < x.data.size from h)]; simp
  unfold hasM byteAt; rw [e, List.head?_eq_getElem?, List.getElem?_eq_getElem hk, Bool.eq_iff_iff, decide_eq_true_iff, beq_iff_eq]
  constructor
  · intro hh; rw [Option.some.inj hh]; rfl
  · intro hh; congr 1; exact UInt8.toNat_inj.1 (by have : (45 : UInt8).toNat = 45 := rfl; omega)
def NumRPost (x : ByteArray) (w : World) (e : Ending) (w' : World) : Prop := ∃ n b, e = .returned (.tuple #[.int .i64 n, .bool b]) ∧ (if b = true then numG x = some n else numG x = none) ∧ Below w.heap.size w w'
set_option maxRecDepth 100000 in
set_option maxHeartbeats 1200000 in
theorem r_number (x : ByteArray) (w : World) (hx : x.size ≤ 1000000) : Calls Tryz.prog 93 #[.string x] w (NumRPost x w) := by
  have HIF := Lib.hid (@numG_if x); have HBAD := Lib.hid (@numG_bad x); have HVS := Lib.hid (show valS x = if hasM x = true then -valT (digG x) (digG x).size else valT (digG x) (digG x).size from rfl); have hds := dig_size x; obtain ⟨d, hd0⟩ : ∃ d, digG x = d := ⟨_, rfl⟩; rw [hd0] at HIF HBAD HVS hds
  cases hm : hasM x with
  | true =>
    have hxp := hasM_pos hm; have hsz : d.size = x.size - 1 := by rw [hds, hm]; simp
    rw [hm] at HVS; simp only [if_true] at HVS
    have hb0 : byteAt x 0 = 45 := by
      have h := hasM_byte hxp; rw [hm] at h; exact eq_of_beq h.symm
    have hix0 : (Instr.index 9 (.string x) (.int .i64 0)).run Tryz.prog w = .ok (.int .u8 (byteAt x 0)) w := ix_byte x 0 hxp w; rw [hb0] at hix0; have hde : x.extract 1 x.size = d := by rw [← hd0]; unfold digG; rw [if_pos hm]
    have hpos : decide ((x.size : Int) > 0) = true := decide_eq_true (by omega); have hxn : ¬ x = ByteArray.empty := by rintro rfl; exact absurd hxp (by decide)
    have hxn2 : decide (0 < x.size) = true := decide_eq_true hxp; have HSZ := Lib.hid hsz; have HXP := Lib.hid hxp; clear hds hd0 hm hb0 hsz
    go_enter Tryz.func93, Tryz.ntmps93
    by_cases h0 : d.size = 0
    · have HN := Lib.hid (HBAD.out (.inl h0))
      obtain rfl : d = ByteArray.empty := by
        apply ba_inj; rw [show d.data.toList = [] from List.length_eq_zero_iff.1 (by rw [← size_toList]; exact h0)]; rfl
      clear h0; go_wp2; go_ret2; exact ⟨_, _, rfl, by rw [if_neg (by simp)]; exact HN.out, Below.refl _ _⟩
    by_cases h4 : 4 < d.size
    · have HN := Lib.hid (HBAD.out (.inr (.inl h4)))
      have h0I : ((d.size : Int) == 0) = false := by rw [beq_eq_false_iff_ne]; omega
      have h4I : decide ((d.size : Int) > 4) = true := decide_eq_true (by omega); clear h0 h4; go_wp2; go_ret2; exact ⟨_, _, rfl, by rw [if_neg (by simp)]; exact HN.out, Below.refl _ _⟩
    have h0I : ((d.size : Int) == 0) = false := by rw [beq_eq_false_iff_ne]; omega
    have h4I : decide ((d.size : Int) > 4) = false := decide_eq_false (by omega); have H4 := Lib.hid (show d.size ≤ 4 by omega); have H0 := Lib.hid h0; have hdn : ¬ d = ByteArray.empty := by rintro rfl; exact h0 rfl
    clear h0 h4; go_wp2
    go_loopw [5, 6] (fun a v wx => ∃ k : Nat, k ≤ d.size ∧ a = .int .i64 (valT d k) ∧ v = .int .i64 k ∧ Hid (DigTo d k) ∧ w = wx) (fun _ v _ => d.size - (intOf v).toNat)
    case atStart => exact ⟨0, Nat.zero_le _, rfl, rfl, Lib.hid (fun i h => by omega), rfl⟩
    case round =>
      obtain ⟨k, hk, rfl, rfl, HD, rfl⟩ := hrel; have hv := valT_range d k (by have := H4.out; omega) HD.out; have hpw := pow4 (k := k) (by have := H4.out; omega); have hk4 : k ≤ 4 := by have := H4.out; omega
      clear h0I h4I
      by_cases hlt : k < d.size
      · have hltI : decide ((k : Int) < (d.size : Int)) = true := by simp; omega
        have hix := ix_byte d k hlt w; have hby := byteAt_range d k; have HV := Lib.hid (show valT d (k + 1) = 10 * valT d k + (byteAt d k - 48) from rfl); obtain ⟨b, hb⟩ : ∃ b, byteAt d k = b := ⟨_, rfl⟩; have HBE := Lib.hid hb; rw [hb] at hix hby HV; obtain ⟨v, hve⟩ : ∃ v, valT d k = v := ⟨_, rfl⟩; rw [hve] at hv HV; rw [hve]; clear hb hve
        by_cases hd : 48 ≤ b ∧ b ≤ 57
        · have hd1 : decide (b < 48) = false := by simp; omega
          have hd2 : decide (b > 57) = false := by simp; omega
          have hw1 : IntKind.i64.wrap (10 * v) = 10 * v := w64 _ (by omega) (by omega); have hw2 : IntKind.u8.wrap (b - 48) = b - 48 := by rw [IntKind.wrap_u8]; omega
          have hw3 : IntKind.i64.wrap (b - 48) = b - 48 := w64 _ (by omega) (by omega); have hw4 : IntKind.i64.wrap (10 * v + (b - 48)) = 10 * v + (b - 48) := w64 _ (by omega) (by omega)
          have HD2 := Lib.hid (show DigTo d (k + 1) from fun i hi => by
            by_cases h : i < k
            · exact HD.out i h
            · obtain rfl : i = k := by omega
              rw [HBE.out]; exact hd)
          clear hd; go_wp2; go_roundw
          case rel => exact ⟨k + 1, by omega, by rw [HV.out], by go_num, HD2, trivial⟩
          case measure => simp [intOf]; omega
        · have HN := Lib.hid (HBAD.out (.inr (.inr (fun h => hd (by rw [← HBE.out]; exact h k hlt)))))
          by_cases hd1 : b < 48
          · have hd1I : decide (b < 48) = true := by simp; omega
            go_wp2; go_ret2; exact ⟨_, _, rfl, by rw [if_neg (by simp)]; exact HN.out, Below.refl _ _⟩
          · have hd1I : decide (b < 48) = false := by simp; omega
            have hd2I : decide (b > 57) = true := by simp; omega
            go_wp2; go_ret2; exact ⟨_, _, rfl, by rw [if_neg (by simp)]; exact HN.out, Below.refl _ _⟩
      · obtain rfl : k = d.size := by omega
        have hltI : decide ((d.size : Int) < (d.size : Int)) = false := by simp
        have HIG := Lib.hid (HIF.out H0.out H4.out HD.out); obtain ⟨v, hve⟩ : ∃ v, valT d d.size = v := ⟨_, rfl⟩; rw [hve] at hv HVS; rw [hve]; have hneg : IntKind.i64.wrap (-v) = -v := w64 _ (by omega) (by omega); have hlx : decide ((d.size : Int) < (x.size : Int)) = true := decide_eq_true (by have := HSZ.out; have := HXP.out; omega); have hlx2 : (d.size : Int) < (x.size : Int) := of_decide_eq_true hlx; obtain ⟨V, hV⟩ : ∃ V, -v = V := ⟨_, rfl⟩; have HVV := Lib.hid (show valS x = V by rw [HVS.out, hV]); have hvr : -9999 ≤ V ∧ V ≤ 9999 := by omega
        have hneg2 : IntKind.i64.wrap (-v) = V := by rw [hneg, hV]
        clear hneg; have HDEC := Lib.hid (r_Decimal V hvr); clear hv hpw hve hV hvr hk hlt; go_wp2_with fail; refine (HDEC.out _).mono ?_; rintro e w' ⟨rfl, hb⟩; have HB := Lib.hid hb; clear hb
        by_cases he : itoB V = x
        · have HN := Lib.hid (show numG x = some V by rw [HIG.out, HVV.out, if_pos he])
          have hne := beq_yes he; obtain ⟨t, ht⟩ : ∃ t, itoB V = t := ⟨_, rfl⟩; rw [ht] at hne ⊢; clear he ht; go_wp2; go_ret2; exact ⟨_, _, rfl, by rw [if_pos rfl]; exact HN.out, HB.out⟩
        · have HN := Lib.hid (show numG x = none by rw [HIG.out, HVV.out, if_neg he])
          have hne := beq_no he; obtain ⟨t, ht⟩ : ∃ t, itoB V = t := ⟨_, rfl⟩; rw [ht] at hne ⊢; clear he ht; go_wp2; go_ret2; exact ⟨_, _, rfl, by rw [if_neg (by simp)]; exact HN.out, HB.out⟩

  | false =>
    have hsz : d.size = x.size := by rw [hds, hm]; simp
    rw [hm] at HVS; simp only [Bool.false_eq_true, if_false] at HVS; have hde : x = d := by rw [← hd0]; unfold digG; rw [if_neg (by rw [hm]; simp)]
    rcases Nat.eq_zero_or_pos x.size with hz | hxp
    · have hpos : decide ((x.size : Int) > 0) = false := decide_eq_false (by omega)
      subst hde; clear hds hd0 hm hsz
      obtain rfl : x = ByteArray.empty := by
        apply ba_inj; rw [show x.data.toList = [] from List.length_eq_zero_iff.1 (by rw [← size_toList]; exact hz)]; rfl
      go_enter Tryz.func93, Tryz.ntmps93
      have HN := Lib.hid (HBAD.out (.inl hz)); clear hz hpos; go_wp2; go_ret2; exact ⟨_, _, rfl, by rw [if_neg (by simp)]; exact HN.out, Below.refl _ _⟩
    have hb0 : (byteAt x 0 == 45) = false := by
      have h := hasM_byte hxp; rw [hm] at h; exact h.symm
    have hix0 : (Instr.index 9 (.string x) (.int .i64 0)).run Tryz.prog w = .ok (.int .u8 (byteAt x 0)) w := ix_byte x 0 hxp w; obtain ⟨b0, hbe⟩ : ∃ b0, byteAt x 0 = b0 := ⟨_, rfl⟩; rw [hbe] at hb0 hix0; have hpos : decide ((x.size : Int) > 0) = true := decide_eq_true (by omega); have hxn : ¬ x = ByteArray.empty := by rintro rfl; exact absurd hxp (by decide)
    have hxn2 : decide (0 < x.size) = true := decide_eq_true hxp; subst hde; clear hds hd0 hm hbe hsz
    go_enter Tryz.func93, Tryz.ntmps93
    have h0 : ¬ x.size = 0 := by omega
    by_cases h4 : 4 < x.size
    · have HN := Lib.hid (HBAD.out (.inr (.inl h4)))
      have h0I : ((x.size : Int) == 0) = false := by rw [beq_eq_false_iff_ne]; omega
      have h4I : decide ((x.size : Int) > 4) = true := decide_eq_true (by omega); clear h0 h4; go_wp2; go_ret2; exact ⟨_, _, rfl, by rw [if_neg (by simp)]; exact HN.out, Below.refl _ _⟩
    have h0I : ((x.size : Int) == 0) = false := by rw [beq_eq_false_iff_ne]; omega
    have h4I : decide ((x.size : Int) > 4) = false := decide_eq_false (by omega); have H4 := Lib.hid (show x.size ≤ 4 by omega); have H0 := Lib.hid h0; clear h0 h4; go_wp2
    go_loopw [5, 6] (fun a v wx => ∃ k : Nat, k ≤ x.size ∧ a = .int .i64 (valT x k) ∧ v = .int .i64 k ∧ Hid (DigTo x k) ∧ w = wx) (fun _ v _ => x.size - (intOf v).toNat)
    case atStart => exact ⟨0, Nat.zero_le _, rfl, rfl, Lib.hid (fun i h => by omega), rfl⟩
    case round =>
      obtain ⟨k, hk, rfl, rfl, HD, rfl⟩ := hrel; have hv := valT_range x k (by have := H4.out; omega) HD.out; have hpw := pow4 (k := k) (by have := H4.out; omega); have hk4 : k ≤ 4 := by have := H4.out; omega
      clear h0I h4I
      by_cases hlt : k < x.size
      · have hltI : decide ((k : Int) < (x.size : Int)) = true := by simp; omega
        have hix := ix_byte x k hlt w; have hby := byteAt_range x k; have HV := Lib.hid (show valT x (k + 1) = 10 * valT x k + (byteAt x k - 48) from rfl); obtain ⟨b, hb⟩ : ∃ b, byteAt x k = b := ⟨_, rfl⟩; have HBE := Lib.hid hb; rw [hb] at hix hby HV; obtain ⟨v, hve⟩ : ∃ v, valT x k = v := ⟨_, rfl⟩; rw [hve] at hv HV; rw [hve]; clear hb hve
        by_cases hd : 48 ≤ b ∧ b ≤ 57
        · have hd1 : decide (b < 48) = false := by simp; omega
          have hd2 : decide (b > 57) = false := by simp; omega
          have hw1 : IntKind.i64.wrap (10 * v) = 10 * v := w64 _ (by omega) (by omega); have hw2 : IntKind.u8.wrap (b - 48) = b - 48 := by rw [IntKind.wrap_u8]; omega
          have hw3 : IntKind.i64.wrap (b - 48) = b - 48 := w64 _ (by omega) (by omega); have hw4 : IntKind.i64.wrap (10 * v + (b - 48)) = 10 * v + (b - 48) := w64 _ (by omega) (by omega)
          have HD2 := Lib.hid (show DigTo x (k + 1) from fun i hi => by
            by_cases h : i < k
            · exact HD.out i h
            · obtain rfl : i = k := by omega
              rw [HBE.out]; exact hd)
          clear hd; go_wp2; go_roundw
          case rel => exact ⟨k + 1, by omega, by rw [HV.out], by go_num, HD2, trivial⟩
          case measure => simp [intOf]; omega
        · have HN := Lib.hid (HBAD.out (.inr (.inr (fun h => hd (by rw [← HBE.out]; exact h k hlt)))))
          by_cases hd1 : b < 48
          · have hd1I : decide (b < 48) = true := by simp; omega
            go_wp2; go_ret2; exact ⟨_, _, rfl, by rw [if_neg (by simp)]; exact HN.out, Below.refl _ _⟩
          · have hd1I : decide (b < 48) = false := by simp; omega
            have hd2I : decide (b > 57) = true := by simp; omega
            go_wp2; go_ret2; exact ⟨_, _, rfl, by rw [if_neg (by simp)]; exact HN.out, Below.refl _ _⟩
      · obtain rfl : k = x.size := by omega
        have hltI : decide ((x.size : Int) < (x.size : Int)) = false := by simp
        have HIG := Lib.hid (HIF.out H0.out H4.out HD.out); obtain ⟨v, hve⟩ : ∃ v, valT x x.size = v := ⟨_, rfl⟩; rw [hve] at hv HVS; rw [hve]; have hlx : decide ((x.size : Int) < (x.size : Int)) = false := decide_eq_false (by omega); have hlx2 : ¬ (x.size : Int) < (x.size : Int) := of_decide_eq_false hlx; obtain ⟨V, hV⟩ : ∃ V, v = V := ⟨_, rfl⟩; have HVV := Lib.hid (show valS x = V by rw [HVS.out, hV]); have hvr : -9999 ≤ V ∧ V ≤ 9999 := by omega
        rw [hV]; have HDEC := Lib.hid (r_Decimal V hvr); clear hv hpw hve hV hvr hk hlt; go_wp2_with fail; refine (HDEC.out _).mono ?_; rintro e w' ⟨rfl, hb⟩; have HB := Lib.hid hb; clear hb
        by_cases he : itoB V = x
        · have HN := Lib.hid (show numG x = some V by rw [HIG.out, HVV.out, if_pos he])
          have hne := beq_yes he; obtain ⟨t, ht⟩ : ∃ t, itoB V = t := ⟨_, rfl⟩; rw [ht] at hne ⊢; clear he ht; go_wp2; go_ret2; exact ⟨_, _, rfl, by rw [if_pos rfl]; exact HN.out, HB.out⟩
        · have HN := Lib.hid (show numG x = none by rw [HIG.out, HVV.out, if_neg he])
          have hne := beq_no he; obtain ⟨t, ht⟩ : ∃ t, itoB V = t := ⟨_, rfl⟩; rw [ht] at hne ⊢; clear he ht; go_wp2; go_ret2; exact ⟨_, _, rfl, by rw [if_neg (by simp)]; exact HN.out, HB.out⟩

end Go.Proofs.YtbknfddaoolagaaGreatDoor
end

section
namespace Go.Proofs.YtbknfddaoolagaaGreatDoor
open Go Go.RowKit Go.Proofs Go.Shelf
set_option linter.unusedVariables false
set_option linter.unusedSimpArgs false

def NumsRPost (tl : List ByteArray) (w : World) (e : Ending) (w' : World) : Prop :=
  ((NumsG tl ∧ ∃ v, e = .returned (.tuple #[v, .bool true]) ∧ w'.ownsRow w.heap.size 3 1 v tl.length (inV (tl.map valG))) ∨ (¬ NumsG tl ∧ e = .returned (.tuple #[.slice none 0 0, .bool false]))) ∧ Below w.heap.size w w'
theorem nums_step {tl : List ByteArray} {j : Nat} (hj : j < tl.length) : (tl.take (j + 1)).map valG = (tl.take j).map valG ++ [valG (tl.getD j ByteArray.empty)] := by
  rw [List.take_succ_eq_append_getElem hj, List.map_append]; simp [List.getD_eq_getElem?_getD, hj]
set_option maxRecDepth 100000 in
set_option maxHeartbeats 1600000 in
theorem r_numbers (g off cap N : Nat) (tl : List ByteArray) (w : World) (hN : tl.length = N) (hN2 : N ≤ 100000) (hc : ∀ j, j < N → w.cell? ⟨g, off + j, none⟩ = some (.string (tl.getD j ByteArray.empty))) (hs : ∀ j, j < N → (tl.getD j ByteArray.empty).size ≤ 1000000) :
    Calls Tryz.prog 43 #[.slice (some ⟨g, off, none⟩) N cap] w (NumsRPost tl w) := by
  obtain ⟨i0, hi0, hy0, hy1, hy2⟩ := info_parts infI; have HC := Lib.hid hc; have HS := Lib.hid hs; have HN := Lib.hid hN; clear hc hs hN
  go_enter Tryz.func43, Tryz.ntmps43
  go_wp2
  go_loopw [4, 5] (fun v i wr => ∃ j : Nat, j ≤ N ∧ i = .int .i64 j ∧ Hid (wr.ownsRow w.heap.size 3 1 v j (inV ((tl.take j).map valG))) ∧ Hid (∀ i, i < j → (numG (tl.getD i ByteArray.empty)).isSome = true) ∧ Hid (Below w.heap.size w wr)) (fun _ i _ => N - (intOf i).toNat)
  case atStart => exact ⟨0, Nat.zero_le _, rfl, Lib.hid (World.ownsRow_nil _ _ _ _), Lib.hid (fun i h => by omega), Lib.hid (Below.refl _ _)⟩
  case round =>
    obtain ⟨j, hj, rfl, HO, HNM, HB⟩ := hrel
    by_cases hlt : j < N
    · have hltI : (j : Int) < (N : Int) := by omega
      have e1 := (HB.out.cell (lt_of_cellq (HC.out j hlt))).trans (HC.out j hlt); have hsz := HS.out j hlt; have HST := Lib.hid (nums_step (tl := tl) (j := j) (by rw [HN.out]; exact hlt))
      have HBad := Lib.hid (show numG (tl.getD j ByteArray.empty) = none → ¬ NumsG tl from fun h hh => by
        have := hh j (by rw [HN.out]; exact hlt); rw [h] at this; cases this)
      have HSO := Lib.hid (show ∀ n, numG (tl.getD j ByteArray.empty) = some n → valG (tl.getD j ByteArray.empty) = n ∧ ∀ i, i < j + 1 → (numG (tl.getD i ByteArray.empty)).isSome = true from fun n hn => ⟨by unfold valG; rw [hn]; rfl, fun i hi => by
        by_cases h : i < j
        · exact HNM.out i h
        · obtain rfl : i = j := by omega
          rw [hn]; rfl⟩)
      obtain ⟨x, hx⟩ : ∃ x, tl.getD j ByteArray.empty = x := ⟨_, rfl⟩; rw [hx] at e1 hsz HST HBad HSO; have hnb := r_number x wr hsz; clear hx hsz; go_wp2_with fail; refine hnb.mono ?_; clear hnb; rintro e w2 ⟨n, b, rfl, hn, b2⟩
      rcases b with _ | _
      · have HT := Lib.hid (HBad.out hn)
        have HBZ := Lib.hid (HB.out.trans (b2.mono HB.out.size)); clear b2 hn; go_wp2; go_ret2; exact ⟨.inr ⟨HT.out, rfl⟩, HBZ.out⟩
      · obtain ⟨hv, hnm⟩ := HSO.out n hn
        rw [hv] at HST; have HNM2 := Lib.hid hnm; have HO2 := Lib.hid (own_kept HO.out b2); have HB2 := Lib.hid (HB.out.trans (b2.mono HB.out.size)); clear hn hv hnm b2 e1; go_wp2_with (at_builtin; refine wpList_append_own _ rfl _ _ 24 rfl w.heap.size 3 i0 _ 1 8 Tryz.underlying24 hi0 hy0 hy1 hy2 rfl (by decide) _ _ _ rfl (HO2.out.alloc _) ⟨w2.heap.size, 0, none⟩ 1 1 [.int .i64 n] rfl rfl ?c1 ?c2 ?c3 ?c4 ?c5 ?_)
        case c1 => exact news_of _ _ _
        case c2 => intro u hu; simp at hu; subst hu; rfl
        case c3 => unfold maxLen; omega
        case c4 => omega
        case c5 => have := HB2.out.size; simp; omega
        intro v' w5 hown' hgrow _; have HB5 := Lib.hid ((HB2.out.alloc HB2.out.size _).grown hgrow (by have := HB2.out.size; simp; omega) (fun j hj => (HO2.out.lt j hj).1)); have HO5 := Lib.hid hown'; clear hown' hgrow; go_wp2; go_roundw
        case rel => exact ⟨j + 1, by omega, by go_num, Lib.hid (by rw [HST.out, inV_append, List.map_take]; exact HO5.out), HNM2, HB5⟩
        case measure => simp [intOf]; omega
    · obtain rfl : j = N := by omega
      have hltI : ¬ (j : Int) < (j : Int) := by omega
      have HT := Lib.hid (show NumsG tl from fun i hi => HNM.out i (by rw [HN.out] at hi; exact hi)); have hO := HO.out; rw [List.take_of_length_le (by rw [HN.out]; exact Nat.le_refl _)] at hO; have HO2 := Lib.hid hO; clear hO HO; go_wp2; go_ret2; exact ⟨.inl ⟨HT.out, _, rfl, by rw [HN.out]; exact HO2.out⟩, HB.out⟩
end Go.Proofs.YtbknfddaoolagaaGreatDoor
end

section
namespace Go.Proofs.YtbknfddaoolagaaGreatDoor
open Go Go.Proofs

theorem cut_sum (c : UInt8) : ∀ s : List UInt8, ((cutL c s).map fun p => p.length + 1).sum = s.length + 1 := by
  intro s
  induction s with
  | nil => rfl
  | cons b r ih =>
    by_cases h : b = c
    · subst h
      rw [cutL_hit, List.map_cons, List.sum_cons, ih]; simp; omega
    · rw [cutL_other h]
      obtain ⟨u, v, e⟩ := cutL_shape c r; rw [e] at ih ⊢; simp only [List.map_cons, List.sum_cons, List.headD_cons, List.tail_cons, List.length_cons] at ih ⊢; omega
theorem sum_ge (m : Nat) : ∀ (k : Nat) (L : List (List UInt8)), k ≤ L.length → (∀ i, i < k → m ≤ (L.getD i []).length + 1) → m * k ≤ (L.map fun p => p.length + 1).sum := by
  intro k
  induction k with
  | zero => intro L _ _; simp
  | succ k ih =>
    intro L hL h
    cases L with
    | nil => simp at hL
    | cons x t =>
      have h1 := ih t (by simpa using hL) (fun i hi => by have := h (i + 1) (by omega); simpa using this); have h0 := h 0 (by omega); simp only [List.getD_cons_zero] at h0; rw [List.map_cons, List.sum_cons, Nat.mul_succ]; omega
theorem parts_sum (c : UInt8) (s : ByteArray) (m k : Nat) (hk : k + 1 ≤ (partsF c s).length) (h : ∀ i, i < k → m ≤ ((partsF c s).getD (i + 1) ByteArray.empty).size + 1) : m * k ≤ s.size := by
  obtain ⟨u, t, e⟩ := cutL_shape c s.data.toList; have hs := cut_sum c s.data.toList; rw [e, List.map_cons, List.sum_cons] at hs; have hp : partsF c s = mkB u :: t.map mkB := by unfold partsF; rw [e]; rfl
  rw [hp] at hk h
  have := sum_ge m k t (by simpa using hk) (fun i hi => by
    have h1 := h i hi; rw [List.getD_cons_succ, List.getD_eq_getElem?_getD, List.getElem?_map] at h1; rw [List.getD_eq_getElem?_getD]; have hi' : i < t.length := by simp at hk; omega
    rw [List.getElem?_eq_getElem hi'] at h1 ⊢; simp only [Option.map_some, Option.getD_some] at h1 ⊢; rw [size_toList, data_mkB] at h1; exact h1)
  rw [size_toList]; omega
theorem step_size {st st' : Pc} {r : ByteArray} (h : stepG st r = some st') : 4 ≤ r.size := by
  have hz : (headP (partsF 32 r)).size ≤ r.size := part_size (c := 32) (getD_mem (by have := partsF_len 32 r; omega)); unfold stepG at h
  split at h
  · split at h
    · rename_i h1; rw [h1] at hz; exact hz
    · split at h
      · rename_i h1; rw [h1] at hz; exact Nat.le_trans (by decide) hz
      · split at h
        · rename_i h1; rw [h1] at hz; exact Nat.le_trans (by decide) hz
        · cases h
  · cases h
theorem nums_few {r : ByteArray} (h : NumsG (partsF 32 r).tail) : 2 * (partsF 32 r).tail.length ≤ r.size := by
  have hl := partsF_len 32 r; refine parts_sum 32 r 2 _ (by rw [List.length_tail]; omega) fun i hi => ?_
  have := h i hi; rw [List.getD_eq_getElem?_getD, List.getElem?_tail, ← List.getD_eq_getElem?_getD] at this; obtain ⟨n, hn⟩ := Option.isSome_iff_exists.1 this; have h2 := (numG_sound hn).2
  have : 0 < ((partsF 32 r).getD (i + 1) ByteArray.empty).size := by
    rw [← h2, size_toList]; show 0 < (Lib.itoa n).toArray.toList.length; unfold Lib.itoa
    split
    · simp
    · exact dec_pos _
  omega
structure StOk (st : Pc) (k : Nat) : Prop where
  ms : st.ms.length ≤ k
  rs : st.rs.length ≤ k
  mv : st.mv.length ≤ 400
  msv : ∀ i, i < st.ms.length → InG (meL (gm st.ms i))
  mvv : InG st.mv
  rsv : ∀ i, i < st.rs.length → InG (rdL (gr st.rs i))
theorem gm_snoc (ms : List (Int × Int)) (m : Int × Int) (i : Nat) (hi : i < (ms ++ [m]).length) : gm (ms ++ [m]) i = if i < ms.length then gm ms i else m := by
  rw [List.length_append] at hi; simp only [List.length_singleton] at hi; unfold gm; rw [List.getD_eq_getElem?_getD, List.getD_eq_getElem?_getD]
  by_cases h : i < ms.length
  · rw [if_pos h, List.getElem?_append_left h]
  · obtain rfl : i = ms.length := by omega
    rw [if_neg h]; simp
theorem gr_snoc (rs : List Rd) (m : Rd) (i : Nat) (hi : i < (rs ++ [m]).length) : gr (rs ++ [m]) i = if i < rs.length then gr rs i else m := by
  rw [List.length_append] at hi; simp only [List.length_singleton] at hi; unfold gr; rw [List.getD_eq_getElem?_getD, List.getD_eq_getElem?_getD]
  by_cases h : i < rs.length
  · rw [if_pos h, List.getElem?_append_left h]
  · obtain rfl : i = rs.length := by omega
    rw [if_neg h]; simp
theorem inG_gi {xs : List Int} (h : InG xs) (i : Nat) : -9999 ≤ gi xs i ∧ gi xs i ≤ 9999 := by
  by_cases hi : i < xs.length
  · exact h i hi
  · unfold gi; rw [List.getD_eq_getElem?_getD, List.getElem?_eq_none (by omega)]; decide
theorem inG_me {a b : Int} (ha : -9999 ≤ a ∧ a ≤ 9999) (hb : -9999 ≤ b ∧ b ≤ 9999) : InG (meL (a, b)) := fun i hi => by
  match i, hi with
  | 0, _ => exact ha
  | 1, _ => exact hb
theorem inG_rd {a b c d : Int} (ha : -9999 ≤ a ∧ a ≤ 9999) (hb : -9999 ≤ b ∧ b ≤ 9999) (hc : -9999 ≤ c ∧ c ≤ 9999) (hd : -9999 ≤ d ∧ d ≤ 9999) : InG (rdL ⟨a, b, c, d⟩) := fun i hi => by
  match i, hi with
  | 0, _ => exact ha
  | 1, _ => exact hb
  | 2, _ => exact hc
  | 3, _ => exact hd
theorem step_ok {st st' : Pc} {r : ByteArray} {k : Nat} (h : StOk st k) (hr : r.size ≤ 500) (e : stepG st r = some st') : StOk st' (k + 1) := by
  unfold stepG at e
  split at e
  · rename_i hn
    have hin := nums_in hn; have hg := inG_gi hin
    split at e
    · split at e
      · cases e
        refine ⟨by rw [List.length_append]; have := h.ms; simp; omega, by have := h.rs; show st.rs.length ≤ _; omega, h.mv, fun i hi => ?_, h.mvv, h.rsv⟩; show InG (meL (gm (st.ms ++ [_]) i)); rw [gm_snoc _ _ _ hi]
        split
        · rename_i hi'; exact h.msv i hi'
        · exact inG_me (hg 0) (hg 1)
      · cases e
    · split at e
      · cases e
        refine ⟨by have := h.ms; show st.ms.length ≤ _; omega, by have := h.rs; show st.rs.length ≤ _; omega, ?_, h.msv, hin, h.rsv⟩; show ((partsF 32 r).tail.map valG).length ≤ 400; rw [List.length_map]; have := nums_few hn; omega
      · split at e
        · split at e
          · cases e
            refine ⟨by have := h.ms; show st.ms.length ≤ _; omega, by rw [List.length_append]; have := h.rs; simp; omega, h.mv, h.msv, h.mvv, fun i hi => ?_⟩; show InG (rdL (gr (st.rs ++ [_]) i)); rw [gr_snoc _ _ _ hi]
            split
            · rename_i hi'; exact h.rsv i hi'
            · exact inG_rd (hg 0) (hg 1) (hg 2) (hg 3)
          · cases e
        · cases e
  · cases e
theorem stG_ok {rows : List ByteArray} (h : ∀ i, i < rows.length → (rows.getD i ByteArray.empty).size ≤ 500) : ∀ k st, stG rows k = some st → k + 1 ≤ rows.length ∨ k = 0 → StOk st k ∧ ∀ i, i < k → 4 ≤ (rows.getD (i + 1) ByteArray.empty).size := by
  intro k
  induction k with
  | zero =>
    intro st e _
    cases e
    exact ⟨⟨Nat.le_refl _, Nat.le_refl _, Nat.zero_le _, fun i hi => absurd hi (Nat.not_lt_zero _), fun i hi => absurd hi (Nat.not_lt_zero _), fun i hi => absurd hi (Nat.not_lt_zero _)⟩, fun i hi => absurd hi (Nat.not_lt_zero _)⟩
  | succ k ih =>
    intro st e hk; rw [stG] at e
    cases h0 : stG rows k with
    | none => rw [h0] at e; cases e
    | some st0 =>
      rw [h0] at e; have e' : stepG st0 (rows.getD (k + 1) ByteArray.empty) = some st := e; obtain ⟨h1, h2⟩ := ih st0 h0 (by omega); refine ⟨step_ok h1 (h (k + 1) (by omega)) e', fun i hi => ?_⟩
      by_cases hik : i < k
      · exact h2 i hik
      · obtain rfl : i = k := by omega
        exact step_size e'
theorem stG_text {s : ByteArray} (hs : s.size ≤ 500) {k : Nat} {st : Pc} (h : stG (partsF 10 s) k = some st) (hk : k + 1 ≤ (partsF 10 s).length ∨ k = 0) : TextOk st := by
  obtain ⟨h1, h2⟩ := stG_ok (fun i hi => Nat.le_trans (part_size (c := 10) (getD_mem hi)) hs) k st h hk
  have hk5 : 5 * k ≤ 500 := by
    rcases hk with hk | rfl
    · exact Nat.le_trans (parts_sum 10 s 5 k hk fun i hi => by have := h2 i hi; omega) hs
    · decide
  have := h1.ms; have := h1.rs; exact ⟨⟨by omega, h1.msv, h1.mvv, h1.rsv⟩, by omega, h1.mv, by omega⟩
theorem stG_next {rows : List ByteArray} {k : Nat} {st : Pc} {r : ByteArray} (h : stG rows k = some st) (hr : rows.getD (k + 1) ByteArray.empty = r) : stG rows (k + 1) = stepG st r := by
  rw [stG, h, hr]; rfl
theorem step_num {st : Pc} {r : ByteArray} (h : ¬ NumsG (partsF 32 r).tail) : stepG st r = none := by
  unfold stepG; rw [if_neg h]
theorem step_mesh {st : Pc} {r : ByteArray} {a b : Int} (h : NumsG (partsF 32 r).tail) (hw : headP (partsF 32 r) = meshW) (hx : (partsF 32 r).tail.map valG = [a, b]) : stepG st r = some { st with ms := st.ms ++ [(a, b)] } := by
  have hl : (partsF 32 r).tail.length = 2 := by have := congrArg List.length hx; rw [List.length_map] at this; exact this
  unfold stepG; rw [if_pos h, if_pos hw, if_pos hl, hx]; rfl
theorem step_mesh_no {st : Pc} {r : ByteArray} (hw : headP (partsF 32 r) = meshW) (hl : (partsF 32 r).tail.length ≠ 2) : stepG st r = none := by
  unfold stepG
  by_cases h : NumsG (partsF 32 r).tail
  · rw [if_pos h, if_pos hw, if_neg hl]
  · rw [if_neg h]
theorem step_moves {st : Pc} {r : ByteArray} (h : NumsG (partsF 32 r).tail) (hw : headP (partsF 32 r) = movesW) : stepG st r = some { st with mv := (partsF 32 r).tail.map valG } := by
  unfold stepG; rw [if_pos h, if_neg (by rw [hw]; decide), if_pos hw]
theorem step_read {st : Pc} {r : ByteArray} {a b c d : Int} (h : NumsG (partsF 32 r).tail) (hw : headP (partsF 32 r) = readW) (hx : (partsF 32 r).tail.map valG = [a, b, c, d]) : stepG st r = some { st with rs := st.rs ++ [⟨a, b, c, d⟩] } := by
  have hl : (partsF 32 r).tail.length = 4 := by have := congrArg List.length hx; rw [List.length_map] at this; exact this
  unfold stepG; rw [if_pos h, if_neg (by rw [hw]; decide), if_neg (by rw [hw]; decide), if_pos hw, if_pos hl, hx]; rfl
theorem step_read_no {st : Pc} {r : ByteArray} (hw : headP (partsF 32 r) = readW) (hl : (partsF 32 r).tail.length ≠ 4) : stepG st r = none := by
  unfold stepG
  by_cases h : NumsG (partsF 32 r).tail
  · rw [if_pos h, if_neg (by rw [hw]; decide), if_neg (by rw [hw]; decide), if_pos hw, if_neg hl]
  · rw [if_neg h]
theorem step_else {st : Pc} {r : ByteArray} (h1 : headP (partsF 32 r) ≠ meshW) (h2 : headP (partsF 32 r) ≠ movesW) (h3 : headP (partsF 32 r) ≠ readW) : stepG st r = none := by
  unfold stepG
  by_cases h : NumsG (partsF 32 r).tail
  · rw [if_pos h, if_neg h1, if_neg h2, if_neg h3]
  · rw [if_neg h]
theorem two_of {xs : List Int} (h : xs.length = 2) : ∃ a b, xs = [a, b] := by
  match xs, h with
  | [a, b], _ => exact ⟨a, b, rfl⟩
theorem four_of {xs : List Int} (h : xs.length = 4) : ∃ a b c d, xs = [a, b, c, d] := by
  match xs, h with
  | [a, b, c, d], _ => exact ⟨a, b, c, d, rfl⟩
end Go.Proofs.YtbknfddaoolagaaGreatDoor
end

section
namespace Go.Proofs.YtbknfddaoolagaaGreatDoor
open Go Go.RowKit Go.Proofs Go.Shelf
set_option linter.unusedVariables false
set_option linter.unusedSimpArgs false

theorem cell_blk {w w' : World} {g : Nat} (h : w'.heap[g]? = w.heap[g]?) (i : Nat) : w'.cell? ⟨g, i, none⟩ = w.cell? ⟨g, i, none⟩ := by unfold World.cell?; simp only [h]
theorem meshL : meshW.toList = [109, 101, 115, 104] := by rw [ByteArray.toList_eq]; rfl
theorem movesL : movesW.toList = [109, 111, 118, 101, 115] := by rw [ByteArray.toList_eq]; rfl
theorem readL : readW.toList = [114, 101, 97, 100, 105, 110, 103] := by rw [ByteArray.toList_eq]; rfl
theorem slice_tail (g m cap : Nat) (h : m + 1 ≤ cap) : ∃ o c, (∀ W : World, (Instr.slice 82 (.slice (some ⟨g, 0, none⟩) (m + 1) cap) (some (.int .i64 1)) none none).run Tryz.prog W = .ok (.slice (some ⟨g, o, none⟩) m c) W) ∧ (o = 1 ∨ m = 0) := by
  by_cases hc : cap = 1
  · exact ⟨0, cap - 1, fun W => by simp [go_sem, hc]; intro h; omega, .inr (by omega)⟩
  · exact ⟨1, cap - 1, fun W => by simp [go_sem, hc]; intro h; omega, .inl rfl⟩
def RefPost (s : ByteArray) (w : World) (e : Ending) (w' : World) : Prop :=
  (∃ q pm cm pv cv pr cr b, e = .returned (.tuple #[.agg #[.slice pm q.ms.length cm, .slice pv q.mv.length cv, .slice pr q.rs.length cr], .bool b]) ∧ RdP w' pm pv pr q ∧ ((b = true ∧ BkP s q ∧ TextOk q) ∨ (b = false ∧ (∀ p, ¬ BkP s p) ∧ q = noP))) ∧ Below w.heap.size w w'
set_option maxRecDepth 100000 in
set_option maxHeartbeats 6400000 in
theorem r_Read (s : ByteArray) (w : World) (hs : s.size ≤ 500) : Calls Tryz.prog 7 #[.string s] w (RefPost s w) := by
  obtain ⟨i0, hi0, hy0, hy1, hy2⟩ := info_parts infM; obtain ⟨i1, hi1, hz0, hz1, hz2⟩ := info_parts infR; have kz := alloc_new w (.cells #[.slice none 0 0, .slice none 0 0, .slice none 0 0] 27); obtain ⟨w3, e1, HS1, _, _, _, b1⟩ := box3 w (.slice none 0 0) (.slice none 0 0) (.slice none 0 0) 27; rw [e1] at kz; have kp := alloc_new w3 (.cells #[.slice none 0 0, .slice none 0 0, .slice none 0 0] 27); obtain ⟨wa, e2, HS2, _, _, _, b2⟩ := box3 w3 (.slice none 0 0) (.slice none 0 0) (.slice none 0 0) 27; rw [e2] at kp; have hsp := r_split s 10 10 rfl (by omega) wa; have hpl := parts_count 10 s; have HPS := Lib.hid (fun p hp => part_size (c := 10) (s := s) (p := p) hp); have HSS := Lib.hid hs; obtain ⟨ps, hpe⟩ : ∃ ps, partsF 10 s = ps := ⟨_, rfl⟩; obtain ⟨L, hL⟩ : ∃ L, ps.length = L := ⟨_, rfl⟩; have hL1 : 1 ≤ L := by have := partsF_len 10 s; rw [hpe, hL] at this; omega
  rw [hpe] at hsp hpl HPS; rw [hL] at hsp hpl; have HL := Lib.hid hL; have HPE := Lib.hid hpe; have hL5 : L ≤ 501 := by omega
  have HBw := Lib.hid b1; have HB0 := Lib.hid b2; have HKZ := Lib.hid kz; have HKP := Lib.hid kp; clear kz kp b1 b2 hpe hL hpl hs
  go_enter Tryz.func7, Tryz.ntmps7
  go_wp2_with fail; refine hsp.mono ?_; clear hsp; rintro e w4 ⟨⟨g, cap, hg, rfl, hrd, _⟩, b3⟩
  have hcell : ∀ i, i < L → w4.cell? ⟨g, i, none⟩ = some (.string (ps.getD i ByteArray.empty)) := fun i hi => by
    obtain ⟨b, hb, hc⟩ := hrd
    cases hb
    exact hc i (by rw [HL.out]; exact hi)
  have HCE := Lib.hid hcell; have HGL := Lib.hid (show w3.heap.size < g ∧ g < w4.heap.size from ⟨by have := block_lt HKP.out; omega, lt_of_cellq (hcell 0 (by omega))⟩); have HSZ4 := Lib.hid (show w3.heap.size + 1 ≤ w4.heap.size by have := HGL.out; omega); have HB4 := Lib.hid (HB0.out.trans (b3.mono HB0.out.size)); have HX4 := Lib.hid ((b3.block _ (block_lt HKP.out)).trans HKP.out)
  have HRS := Lib.hid (show ∀ i, i < L → (ps.getD i ByteArray.empty).size ≤ 500 from fun i hi => by
    have := HPS.out _ (getD_mem (l := ps) (i := i) (by rw [HL.out]; exact hi)); have := HSS.out; omega)
  have HTX := Lib.hid (show ∀ k st, stG ps k = some st → k + 1 ≤ L ∨ k = 0 → TextOk st from fun k st h hk => stG_text HSS.out (by rw [HPE.out]; exact h) (by rw [HPE.out, HL.out]; exact hk)); have HST0 := Lib.hid (show stG ps 0 = some ⟨[], [], []⟩ from rfl); clear hcell hrd b3 e1 e2 HS1 HS2 hg; go_wp2_with fail
  go_loopw [6] (fun i wr => ∃ (k : Nat) (st : Pc) (vm vv vr : Value) (nm nv nr : Nat), (k : Int) ≤ max 0 ((L : Int) - 3) ∧ i = .int .i64 ((k : Int) + 1) ∧ Hid (stG ps k = some st) ∧ Hid (st.ms.length = nm ∧ st.mv.length = nv ∧ st.rs.length = nr) ∧ Hid (wr.heap[w3.heap.size]? = some (.cells #[vm, vv, vr] 27 (0, 0))) ∧ Hid (wr.ownsRow w4.heap.size 78 2 vm nm (spV st.ms)) ∧ Hid (wr.ownsRow w4.heap.size 3 1 vv nv (inV st.mv)) ∧ Hid (wr.ownsRow w4.heap.size 87 4 vr nr (rdV st.rs)) ∧ Hid (wr.heap[g]? = w4.heap[g]?) ∧ Hid (w4.heap.size ≤ wr.heap.size) ∧ Hid (Below w3.heap.size w3 wr)) (fun i _ => L - (intOf i).toNat)
  case atStart => exact ⟨0, ⟨[], [], []⟩, _, _, _, 0, 0, 0, by omega, rfl, HST0, Lib.hid ⟨rfl, rfl, rfl⟩, HX4, Lib.hid (World.ownsRow_nil _ _ _ _), Lib.hid (World.ownsRow_nil _ _ _ _), Lib.hid (World.ownsRow_nil _ _ _ _), Lib.hid rfl, Lib.hid (Nat.le_refl _), HB4⟩
  case round =>
  obtain ⟨k, st, vm, vv, vr, nm, nv, nr, hk, rfl, HST, HNN, HX, HM, HV, HR, HG, HSZ, HB⟩ := hrel
  by_cases hlt : (k : Int) + 1 < (L : Int) - 2
  · have hltI : decide ((k : Int) + 1 < (L : Int) - 2) = true := decide_eq_true hlt
    have HTS := Lib.hid (HTX.out k st HST.out (.inl (by omega))); have hnm : nm ≤ 450 := by have := HTS.out.ms; have := HNN.out.1; omega
    have hnr : nr ≤ 450 := by have := HTS.out.rs; have := HNN.out.2.2; omega
    have f1 := (cell_blk HG.out (k + 1)).trans (HCE.out (k + 1) (by omega)); have hrz := HRS.out (k + 1) (by omega); obtain ⟨r, hr⟩ : ∃ r, ps.getD (k + 1) ByteArray.empty = r := ⟨_, rfl⟩; rw [hr] at f1 hrz; have HNX := Lib.hid (stG_next HST.out hr); have hsp2 := r_split r 32 32 rfl (by omega) wr; have hwc := parts_count 32 r; have HWS := Lib.hid (fun p hp => part_size (c := 32) (s := r) (p := p) hp); obtain ⟨ws, hwe⟩ : ∃ ws, partsF 32 r = ws := ⟨_, rfl⟩; obtain ⟨m, hm⟩ : ∃ m, ws.length = m + 1 := ⟨ws.length - 1, by have := partsF_len 32 r; rw [hwe] at this; omega⟩; rw [hwe] at hsp2 hwc HWS; rw [hm] at hsp2 hwc; have hm5 : m ≤ 500 := by omega
    have HWE := Lib.hid hwe; have HMW := Lib.hid hm; have HRZ := Lib.hid hrz; clear hr hwe hm hwc hrz; go_wp2_with fail; refine hsp2.mono ?_; clear hsp2; rintro e w5 ⟨⟨g2, cap2, hg2, rfl, hrd, hcap⟩, b5⟩; have HX2 := Lib.hid ((b5.block _ (block_lt HX.out)).trans HX.out); have HM2 := Lib.hid (own_kept HM.out b5); have HV2 := Lib.hid (own_kept HV.out b5); have HR2 := Lib.hid (own_kept HR.out b5); have HG2 := Lib.hid ((b5.block g (by have := HGL.out; have := HSZ.out; omega)).trans HG.out); have HSZ2 := Lib.hid (Nat.le_trans HSZ.out b5.size); have HB2 := Lib.hid (HB.out.trans (b5.mono HB.out.size))
    have hwd : ∀ i, i < m + 1 → w5.cell? ⟨g2, i, none⟩ = some (.string (ws.getD i ByteArray.empty)) := fun i hi => by
      obtain ⟨b, hb, hc⟩ := hrd
      cases hb
      exact hc i (by rw [HMW.out]; exact hi)
    have HWD := Lib.hid hwd; clear hwd hrd b5 f1 hg2 HX HM HV HR HG HSZ HB; obtain ⟨tl, htl⟩ : ∃ tl, ws.tail = tl := ⟨_, rfl⟩; have HTL := Lib.hid (show (partsF 32 r).tail = tl by rw [HWE.out]; exact htl); have htn : tl.length = m := by rw [← htl, List.length_tail, HMW.out]; rfl
    have HTN := Lib.hid htn
    have htc : ∀ q, q < m → ws.getD (q + 1) ByteArray.empty = tl.getD q ByteArray.empty := fun q hq => by
      rw [← htl, List.getD_eq_getElem?_getD, List.getD_eq_getElem?_getD, List.getElem?_tail]
    have hsl : ∃ o c, (∀ W : World, (Instr.slice 82 (.slice (some ⟨g2, 0, none⟩) (m + 1) cap2) (some (.int .i64 1)) none none).run Tryz.prog W = .ok (.slice (some ⟨g2, o, none⟩) m c) W) ∧ (o = 1 ∨ m = 0) := slice_tail g2 m cap2 hcap; obtain ⟨o, co, hsl, ho⟩ := hsl
    have hnb := r_numbers g2 o co m tl w5 htn (by omega) (fun j hj => by
      obtain rfl : o = 1 := by omega
      rw [Nat.add_comm 1 j, ← htc j hj]; exact HWD.out (j + 1) (by omega)) (fun j hj => by
      have := HWS.out _ (getD_mem (l := ws) (i := j + 1) (by rw [HMW.out]; omega)); rw [← htc j hj]; have := HRZ.out; omega)
    have HP0 := Lib.hid (show headP (partsF 32 r) = ws.getD 0 ByteArray.empty by rw [HWE.out]; rfl); clear htl htn htc ho hcap; go_wp2_with fail; refine hnb.mono ?_; clear hnb hsl; rintro e w6 ⟨⟨hng, v, rfl, hown⟩ | ⟨hno, rfl⟩, b6⟩
    · have HX5 := Lib.hid ((b6.block _ (block_lt HX2.out)).trans HX2.out)
      have HM5 := Lib.hid (own_kept HM2.out b6); have HV5' := Lib.hid (own_kept HV2.out b6); have HR5 := Lib.hid (own_kept HR2.out b6); have HG5 := Lib.hid ((b6.block g (by have := HGL.out; have := HSZ2.out; omega)).trans HG2.out); have HSZ5 := Lib.hid (Nat.le_trans HSZ2.out b6.size); have HB5 := Lib.hid (HB2.out.trans (b6.mono HB2.out.size)); have e0 := (b6.cell (lt_of_cellq (HWD.out 0 (by omega)))).trans (HWD.out 0 (by omega)); have HNG := Lib.hid (show NumsG (partsF 32 r).tail by rw [HTL.out]; exact hng); obtain ⟨xs, hxs⟩ : ∃ xs, tl.map valG = xs := ⟨_, rfl⟩; have HXS := Lib.hid (show (partsF 32 r).tail.map valG = xs by rw [HTL.out]; exact hxs); have HXL := Lib.hid (show xs.length = m by rw [← hxs, List.length_map, HTN.out]); rw [hxs, HTN.out] at hown; obtain ⟨px, cx, hv⟩ := own_anyE hown; subst hv; have HOX := Lib.hid hown; have HWZ := Lib.hid (show w4.heap.size ≤ w5.heap.size from HSZ2.out)
      have HSW := Lib.hid (show w3.heap.size < w5.heap.size by have := HSZ2.out; have := HSZ4.out; omega); obtain ⟨p0, hp0⟩ : ∃ p0, ws.getD 0 ByteArray.empty = p0 := ⟨_, rfl⟩; rw [hp0] at e0 HP0; clear hp0 hxs hown hng b6 HX2 HM2 HV2 HR2 HG2 HSZ2 HB2
      by_cases h1 : p0 = meshW
      · have q1 : (p0.toList == [109, 101, 115, 104]) = true := by rw [← meshL]; exact beq_yes h1
        have HH := Lib.hid (show headP (partsF 32 r) = meshW by rw [HP0.out]; exact h1); clear h1
        by_cases h2 : m = 2
        · subst h2
          obtain ⟨lo, hi, rfl⟩ := two_of HXL.out; obtain ⟨gx, cy, hv⟩ := own_form HOX.out
          injection hv with hv1 hv2 hv3
          subst hv1; clear hv2 hv3; have HSN := Lib.hid (show stG ps (k + 1) = some { st with ms := st.ms ++ [(lo, hi)] } by rw [HNX.out]; exact step_mesh HNG.out HH.out HXS.out); have HVV5 := HV5'; have HRR5 := HR5; have HV5 := HM5; clear HV5' HR5 HM5; go_wp2_with fail; refine wp_region_held_drew (S := (fun w' => w'.cell? ⟨gx, 0, none⟩ = some (.int .i64 lo) ∧ w'.cell? ⟨gx, 1, none⟩ = some (.int .i64 hi))) (by kernel_rfl) (by (try dsimp only); exact own_two (own_kept HOX.out (Below.refl _ _).drew)) (fun hHeld => ?_); refine wpAnyH_gen (fun W0 hW0 => ?_); have bd : Below w6.heap.size w6 W0 := by rw [hW0]; exact (Below.refl _ _).drew
          have HOX0 := Lib.hid (own_kept HOX.out bd); have hS0 := own_two HOX0.out; have hX0 := (bd.block _ (block_lt HX5.out)).trans HX5.out; have HV0 := Lib.hid (own_kept HV5.out bd); have HB6 := Lib.hid (HB5.out.trans (bd.mono HB5.out.size)); have HSZ6 := Lib.hid (Nat.le_trans HSZ5.out bd.size); have HG6 := (bd.block g (by have := HGL.out; have := HSZ5.out; omega)).trans HG5.out; obtain ⟨w7, hw7⟩ : ∃ w7, W0.alloc (.cells #[.int .i64 lo, .int .i64 hi] 78) = w7 := ⟨_, rfl⟩; have h_HX7 := alloc_old W0 (.cells #[.int .i64 lo, .int .i64 hi] 78) hX0; rw [hw7] at h_HX7; have HX7 := Lib.hid h_HX7; clear h_HX7; have h_HV7 := HV0.out.alloc (.cells #[.int .i64 lo, .int .i64 hi] 78); rw [hw7] at h_HV7; have HV7 := Lib.hid h_HV7; clear h_HV7; have h_HOX7 := HOX0.out.alloc (.cells #[.int .i64 lo, .int .i64 hi] 78); rw [hw7] at h_HOX7; have HOX7 := Lib.hid h_HOX7; clear h_HOX7; have h_HB7 := HB6.out.alloc HB6.out.size (.cells #[.int .i64 lo, .int .i64 hi] 78)
          rw [hw7] at h_HB7; have HB7 := Lib.hid h_HB7; clear h_HB7; have HG7 : w7.heap[g]? = w4.heap[g]? := by rw [← hw7]; exact (Below.heap_alloc _ _ _ (by have := HGL.out; have := HSZ6.out; omega)).trans HG6
          have HG7 := Lib.hid HG7; have HSZ7 := Lib.hid (show w4.heap.size ≤ w7.heap.size by rw [← hw7]; exact Nat.le_trans HSZ6.out (below_alloc1 W0 _).size); have HNW := Lib.hid (show ∀ j u, ([.int .i64 lo, .int .i64 hi] : List Value)[j]? = some u → w7.cell? ((⟨W0.heap.size, 0, none⟩ : Addr).add j) = some u by rw [← hw7]; exact news_of W0 _ _); have h_x := (own_kept HVV5.out bd).alloc (.cells #[.int .i64 lo, .int .i64 hi] 78); rw [hw7] at h_x; have HVV7 := Lib.hid h_x; clear h_x; have h_x := (own_kept HRR5.out bd).alloc (.cells #[.int .i64 lo, .int .i64 hi] 78); rw [hw7] at h_x; have HRR7 := Lib.hid h_x; clear h_x; have hS7 := own_two HOX7.out; obtain ⟨oa, ob, oc⟩ := cells3 hX0; obtain ⟨pa, pb, pc⟩ := cells3 HX7.out; clear hW0 hHeld bd hX0; refine wpAnyH_take (i := 0) (v := ?v1) rfl (by kernel_rfl) (by kernel_rfl) (by kernel_rfl) (fun _ _ _ h => by exact h) (Or.inl ⟨by rfl, ?hy1⟩) (by (try dsimp only); exact hS0) ?rest1
          case hy1 => (intro w hSw; (try dsimp only at hSw); go_simp <;> (try with_reducible rfl))
          simp only [Act.put, ptL]; refine wpAnyH_take (i := 2) (v := ?v2) rfl (by kernel_rfl) (by kernel_rfl) (by kernel_rfl) (fun _ _ _ h => by exact h) (Or.inl ⟨by rfl, ?hy2⟩) (by (try dsimp only); exact hS0) ?rest2
          case hy2 => (intro w hSw; (try dsimp only at hSw); go_simp <;> (try with_reducible rfl))
          simp only [Act.put, ptL]; refine wpAnyH_take (i := 3) (v := ?v3) rfl (by kernel_rfl) (by kernel_rfl) (by kernel_rfl) (fun _ _ _ h => by exact h) (Or.inl ⟨by rfl, ?hy3⟩) (by (try dsimp only); exact hS0) ?rest3
          case hy3 => (intro w hSw; (try dsimp only at hSw); go_simp <;> (try with_reducible rfl))
          simp only [Act.put, ptL]; refine wpAnyH_take (i := 4) (v := ?v4) rfl (by kernel_rfl) (by kernel_rfl) (by kernel_rfl) (fun _ _ _ h => by exact h) (Or.inl ⟨by rfl, ?hy4⟩) (by (try dsimp only); exact hS0) ?rest4
          case hy4 => (intro w hSw; (try dsimp only at hSw); go_simp <;> (try with_reducible rfl))
          simp only [Act.put, ptL]; refine wpAnyH_take (i := 5) (v := ?v5) rfl (by kernel_rfl) (by kernel_rfl) (by kernel_rfl) (fun _ _ _ h => by exact h) (Or.inl ⟨by rfl, ?hy5⟩) (by (try dsimp only); exact hS0) ?rest5
          case hy5 => (intro w hSw; (try dsimp only at hSw); go_simp <;> (try with_reducible rfl))
          simp only [Act.put, ptL]; refine wpAnyH_take (i := 6) (v := ?v6) rfl (by kernel_rfl) (by kernel_rfl) (by kernel_rfl) (fun _ _ _ h => by exact h) (Or.inl ⟨by rfl, ?hy6⟩) (by (try dsimp only); exact hS0) ?rest6
          case hy6 => (intro w hSw; (try dsimp only at hSw); go_simp <;> (try with_reducible rfl))
          simp only [Act.put, ptL]; refine wpAnyH_take (i := 7) (v := ?v7) rfl (by kernel_rfl) (by kernel_rfl) (by kernel_rfl) (fun _ _ _ h => by exact h) (Or.inl ⟨by rfl, ?hy7⟩) (by (try dsimp only); exact hS0) ?rest7
          case hy7 => (intro w hSw; (try dsimp only at hSw); go_simp <;> (try with_reducible rfl))
          simp only [Act.put, ptL]; refine wpAnyH_take (i := 8) (v := ?v8) rfl (by kernel_rfl) (by kernel_rfl) (by kernel_rfl) (fun _ _ _ h => by exact h) (Or.inl ⟨by rfl, ?hy8⟩) (by (try dsimp only); exact hS0) ?rest8
          case hy8 => (intro w hSw; (try dsimp only at hSw); go_simp <;> (try with_reducible rfl))
          simp only [Act.put, ptL]; refine wpAnyH_take (i := 9) (v := ?v9) rfl (by kernel_rfl) (by kernel_rfl) (by kernel_rfl) (fun _ _ _ h => by exact h) (Or.inl ⟨by rfl, ?hy9⟩) (by (try dsimp only); exact hS0) ?rest9
          case hy9 => (intro w hSw; (try dsimp only at hSw); go_simp <;> (try with_reducible rfl))
          simp only [Act.put, ptL]; refine wpAnyH_ready (rs := [1, 10]) (by kernel_rfl) (by simp) ?_; refine AllReadyH.cons rfl ?ordAM (AllReadyH.cons rfl ?ordBM AllReadyH.nil)
          case' ordAM =>
            intro K hK; go_simp; refine kz hK (by exact hS0) ?_; clear hK K; (try simp only [Act.put, ptL]); refine rz1 10 rfl ?_; intro K hK; go_simp; refine kz hK (by exact hS7) ?_; clear hK K; (try simp only [Act.put, ptL])
          case' ordBM =>
            intro K hK; go_simp; refine kz hK (by exact hS7) ?_; clear hK K; (try simp only [Act.put, ptL]); refine rz1 1 rfl ?_; intro K hK; go_simp; refine kz hK (by exact hS7) ?_; clear hK K; (try simp only [Act.put, ptL])
          all_goals
            clear oa ob oc pa pb pc hw7; refine rz1 11 rfl ?_; intro K hK; refine step_append_lies _ rfl _ _ 23 rfl w4.heap.size 78 i0 _ 2 16 Tryz.underlying23 hi0 hy0 hy1 hy2 rfl (by decide) _ _ _ rfl HV7.out ⟨W0.heap.size, 0, none⟩ 1 1 [.int .i64 lo, .int .i64 hi] rfl rfl HNW.out (by intro u hu; simp at hu; rcases hu with rfl | rfl <;> rfl) (by decide) (by unfold maxLen; omega) (by omega) (by have := HSZ7.out; omega) _ rfl ?_; intro g' cap' w11 hown' hgrow _ _; have hd1 := (hgrow.block _ (block_lt HX7.out) (own_notE HX7.out (by decide) HV7.out)).trans HX7.out; have HOX11 := Lib.hid (HOX7.out.kept hgrow (own_apart HOX7.out HV7.out (by decide))); have hS11 := own_two HOX11.out; have HG11 := (hgrow.block g (by have := HGL.out; have := HSZ7.out; omega) (fun h => by have := (HV7.out.lt g h.symm).1; have := HGL.out; omega)).trans HG7.out; obtain ⟨w12, s1, c0', f0', hx4, hxk, HZ12, hxb⟩ := put3_0 w11 w3.heap.size 27 _ _ _ (.slice (some ⟨g', 0, none⟩) (nm + 1) cap') hd1
            have HXn := Lib.hid hx4; have HVn := Lib.hid (own_same hown' (fun g'' hg'' => hxk g'' (by have := (hown'.lt g'' hg'').1; have := HSZ4.out; omega))); have hS12 := own_two (own_same HOX11.out (w' := w12) (fun g'' hg'' => hxk g'' (by have := (HOX11.out.lt g'' hg'').1; have := HSW.out; omega))); have HBn := Lib.hid (hxb w3 w3.heap.size (Nat.le_refl _) (HB7.out.grown hgrow (by have := HB7.out.size; omega) (fun j hj => by have := (HV7.out.lt j hj).1; have := HSZ4.out; omega))); have HSZn := Lib.hid (show w4.heap.size ≤ w12.heap.size from by have := HZ12.out; have := hgrow.size; have := HSZ7.out; omega); have HVVn := Lib.hid (own_same (HVV7.out.kept hgrow (own_apart HVV7.out HV7.out (by decide))) (w' := w12) (fun g'' hg'' => hxk g'' (by have := (HVV7.out.lt g'' hg'').1; have := HSZ4.out; omega))); have HRRn := Lib.hid (own_same (HRR7.out.kept hgrow (own_apart HRR7.out HV7.out (by decide))) (w' := w12) (fun g'' hg'' => hxk g'' (by have := (HRR7.out.lt g'' hg'').1; have := HSZ4.out; omega)))
            have HGn := Lib.hid ((hxk g (by have := HGL.out; omega)).trans HG11); clear HG11; clear hd1 hx4 hxk hxb hown' hgrow; refine kz hK (by exact hS11) ?_; clear hK K; (try simp only [Act.put, ptL]); refine rz1 12 rfl ?_; intro K hK; go_simp; refine kz hK (by exact hS11) ?_; clear hK K; (try simp only [Act.put, ptL]); refine rz1 13 rfl ?_; intro K hK; go_simp; refine kz hK (by exact hS12) ?_; clear hK K; (try simp only [Act.put, ptL]); (try go_simp); refine wpAnyH_done (by kernel_rfl) ?_ _; go_wp2; go_roundw
            case rel => exact ⟨k + 1, { st with ms := st.ms ++ [(lo, hi)] }, _, _, _, nm + 1, nv, nr, by omega, by go_num, HSN, Lib.hid ⟨by have := HNN.out.1; simp; omega, HNN.out.2⟩, HXn, Lib.hid (by rw [spV_append]; exact HVn.out), HVVn, HRRn, HGn, HSZn, HBn⟩
            case measure => simp [intOf]; omega
        · have h2I : ((m : Int) == 2) = false := by rw [beq_eq_false_iff_ne]; omega
          have h2J : ((m : Int) != 2) = true := by rw [bne, h2I]; rfl
          have h2K := Lib.hid h2; clear h2; have HNB := Lib.hid (show ∀ p, ¬ BkP s p from noBk_of_step (k := k + 1) (by rw [HPE.out, HL.out]; omega) (by rw [HPE.out, HNX.out]; exact step_mesh_no HH.out (by rw [HTL.out, HTN.out]; exact h2K.out))); have hzz := (HB5.out.block _ (block_lt HKZ.out)).trans HKZ.out; have HBX := Lib.hid (HBw.out.trans (HB5.out.mono HBw.out.size)); obtain ⟨x1, x2, x3, s1, s2, s3, ⟨c0, f0⟩, ⟨c1, f1⟩, ⟨c2, f2⟩, hx4, hxk, HZX, hxb⟩ := set3 w6 w.heap.size 27 _ _ _ (.slice none 0 0) (.slice none 0 0) (.slice none 0 0) hzz; have HXB := Lib.hid (hxb w w.heap.size (Nat.le_refl _) HBX.out); obtain ⟨k0, k1, k2⟩ := cells3 hx4; clear hzz hx4 hxk hxb; go_wp2; refine bodyPost_ret (v := .tuple #[.agg #[.slice none 0 0, .slice none 0 0, .slice none 0 0], .bool false]) (by simp [results, Tryz.results7, go_sem, k0, k1, k2]) rfl ?_; exact ⟨⟨noP, none, 0, none, 0, none, 0, false, rfl, rdP_no _, .inr ⟨rfl, HNB.out, rfl⟩⟩, HXB.out⟩
      · have q1 : (p0.toList == [109, 101, 115, 104]) = false := by rw [← meshL]; exact beq_no h1
        have H1 := Lib.hid h1; clear h1
        by_cases h2 : p0 = movesW
        · have q2 : (p0.toList == [109, 111, 118, 101, 115]) = true := by rw [← movesL]; exact beq_yes h2
          have HH := Lib.hid (show headP (partsF 32 r) = movesW by rw [HP0.out]; exact h2); have HSN := Lib.hid (show stG ps (k + 1) = some { st with mv := xs } by rw [HNX.out, step_moves HNG.out HH.out, HXS.out]); clear h2; obtain ⟨w7, s1, c0', f0', hx4, hxk, HZ7, hxb⟩ := put3_1 w6 w3.heap.size 27 _ _ _ (.slice px m cx) HX5.out; have HX7 := Lib.hid hx4; have HM7 := Lib.hid (own_same HM5.out (fun g'' hg'' => hxk g'' (by have := (HM5.out.lt g'' hg'').1; have := HSZ4.out; omega))); have HR7 := Lib.hid (own_same HR5.out (fun g'' hg'' => hxk g'' (by have := (HR5.out.lt g'' hg'').1; have := HSZ4.out; omega))); have HV7 := Lib.hid (own_mono (own_same HOX.out (fun g'' hg'' => hxk g'' (by have := (HOX.out.lt g'' hg'').1; have := HSW.out; omega))) HWZ.out); have HG7 := Lib.hid ((hxk g (by have := HGL.out; omega)).trans HG5.out); have HSZ7 := Lib.hid (show w4.heap.size ≤ w7.heap.size by rw [HZ7.out]; exact HSZ5.out)
          have HB7 := Lib.hid (hxb w3 w3.heap.size (Nat.le_refl _) HB5.out); clear hx4 hxk hxb; go_wp2; go_roundw
          case rel => exact ⟨k + 1, { st with mv := xs }, _, _, _, nm, m, nr, by omega, by go_num, HSN, Lib.hid ⟨HNN.out.1, HXL.out, HNN.out.2.2⟩, HX7, HM7, HV7, HR7, HG7, HSZ7, HB7⟩
          case measure => simp [intOf]; omega
        · have q2 : (p0.toList == [109, 111, 118, 101, 115]) = false := by rw [← movesL]; exact beq_no h2
          have H2 := Lib.hid h2; clear h2
          by_cases h3 : p0 = readW
          · have q3 : (p0.toList == [114, 101, 97, 100, 105, 110, 103]) = true := by rw [← readL]; exact beq_yes h3
            have HH := Lib.hid (show headP (partsF 32 r) = readW by rw [HP0.out]; exact h3); clear h3
            by_cases h4 : m = 4
            · subst h4
              obtain ⟨ra, rb, rc, rd, rfl⟩ := four_of HXL.out; obtain ⟨gx, cy, hv⟩ := own_form HOX.out
              injection hv with hv1 hv2 hv3
              subst hv1; clear hv2 hv3; have HSN := Lib.hid (show stG ps (k + 1) = some { st with rs := st.rs ++ [⟨ra, rb, rc, rd⟩] } by rw [HNX.out]; exact step_read HNG.out HH.out HXS.out); have HVV5 := HV5'; have HMM5 := HM5; have HV5 := HR5; clear HV5' HR5 HM5; go_wp2_with fail; refine wp_region_held_drew (S := (fun w' => w'.cell? ⟨gx, 0, none⟩ = some (.int .i64 ra) ∧ w'.cell? ⟨gx, 1, none⟩ = some (.int .i64 rb) ∧ w'.cell? ⟨gx, 2, none⟩ = some (.int .i64 rc) ∧ w'.cell? ⟨gx, 3, none⟩ = some (.int .i64 rd))) (by kernel_rfl) (by (try dsimp only); exact own_four (own_kept HOX.out (Below.refl _ _).drew)) (fun hHeld => ?_); refine wpAnyH_gen (fun W0 hW0 => ?_); have bd : Below w6.heap.size w6 W0 := by rw [hW0]; exact (Below.refl _ _).drew
              have HOX0 := Lib.hid (own_kept HOX.out bd); have hS0 := own_four HOX0.out; have hX0 := (bd.block _ (block_lt HX5.out)).trans HX5.out; have HV0 := Lib.hid (own_kept HV5.out bd); have HB6 := Lib.hid (HB5.out.trans (bd.mono HB5.out.size)); have HSZ6 := Lib.hid (Nat.le_trans HSZ5.out bd.size); have HG6 := (bd.block g (by have := HGL.out; have := HSZ5.out; omega)).trans HG5.out; obtain ⟨w7, hw7⟩ : ∃ w7, W0.alloc (.cells #[.int .i64 ra, .int .i64 rb, .int .i64 rc, .int .i64 rd] 87) = w7 := ⟨_, rfl⟩; have h_HX7 := alloc_old W0 (.cells #[.int .i64 ra, .int .i64 rb, .int .i64 rc, .int .i64 rd] 87) hX0; rw [hw7] at h_HX7; have HX7 := Lib.hid h_HX7; clear h_HX7; have h_HV7 := HV0.out.alloc (.cells #[.int .i64 ra, .int .i64 rb, .int .i64 rc, .int .i64 rd] 87); rw [hw7] at h_HV7; have HV7 := Lib.hid h_HV7; clear h_HV7; have h_HOX7 := HOX0.out.alloc (.cells #[.int .i64 ra, .int .i64 rb, .int .i64 rc, .int .i64 rd] 87)
              rw [hw7] at h_HOX7; have HOX7 := Lib.hid h_HOX7; clear h_HOX7; have h_HB7 := HB6.out.alloc HB6.out.size (.cells #[.int .i64 ra, .int .i64 rb, .int .i64 rc, .int .i64 rd] 87); rw [hw7] at h_HB7; have HB7 := Lib.hid h_HB7; clear h_HB7; have HG7 : w7.heap[g]? = w4.heap[g]? := by rw [← hw7]; exact (Below.heap_alloc _ _ _ (by have := HGL.out; have := HSZ6.out; omega)).trans HG6
              have HG7 := Lib.hid HG7; have HSZ7 := Lib.hid (show w4.heap.size ≤ w7.heap.size by rw [← hw7]; exact Nat.le_trans HSZ6.out (below_alloc1 W0 _).size); have HNW := Lib.hid (show ∀ j u, ([.int .i64 ra, .int .i64 rb, .int .i64 rc, .int .i64 rd] : List Value)[j]? = some u → w7.cell? ((⟨W0.heap.size, 0, none⟩ : Addr).add j) = some u by rw [← hw7]; exact news_of W0 _ _); have h_x := (own_kept HMM5.out bd).alloc (.cells #[.int .i64 ra, .int .i64 rb, .int .i64 rc, .int .i64 rd] 87); rw [hw7] at h_x; have HMM7 := Lib.hid h_x; clear h_x; have h_x := (own_kept HVV5.out bd).alloc (.cells #[.int .i64 ra, .int .i64 rb, .int .i64 rc, .int .i64 rd] 87); rw [hw7] at h_x; have HVV7 := Lib.hid h_x; clear h_x; have hS7 := own_four HOX7.out; obtain ⟨oa, ob, oc⟩ := cells3 hX0; obtain ⟨pa, pb, pc⟩ := cells3 HX7.out; clear hW0 hHeld bd hX0; refine wpAnyH_take (i := 0) (v := ?v10) rfl (by kernel_rfl) (by kernel_rfl) (by kernel_rfl) (fun _ _ _ h => by exact h) (Or.inl ⟨by rfl, ?hy10⟩) (by (try dsimp only); exact hS0) ?rest10
              case hy10 => (intro w hSw; (try dsimp only at hSw); go_simp <;> (try with_reducible rfl))
              simp only [Act.put, ptL]; refine wpAnyH_take (i := 2) (v := ?v11) rfl (by kernel_rfl) (by kernel_rfl) (by kernel_rfl) (fun _ _ _ h => by exact h) (Or.inl ⟨by rfl, ?hy11⟩) (by (try dsimp only); exact hS0) ?rest11
              case hy11 => (intro w hSw; (try dsimp only at hSw); go_simp <;> (try with_reducible rfl))
              simp only [Act.put, ptL]; refine wpAnyH_take (i := 3) (v := ?v12) rfl (by kernel_rfl) (by kernel_rfl) (by kernel_rfl) (fun _ _ _ h => by exact h) (Or.inl ⟨by rfl, ?hy12⟩) (by (try dsimp only); exact hS0) ?rest12
              case hy12 => (intro w hSw; (try dsimp only at hSw); go_simp <;> (try with_reducible rfl))
              simp only [Act.put, ptL]; refine wpAnyH_take (i := 4) (v := ?v13) rfl (by kernel_rfl) (by kernel_rfl) (by kernel_rfl) (fun _ _ _ h => by exact h) (Or.inl ⟨by rfl, ?hy13⟩) (by (try dsimp only); exact hS0) ?rest13
              case hy13 => (intro w hSw; (try dsimp only at hSw); go_simp <;> (try with_reducible rfl))
              simp only [Act.put, ptL]; refine wpAnyH_take (i := 5) (v := ?v14) rfl (by kernel_rfl) (by kernel_rfl) (by kernel_rfl) (fun _ _ _ h => by exact h) (Or.inl ⟨by rfl, ?hy14⟩) (by (try dsimp only); exact hS0) ?rest14
              case hy14 => (intro w hSw; (try dsimp only at hSw); go_simp <;> (try with_reducible rfl))
              simp only [Act.put, ptL]; refine wpAnyH_take (i := 6) (v := ?v15) rfl (by kernel_rfl) (by kernel_rfl) (by kernel_rfl) (fun _ _ _ h => by exact h) (Or.inl ⟨by rfl, ?hy15⟩) (by (try dsimp only); exact hS0) ?rest15
              case hy15 => (intro w hSw; (try dsimp only at hSw); go_simp <;> (try with_reducible rfl))
              simp only [Act.put, ptL]; refine wpAnyH_take (i := 7) (v := ?v16) rfl (by kernel_rfl) (by kernel_rfl) (by kernel_rfl) (fun _ _ _ h => by exact h) (Or.inl ⟨by rfl, ?hy16⟩) (by (try dsimp only); exact hS0) ?rest16
              case hy16 => (intro w hSw; (try dsimp only at hSw); go_simp <;> (try with_reducible rfl))
              simp only [Act.put, ptL]; refine wpAnyH_take (i := 8) (v := ?v17) rfl (by kernel_rfl) (by kernel_rfl) (by kernel_rfl) (fun _ _ _ h => by exact h) (Or.inl ⟨by rfl, ?hy17⟩) (by (try dsimp only); exact hS0) ?rest17
              case hy17 => (intro w hSw; (try dsimp only at hSw); go_simp <;> (try with_reducible rfl))
              simp only [Act.put, ptL]; refine wpAnyH_take (i := 9) (v := ?v18) rfl (by kernel_rfl) (by kernel_rfl) (by kernel_rfl) (fun _ _ _ h => by exact h) (Or.inl ⟨by rfl, ?hy18⟩) (by (try dsimp only); exact hS0) ?rest18
              case hy18 => (intro w hSw; (try dsimp only at hSw); go_simp <;> (try with_reducible rfl))
              simp only [Act.put, ptL]; refine wpAnyH_take (i := 10) (v := ?v19) rfl (by kernel_rfl) (by kernel_rfl) (by kernel_rfl) (fun _ _ _ h => by exact h) (Or.inl ⟨by rfl, ?hy19⟩) (by (try dsimp only); exact hS0) ?rest19
              case hy19 => (intro w hSw; (try dsimp only at hSw); go_simp <;> (try with_reducible rfl))
              simp only [Act.put, ptL]; refine wpAnyH_take (i := 11) (v := ?v20) rfl (by kernel_rfl) (by kernel_rfl) (by kernel_rfl) (fun _ _ _ h => by exact h) (Or.inl ⟨by rfl, ?hy20⟩) (by (try dsimp only); exact hS0) ?rest20
              case hy20 => (intro w hSw; (try dsimp only at hSw); go_simp <;> (try with_reducible rfl))
              simp only [Act.put, ptL]; refine wpAnyH_take (i := 12) (v := ?v21) rfl (by kernel_rfl) (by kernel_rfl) (by kernel_rfl) (fun _ _ _ h => by exact h) (Or.inl ⟨by rfl, ?hy21⟩) (by (try dsimp only); exact hS0) ?rest21
              case hy21 => (intro w hSw; (try dsimp only at hSw); go_simp <;> (try with_reducible rfl))
              simp only [Act.put, ptL]; refine wpAnyH_take (i := 13) (v := ?v22) rfl (by kernel_rfl) (by kernel_rfl) (by kernel_rfl) (fun _ _ _ h => by exact h) (Or.inl ⟨by rfl, ?hy22⟩) (by (try dsimp only); exact hS0) ?rest22
              case hy22 => (intro w hSw; (try dsimp only at hSw); go_simp <;> (try with_reducible rfl))
              simp only [Act.put, ptL]; refine wpAnyH_take (i := 14) (v := ?v23) rfl (by kernel_rfl) (by kernel_rfl) (by kernel_rfl) (fun _ _ _ h => by exact h) (Or.inl ⟨by rfl, ?hy23⟩) (by (try dsimp only); exact hS0) ?rest23
              case hy23 => (intro w hSw; (try dsimp only at hSw); go_simp <;> (try with_reducible rfl))
              simp only [Act.put, ptL]; refine wpAnyH_ready (rs := [1, 15]) (by kernel_rfl) (by simp) ?_; refine AllReadyH.cons rfl ?ordAR (AllReadyH.cons rfl ?ordBR AllReadyH.nil)
              case' ordAR =>
                intro K hK; go_simp; refine kz hK (by exact hS0) ?_; clear hK K; (try simp only [Act.put, ptL]); refine rz1 15 rfl ?_; intro K hK; go_simp; refine kz hK (by exact hS7) ?_; clear hK K; (try simp only [Act.put, ptL])
              case' ordBR =>
                intro K hK; go_simp; refine kz hK (by exact hS7) ?_; clear hK K; (try simp only [Act.put, ptL]); refine rz1 1 rfl ?_; intro K hK; go_simp; refine kz hK (by exact hS7) ?_; clear hK K; (try simp only [Act.put, ptL])
              all_goals
                clear oa ob oc pa pb pc hw7; refine rz1 16 rfl ?_; intro K hK; refine step_append_lies _ rfl _ _ 25 rfl w4.heap.size 87 i1 _ 4 32 Tryz.underlying25 hi1 hz0 hz1 hz2 rfl (by decide) _ _ _ rfl HV7.out ⟨W0.heap.size, 0, none⟩ 1 1 [.int .i64 ra, .int .i64 rb, .int .i64 rc, .int .i64 rd] rfl rfl HNW.out (by intro u hu; simp at hu; rcases hu with rfl | rfl | rfl | rfl <;> rfl) (by decide) (by unfold maxLen; omega) (by omega) (by have := HSZ7.out; omega) _ rfl ?_; intro g' cap' w11 hown' hgrow _ _; have hd1 := (hgrow.block _ (block_lt HX7.out) (own_notE HX7.out (by decide) HV7.out)).trans HX7.out; have HOX11 := Lib.hid (HOX7.out.kept hgrow (own_apart HOX7.out HV7.out (by decide))); have hS11 := own_four HOX11.out; have HG11 := (hgrow.block g (by have := HGL.out; have := HSZ7.out; omega) (fun h => by have := (HV7.out.lt g h.symm).1; have := HGL.out; omega)).trans HG7.out; obtain ⟨w12, s1, c0', f0', hx4, hxk, HZ12, hxb⟩ := put3_2 w11 w3.heap.size 27 _ _ _ (.slice (some ⟨g', 0, none⟩) (nr + 1) cap') hd1
                have HXn := Lib.hid hx4; have HVn := Lib.hid (own_same hown' (fun g'' hg'' => hxk g'' (by have := (hown'.lt g'' hg'').1; have := HSZ4.out; omega))); have hS12 := own_four (own_same HOX11.out (w' := w12) (fun g'' hg'' => hxk g'' (by have := (HOX11.out.lt g'' hg'').1; have := HSW.out; omega))); have HBn := Lib.hid (hxb w3 w3.heap.size (Nat.le_refl _) (HB7.out.grown hgrow (by have := HB7.out.size; omega) (fun j hj => by have := (HV7.out.lt j hj).1; have := HSZ4.out; omega))); have HSZn := Lib.hid (show w4.heap.size ≤ w12.heap.size from by have := HZ12.out; have := hgrow.size; have := HSZ7.out; omega); have HMMn := Lib.hid (own_same (HMM7.out.kept hgrow (own_apart HMM7.out HV7.out (by decide))) (w' := w12) (fun g'' hg'' => hxk g'' (by have := (HMM7.out.lt g'' hg'').1; have := HSZ4.out; omega))); have HVVn := Lib.hid (own_same (HVV7.out.kept hgrow (own_apart HVV7.out HV7.out (by decide))) (w' := w12) (fun g'' hg'' => hxk g'' (by have := (HVV7.out.lt g'' hg'').1; have := HSZ4.out; omega)))
                have HGn := Lib.hid ((hxk g (by have := HGL.out; omega)).trans HG11); clear HG11; clear hd1 hx4 hxk hxb hown' hgrow; refine kz hK (by exact hS11) ?_; clear hK K; (try simp only [Act.put, ptL]); refine rz1 17 rfl ?_; intro K hK; go_simp; refine kz hK (by exact hS11) ?_; clear hK K; (try simp only [Act.put, ptL]); refine rz1 18 rfl ?_; intro K hK; go_simp; refine kz hK (by exact hS12) ?_; clear hK K; (try simp only [Act.put, ptL]); (try go_simp); refine wpAnyH_done (by kernel_rfl) ?_ _; go_wp2; go_roundw
                case rel => exact ⟨k + 1, { st with rs := st.rs ++ [⟨ra, rb, rc, rd⟩] }, _, _, _, nm, nv, nr + 1, by omega, by go_num, HSN, Lib.hid ⟨HNN.out.1, HNN.out.2.1, by have := HNN.out.2.2; simp; omega⟩, HXn, HMMn, HVVn, Lib.hid (by rw [rdV_append]; exact HVn.out), HGn, HSZn, HBn⟩
                case measure => simp [intOf]; omega
            · have h4I : ((m : Int) == 4) = false := by rw [beq_eq_false_iff_ne]; omega
              have h4J : ((m : Int) != 4) = true := by rw [bne, h4I]; rfl
              have h4K := Lib.hid h4; clear h4; have HNB := Lib.hid (show ∀ p, ¬ BkP s p from noBk_of_step (k := k + 1) (by rw [HPE.out, HL.out]; omega) (by rw [HPE.out, HNX.out]; exact step_read_no HH.out (by rw [HTL.out, HTN.out]; exact h4K.out))); have hzz := (HB5.out.block _ (block_lt HKZ.out)).trans HKZ.out; have HBX := Lib.hid (HBw.out.trans (HB5.out.mono HBw.out.size)); obtain ⟨x1, x2, x3, s1, s2, s3, ⟨c0, f0⟩, ⟨c1, f1⟩, ⟨c2, f2⟩, hx4, hxk, HZX, hxb⟩ := set3 w6 w.heap.size 27 _ _ _ (.slice none 0 0) (.slice none 0 0) (.slice none 0 0) hzz; have HXB := Lib.hid (hxb w w.heap.size (Nat.le_refl _) HBX.out); obtain ⟨k0, k1, k2⟩ := cells3 hx4; clear hzz hx4 hxk hxb; go_wp2; refine bodyPost_ret (v := .tuple #[.agg #[.slice none 0 0, .slice none 0 0, .slice none 0 0], .bool false]) (by simp [results, Tryz.results7, go_sem, k0, k1, k2]) rfl ?_; exact ⟨⟨noP, none, 0, none, 0, none, 0, false, rfl, rdP_no _, .inr ⟨rfl, HNB.out, rfl⟩⟩, HXB.out⟩
          · have q3 : (p0.toList == [114, 101, 97, 100, 105, 110, 103]) = false := by rw [← readL]; exact beq_no h3
            have H3 := Lib.hid h3; clear h3; have HNB := Lib.hid (show ∀ p, ¬ BkP s p from noBk_of_step (k := k + 1) (by rw [HPE.out, HL.out]; omega) (by rw [HPE.out, HNX.out]; exact step_else (by rw [HP0.out]; exact H1.out) (by rw [HP0.out]; exact H2.out) (by rw [HP0.out]; exact H3.out))); have hzz := (HB5.out.block _ (block_lt HKZ.out)).trans HKZ.out; have HBX := Lib.hid (HBw.out.trans (HB5.out.mono HBw.out.size)); obtain ⟨x1, x2, x3, s1, s2, s3, ⟨c0, f0⟩, ⟨c1, f1⟩, ⟨c2, f2⟩, hx4, hxk, HZX, hxb⟩ := set3 w6 w.heap.size 27 _ _ _ (.slice none 0 0) (.slice none 0 0) (.slice none 0 0) hzz; have HXB := Lib.hid (hxb w w.heap.size (Nat.le_refl _) HBX.out); obtain ⟨k0, k1, k2⟩ := cells3 hx4; clear hzz hx4 hxk hxb; go_wp2; refine bodyPost_ret (v := .tuple #[.agg #[.slice none 0 0, .slice none 0 0, .slice none 0 0], .bool false]) (by simp [results, Tryz.results7, go_sem, k0, k1, k2]) rfl ?_; exact ⟨⟨noP, none, 0, none, 0, none, 0, false, rfl, rdP_no _, .inr ⟨rfl, HNB.out, rfl⟩⟩, HXB.out⟩
    · have HNO := Lib.hid (show ¬ NumsG (partsF 32 r).tail by rw [HTL.out]; exact hno)
      have HB5 := Lib.hid (HB2.out.trans (b6.mono HB2.out.size)); clear hno b6; have HNB := Lib.hid (show ∀ p, ¬ BkP s p from noBk_of_step (k := k + 1) (by rw [HPE.out, HL.out]; omega) (by rw [HPE.out, HNX.out]; exact step_num HNO.out)); have hzz := (HB5.out.block _ (block_lt HKZ.out)).trans HKZ.out; have HBX := Lib.hid (HBw.out.trans (HB5.out.mono HBw.out.size)); obtain ⟨x1, x2, x3, s1, s2, s3, ⟨c0, f0⟩, ⟨c1, f1⟩, ⟨c2, f2⟩, hx4, hxk, HZX, hxb⟩ := set3 w6 w.heap.size 27 _ _ _ (.slice none 0 0) (.slice none 0 0) (.slice none 0 0) hzz; have HXB := Lib.hid (hxb w w.heap.size (Nat.le_refl _) HBX.out); obtain ⟨k0, k1, k2⟩ := cells3 hx4; clear hzz hx4 hxk hxb; go_wp2; refine bodyPost_ret (v := .tuple #[.agg #[.slice none 0 0, .slice none 0 0, .slice none 0 0], .bool false]) (by simp [results, Tryz.results7, go_sem, k0, k1, k2]) rfl ?_; exact ⟨⟨noP, none, 0, none, 0, none, 0, false, rfl, rdP_no _, .inr ⟨rfl, HNB.out, rfl⟩⟩, HXB.out⟩
  · have hltI : decide ((k : Int) + 1 < (L : Int) - 2) = false := decide_eq_false hlt
    have HEND := Lib.hid (show stG (partsF 10 s) ((partsF 10 s).length - 3) = some st by
      have e : L - 3 = k := by omega
      rw [HPE.out, HL.out, e]; exact HST.out)
    have HTS := Lib.hid (HTX.out k st HST.out (by omega)); obtain ⟨pm, cm, hvm⟩ := own_anyE HM.out; obtain ⟨pv, cv, hvv⟩ := own_anyE HV.out; obtain ⟨pr, cr, hvr⟩ := own_anyE HR.out; subst hvm hvv hvr; obtain ⟨hn1, hn2, hn3⟩ := HNN.out; have hrp : RdP wr pm pv pr st := ⟨rdS_at HM.out hn1, rdI_at HV.out hn2, rdR_at HR.out hn3⟩; have htx := r_Print pm pv pr cm cv cr st wr hrp HTS.out; unfold TextPost at htx; rw [hn1, hn2, hn3] at htx; obtain ⟨T, hT⟩ : ∃ T, textP st = T := ⟨_, rfl⟩; rw [hT] at htx; obtain ⟨o0, o1, o2⟩ := cells3 HX.out; clear hn1 hn2 hn3 hrp
    by_cases he : T = s
    · have hbe := beq_yes he
      have hbn : (T.toList != s.toList) = false := by rw [bne, hbe]; rfl
      have HBK := Lib.hid (show BkP s st from ⟨HTS.out.small, by rw [hT]; exact he⟩); clear he hT; go_wp2_with fail; refine htx.mono ?_; clear htx; rintro e w6 ⟨rfl, b6⟩; have o0 := (b6.cell (lt_of_cellq o0)).trans o0; have o1 := (b6.cell (lt_of_cellq o1)).trans o1; have o2 := (b6.cell (lt_of_cellq o2)).trans o2; have hB6 := HB.out.trans (b6.mono HB.out.size); obtain ⟨w7, w8, w9, s1, s2, s3, ⟨c0', f0'⟩, ⟨c1', f1'⟩, ⟨c2', f2'⟩, hx4, hxk, HZ9, hxb⟩ := set3 w6 w.heap.size 27 _ _ _ (.slice pm nm cm) (.slice pv nv cv) (.slice pr nr cr) ((hB6.block _ (block_lt HKZ.out)).trans HKZ.out); obtain ⟨r0, r1, r2⟩ := cells3 hx4; have HBB := Lib.hid (hxb w w.heap.size (Nat.le_refl _) (HBw.out.trans (hB6.mono HBw.out.size))); have hlow : w.heap.size < w4.heap.size := by have := HBw.out.size; have := HSZ4.out; omega
      have hm9 := own_same (w' := w9) (own_kept HM.out b6) (fun g'' hg'' => hxk g'' (by have := (HM.out.lt g'' hg'').1; omega)); have hv9 := own_same (w' := w9) (own_kept HV.out b6) (fun g'' hg'' => hxk g'' (by have := (HV.out.lt g'' hg'').1; omega)); have hr9 := own_same (w' := w9) (own_kept HR.out b6) (fun g'' hg'' => hxk g'' (by have := (HR.out.lt g'' hg'').1; omega)); have HR9 := Lib.hid (show RdP w9 pm pv pr st from ⟨rdS_at hm9 HNN.out.1, rdI_at hv9 HNN.out.2.1, rdR_at hr9 HNN.out.2.2⟩); clear hx4 hxk hxb b6 hB6 hlow hm9 hv9 hr9; go_wp2; refine bodyPost_ret (v := .tuple #[.agg #[.slice pm nm cm, .slice pv nv cv, .slice pr nr cr], .bool true]) (by simp [results, Tryz.results7, go_sem, r0, r1, r2]) rfl ?_; exact ⟨⟨st, pm, cm, pv, cv, pr, cr, true, by rw [HNN.out.1, HNN.out.2.1, HNN.out.2.2], HR9.out, .inl ⟨rfl, HBK.out, HTS.out⟩⟩, HBB.out⟩
    · have hbe := beq_no he
      have hbn : (T.toList != s.toList) = true := by rw [bne, hbe]; rfl
      have HTT := Lib.hid (show textP st ≠ s by rw [hT]; exact he); clear he hT; go_wp2_with fail; refine htx.mono ?_; clear htx; rintro e w6 ⟨rfl, b6⟩; have HB5 := Lib.hid (HB.out.trans (b6.mono HB.out.size)); clear b6; have HNB := Lib.hid (show ∀ p, ¬ BkP s p from fun p hp => HTT.out (bk_of_steps HEND.out hp)); have hzz := (HB5.out.block _ (block_lt HKZ.out)).trans HKZ.out; have HBX := Lib.hid (HBw.out.trans (HB5.out.mono HBw.out.size)); obtain ⟨x1, x2, x3, s1, s2, s3, ⟨c0, f0⟩, ⟨c1, f1⟩, ⟨c2, f2⟩, hx4, hxk, HZX, hxb⟩ := set3 w6 w.heap.size 27 _ _ _ (.slice none 0 0) (.slice none 0 0) (.slice none 0 0) hzz; have HXB := Lib.hid (hxb w w.heap.size (Nat.le_refl _) HBX.out); obtain ⟨k0, k1, k2⟩ := cells3 hx4; clear hzz hx4 hxk hxb; go_wp2; refine bodyPost_ret (v := .tuple #[.agg #[.slice none 0 0, .slice none 0 0, .slice none 0 0], .bool false]) (by simp [results, Tryz.results7, go_sem, k0, k1, k2]) rfl ?_
      exact ⟨⟨noP, none, 0, none, 0, none, 0, false, rfl, rdP_no _, .inr ⟨rfl, HNB.out, rfl⟩⟩, HXB.out⟩
end Go.Proofs.YtbknfddaoolagaaGreatDoor
end

section
namespace Go.Proofs.YtbknfddaoolagaaGreatDoor
open Go Go.RowKit Go.Proofs Go.Shelf
set_option linter.unusedVariables false
set_option linter.unusedSimpArgs false

set_option maxHeartbeats 3200000 in
set_option maxRecDepth 100000 in
theorem law_Reads (s : ByteArray) (m : Int) (w : World) (hl : s.size ≤ maxLen) (hm : MaxL m w) (hi : ItoaG w) :
    Calls Tryz.prog 3 #[.string s] w (LawPost w) := by
  have HM := Lib.hid hm; have HI := Lib.hid hi
  by_cases h5 : s.size > 500
  · have h5I : decide ((s.size : Int) > 500) = true := decide_eq_true (by omega)
    have HB := Lib.hid (Below.refl w.heap.size w); clear h5 hl hm hi
    go_enter Tryz.func3, Tryz.ntmps3
    (go_wp2_with fail); refine (c_known m _ (HM.out.below HB.out) (HI.out.below HB.out)).mono ?_; rintro e wn ⟨rfl, bq⟩; have HFK := Lib.hid (HB.out.trans (bq.mono HB.out.size)); clear bq; go_wp2; go_ret; exact ⟨rfl, HFK.out⟩
  have h5I : decide ((s.size : Int) > 500) = false := decide_eq_false (by omega); have hs5 : s.size ≤ 500 := by omega
  have HS5 := Lib.hid hs5; have hcr := c_Read s m w (by omega) hm hi; clear h5 hl hm hi hs5
  go_enter Tryz.func3, Tryz.ntmps3
  (go_wp2_with fail); refine hcr.mono ?_
  clear hcr; rintro e wn ⟨⟨q, qm, dm, qv, dv, qr, dr, er, rfl, hq, hrr⟩, bq⟩; have HRR := Lib.hid hrr; obtain ⟨wx, e2, HS2, q0, q1, q2, b2⟩ := box3 wn (.slice qm q.ms.length dm) (.slice qv q.mv.length dv) (.slice qr q.rs.length dr) 27; have HB := Lib.hid (bq.trans (b2.mono bq.size)); have HQ := Lib.hid (hq.below b2); have hrx := r_Read s wx HS5.out; clear hrr hq bq b2
  (go_wp2_with fail); refine hrx.mono ?_
  clear hrx e2; rintro e wy ⟨⟨x, xm, cm, xv, cv, xr, cr, b, rfl, hx, hxx⟩, bq⟩; obtain ⟨wz, e3, HS3, x0, x1, x2, b3⟩ := box3 wy (.slice xm x.ms.length cm) (.slice xv x.mv.length cv) (.slice xr x.rs.length cr) 27; replace bq := bq.trans (b3.mono bq.size); replace HB := Lib.hid (HB.out.trans (bq.mono HB.out.size)); replace HQ := Lib.hid (HQ.out.below bq); have q0 := (bq.cell (lt_of_cellq q0)).trans q0; have q1 := (bq.cell (lt_of_cellq q1)).trans q1; have q2 := (bq.cell (lt_of_cellq q2)).trans q2; have HX := Lib.hid (hx.below b3); clear hx bq b3
  have hcs : ∀ W, RdP W qm qv qr noP → Calls Tryz.prog 9 #[.agg #[.slice qm 0 dm, .slice qv 0 dv, .slice qr 0 dr], .agg #[.slice none 0 0, .slice none 0 0, .slice none 0 0]] W fun e w' => e = .returned (.bool true) ∧ Below W.heap.size W w' := fun W hW =>
    (c_samePieces qm qv qr dm dv dr noP none none none 0 0 0 noP W hW (rdP_no W) ⟨by decide, by decide, by decide⟩).mono fun e w' h => by
      obtain ⟨⟨b, rfl, hb⟩, hbe⟩ := h; obtain rfl : b = true := hb.2 rfl; exact ⟨rfl, hbe⟩
  have HCS := Lib.hid hcs; clear hcs
  by_cases h4 : 400 < s.size
  · have h4I : decide ((s.size : Int) > 400) = true := decide_eq_true (by omega)
    obtain ⟨rfl, rfl⟩ := read_long h4 HRR.out; clear h4 hxx
    (go_wp2_with fail); refine (HCS.out _ HQ.out).mono ?_
    clear e3; rintro e wn ⟨rfl, bq⟩; replace HB := Lib.hid (HB.out.trans (bq.mono HB.out.size)); clear bq
    (go_wp2_with fail); refine (c_known m _ (HM.out.below HB.out) (HI.out.below HB.out)).mono ?_; rintro e wn ⟨rfl, bq⟩; have HFK := Lib.hid (HB.out.trans (bq.mono HB.out.size)); clear bq; go_wp2; go_ret; exact ⟨rfl, HFK.out⟩
  have h4I : decide ((s.size : Int) > 400) = false := decide_eq_false (by omega); have h4' : s.size ≤ 400 := by omega
  rcases hxx with ⟨rfl, hbk, hto⟩ | ⟨rfl, hno, hx0⟩
  · have HLN := Lib.hid (lenOk_text hto)
    rcases hpc : pieceB x with _ | _
    · obtain ⟨rfl, rfl⟩ := read_bad h4' hbk hpc HRR.out
      have HPC := Lib.hid hpc; clear hpc hbk hto h4 h4'
      (go_wp2_with fail); refine (r_Piece xm xv xr cm cv cr x _ HX.out HLN.out).mono ?_
      rw [HPC.out]; clear e3; rintro e wn ⟨rfl, bq⟩; replace HB := Lib.hid (HB.out.trans (bq.mono HB.out.size)); replace HQ := Lib.hid (HQ.out.below bq); have q0 := (bq.cell (lt_of_cellq q0)).trans q0; have q1 := (bq.cell (lt_of_cellq q1)).trans q1; have q2 := (bq.cell (lt_of_cellq q2)).trans q2; clear bq
      (go_wp2_with fail); refine (HCS.out _ HQ.out).mono ?_
      rintro e wn ⟨rfl, bq⟩; replace HB := Lib.hid (HB.out.trans (bq.mono HB.out.size)); clear bq
      (go_wp2_with fail); refine (c_known m _ (HM.out.below HB.out) (HI.out.below HB.out)).mono ?_; rintro e wn ⟨rfl, bq⟩; have HFK := Lib.hid (HB.out.trans (bq.mono HB.out.size)); clear bq; go_wp2; go_ret; exact ⟨rfl, HFK.out⟩
    · obtain ⟨rfl, rfl⟩ := read_good h4' hbk hpc HRR.out
      have HPC := Lib.hid hpc; have HT := Lib.hid hbk.2; clear hpc hbk hto h4 h4' HCS
      (go_wp2_with fail); refine (r_Piece xm xv xr cm cv cr q _ HX.out HLN.out).mono ?_
      rw [HPC.out]; clear e3; rintro e wn ⟨rfl, bq⟩; replace HB := Lib.hid (HB.out.trans (bq.mono HB.out.size)); replace HQ := Lib.hid (HQ.out.below bq); replace HX := Lib.hid (HX.out.below bq); have q0 := (bq.cell (lt_of_cellq q0)).trans q0; have q1 := (bq.cell (lt_of_cellq q1)).trans q1; have q2 := (bq.cell (lt_of_cellq q2)).trans q2; have x0 := (bq.cell (lt_of_cellq x0)).trans x0; have x1 := (bq.cell (lt_of_cellq x1)).trans x1; have x2 := (bq.cell (lt_of_cellq x2)).trans x2; clear bq
      (go_wp2_with fail); refine (c_Print qm qv qr dm dv dr q _ HQ.out HLN.out (HI.out.below HB.out)).mono ?_
      unfold PrintPost; rw [HPC.out, HT.out]; simp only [if_true]; rintro e wn ⟨rfl, bq⟩; replace HB := Lib.hid (HB.out.trans (bq.mono HB.out.size)); replace HQ := Lib.hid (HQ.out.below bq); replace HX := Lib.hid (HX.out.below bq); have q0 := (bq.cell (lt_of_cellq q0)).trans q0; have q1 := (bq.cell (lt_of_cellq q1)).trans q1; have q2 := (bq.cell (lt_of_cellq q2)).trans q2; have x0 := (bq.cell (lt_of_cellq x0)).trans x0; have x1 := (bq.cell (lt_of_cellq x1)).trans x1; have x2 := (bq.cell (lt_of_cellq x2)).trans x2; clear bq; have hbb : (s.toList == s.toList) = true := beq_self_eq_true _
      (go_wp2_with fail); refine (c_samePieces qm qv qr dm dv dr q xm xv xr cm cv cr q _ HQ.out HX.out HLN.out).mono ?_
      rintro e wn ⟨⟨b, rfl, hb⟩, bq⟩; obtain rfl : b = true := hb.2 rfl; clear hb
      skip; replace HB := Lib.hid (HB.out.trans (bq.mono HB.out.size)); clear bq
      (go_wp2_with fail); refine (c_known m _ (HM.out.below HB.out) (HI.out.below HB.out)).mono ?_; rintro e wn ⟨rfl, bq⟩; have HFK := Lib.hid (HB.out.trans (bq.mono HB.out.size)); clear bq; go_wp2; go_ret; exact ⟨rfl, HFK.out⟩
  · subst hx0
    obtain ⟨rfl, rfl⟩ := read_none h4' hno HRR.out; clear h4 h4' hno
    (go_wp2_with fail); refine (HCS.out _ HQ.out).mono ?_
    clear e3; rintro e wn ⟨rfl, bq⟩; replace HB := Lib.hid (HB.out.trans (bq.mono HB.out.size)); clear bq
    (go_wp2_with fail); refine (c_known m _ (HM.out.below HB.out) (HI.out.below HB.out)).mono ?_; rintro e wn ⟨rfl, bq⟩; have HFK := Lib.hid (HB.out.trans (bq.mono HB.out.size)); clear bq; go_wp2; go_ret; exact ⟨rfl, HFK.out⟩
end Go.Proofs.YtbknfddaoolagaaGreatDoor
end

section
namespace Go.Proofs.YtbknfddaoolagaaGreatDoor
open Go Go.ChangeShapes Go.WideShapes Go.ChangeAt Go.RowKit Go.Proofs
set_option linter.unusedVariables false

set_option maxRecDepth 100000 in
theorem slackReads_lifted (os : Os) (started : os.Started) (H : Type) (enc : TypeId × Value → H) :
    ReturnsInHanded {} Tryz.checked os 3 .any (fun w args => (Rows.slackReadsSpec.pre enc Tryz.prog Tryz.f3 [] false w args ∧ laidMetH Tryz.prog lay5 w) ∧ sizedMet enc Tryz.prog Tryz.f3 (OpenSpec.ofChange Rows.slackReadsSpec) false w args)
      (Rows.slackReadsSpec.post enc Tryz.prog Tryz.f3 false true false false) := by
  refine returns_listed (C := Tryz.checked) (X := fun w _ => laidMetH Tryz.prog lay5 w) (fun _ _ _ hh h => h.of_heap hh) ownT started (by kernel_rfl) Tryz.func3
    (ChangeSpec.witness_shaped (enc := enc) (C := Tryz.checked) (os := os) (X := fun w _ => laidMetH Tryz.prog lay5 w) false (World.laidAll Tryz.prog os lay5) #[.string ByteArray.empty] 12 (World.laidAll_os _ _ _)
      (World.shaped_of_ZipB (by kernel_rfl) (by kernel_rfl)) (by kernel_rfl) (by kernel_rfl) (by kernel_rfl)
      (by rw [MakeChecks.laidMetH_plain _ _ _ (by kernel_rfl)]; exact laidMet_laidAll _ (by kernel_rfl) (by kernel_rfl))) ?_
  intro W base args ds gs before hval0 hW hX hSh; have hval : ∀ (j : Nat) t v, Tryz.f3.params[j]? = some t → args[j]? = some v → Value.okWide Tryz.prog W .any base t v := hval0; have hW' := hW; obtain ⟨p, q, hA0, hV, rfl, _, _⟩ := hW; have hA : DataW.TrodAll enc Tryz.prog W 0 (fun _ => true) true Tryz.f3.params.toList args.toList ds p := hA0; rw [Tryz.params3] at hA hval; obtain ⟨v0, vs0, d0, ds0, p0, q0, hargs, rfl, rfl, h0, r0⟩ := trodAll_cons hA; obtain ⟨rfl, rfl, rfl⟩ := trodAll_nil r0; obtain rfl : args = #[v0] := by cases args; simp_all
  obtain ⟨rfl, rfl⟩ := trodVars_none hV; obtain ⟨s0, rfl, hl0⟩ := op_string (hval 0 9 v0 rfl rfl) h0; clear hA0 hval0; obtain ⟨m, hm⟩ := maxLen_of hSh; have hit := itoaG_of (pow10_of hX); refine (law_Reads s0 m W hl0 hm hit).mono fun e W' ⟨he, bel⟩ => ?_
  subst he; exact ⟨_, rfl, _, _, _, [], _, [], hW', trodAll_mk1 (shut_bool Tryz.underlying4 _), (trodAll_cons_mk (Below.trod laidOutT (by kernel_rfl) (of_decide_eq_true (by kernel_rfl)) h0 bel (trod_lt h0)) trodAll_mk0), rfl, bel.frame _, fun h => by cases h⟩
theorem slackReads_wf : Rows.slackReadsRow.wf (OpenSpec.ofChange Rows.slackReadsSpec) = true := by kernel_rfl
theorem slackReads_inPlace : (Rows.slackReadsRow.inPlace == Tryz.prog.inPlace 3) = true := by kernel_rfl
theorem slackReads_unfollowed : (Rows.slackReadsRow.unfollowed == Tryz.prog.unfollowed 3) = true := by kernel_rfl
theorem slackReads_recurses : (Rows.slackReadsRow.recurses == Tryz.prog.recurses 3) = true := by kernel_rfl
theorem slackReads_named : (Rows.slackReadsRow.named == Tryz.prog.varsNamed 3) = true := by kernel_rfl
theorem slackReads_goes : false = Rows.slackReadsRow.goesBy Tryz.prog := by kernel_rfl
theorem slackReads_func : Tryz.prog.funcNamed Rows.slackReadsRow.func = some 3 := by kernel_rfl
theorem slackReads_text : Rows.slackReadsRow.wfByText (OpenSpec.ofChange Rows.slackReadsSpec) = true := by kernel_rfl
theorem slackReads_closed : joinedFacts Tryz.prog 3 Tryz.f3 Rows.slackReadsSpec Rows.slackReadsRow = true :=
  (and_t (and_t (and_t (and_t (and_t (and_t (and_t (and_t (and_t (and_t (and_t (and_t (and_t (and_t (and_t (and_t (and_t (and_t (and_t (and_t (and_t (and_t (and_t (and_t (and_t (and_t (and_t (and_t (and_t (and_t (and_t slackReads_wf tLaidOut) tMaps) (by kernel_rfl)) (by kernel_rfl)) (by kernel_rfl)) (by kernel_rfl)) (by kernel_rfl)) (by kernel_rfl)) slackReads_inPlace) slackReads_unfollowed) slackReads_recurses) slackReads_named) (by kernel_rfl)) (by kernel_rfl)) (by kernel_rfl)) (by kernel_rfl)) (by kernel_rfl)) (by kernel_rfl)) (by kernel_rfl)) (by kernel_rfl)) (by kernel_rfl)) (by kernel_rfl)) (by kernel_rfl)) tHeard) tMayEnter) (eq_t (α := Bool) tFinal.symm)) (eq_t tMake)) (by kernel_rfl)) (by kernel_rfl)) (by kernel_rfl)) (by kernel_rfl))
theorem slackReads_wrap : Func.isWrapper Tryz.prog Tryz.f3 Rows.slackReadsRow.wrapper Rows.slackReadsRow.mainSum := by unfold Func.isWrapper; rw [if_neg (of_decide_eq_false (by kernel_rfl))]; exact ⟨rfl, rfl⟩
theorem slackReads_row : Rows.SlackReadsSaid :=
  OpenClaim.holds_of_wide 3 Tryz.f3 rfl rfl rfl rfl rfl rfl rfl ⟨rfl, rfl, rfl, rfl, rfl⟩ rfl rfl rfl rfl rfl slackReads_func Tryz.func3 slackReads_closed (of_decide_eq_true (by kernel_rfl)) slackReads_wrap (fun os started H enc _ => slackReads_lifted os started H enc)
theorem slackReads_plain : ∀ (j : Nat) t, Tryz.f3.params[j]? = some t → Tryz.prog.wantsStandIn t = false := fun j t ht => by
  rw [Tryz.params3] at ht; have hm : t ∈ [9] := by simpa using Array.mem_of_getElem? ht
  have hall : ([9].all fun u => !Tryz.prog.wantsStandIn u) = true := by kernel_rfl
  exact (show Tryz.prog.wantsStandIn t = false by simpa using List.all_eq_true.1 hall t hm)
theorem slackReads_holds : Rows.SlackReadsCardSaid :=
  Claim7.holds_tied_plain_at .later [] [.data, .data, .data, .data, .pinned] true (true, "5bdd96df082b05ead8f499b068607ad6f70edb0fd0d8d9298370081f32bba95f") true slackReads_row (fun _ h => by cases h) slackReads_text (fun _ h => by cases h) slackReads_row_tie rfl ⟨rfl, rfl⟩ tMainIs rfl
    (fun f fn hf hfn => by
      obtain rfl : f = 3 := Option.some.inj (slackReads_func.symm.trans hf) |>.symm
      obtain rfl : fn = Tryz.f3 := (Option.some.inj (Tryz.func3.symm.trans hfn)).symm; exact ⟨tLooks, slackReads_plain⟩)
    slackReads_goes
#print axioms slackReads_holds
end Go.Proofs.YtbknfddaoolagaaGreatDoor
end
