/-
  Steps of drawn regions: an index that is a constant, an element of an array, two strings that are compared.
  Contracts of the library, as the shelf lays them at this dump (by the kit's tools, in plain words).
  A text cut at single bytes, by the document (the walk).
  The text of a book by the document (the walk).
  Slices of slices of numbers that a call makes, row by row.
  A row of a text: its word, its numbers (the walk); what is given up with.
  A text read as a book by the program (the walk).
-/
import Derived.Test.YtncfgkhbenmpoaaGreatDoorGb
import Derived.Shelf.Strings.Builder1
import Derived.Shelf.Strings.Builder2
import Derived.Shelf.Strings.OnBuilder
import Derived.Shelf.Utf8.RuneCount
import Derived.Shelf.Strconv.Itoa0
import Derived.Shelf.Strconv.Itoa1
import Derived.Shelf.LaysM
import Derived.Shelf.Strconv.Itoa2
import Derived.Shelf.Strconv.Itoa3
import Derived.Shelf.Strings.Search1
import Derived.Shelf.Strings.Search2
import Derived.Shelf.Strings.Search3
import Derived.Shelf.Strings.Count
import Derived.Shelf.Strings.Shaped
import Derived.Shelf.Strings.Split
import Derived.Shelf.Strings.SplitShaped
import Derived.Shelf.Unicode.Decode
import Derived.Shelf.Strings.RuneCount
import Derived.Shelf.Strings.Explode
import Derived.Shelf.Bits.Mul64
import Derived.Shelf.Unicode.DecodeSlow
import Derived.Shelf.Unicode.DecodeAny
import Derived.Ground.Names2Prog
import Derived.Shelf.Slices.Clone
import Derived.Ground.SlgnProg
import Derived.Shelf.SlicesE.Clone
import Derived.Test.YtncfgkhbenmpoaaGreatDoorProg
import Derived.Test.YtncfgkhbenmpoaaGreatDoorGy
import Derived.Test.YtncfgkhbenmpoaaGreatDoorGe
import Derived.Laws.RangeAny
import Derived.Lib.AppendIntMem
section
namespace Go.Proofs.YtncfgkhbenmpoaaGreatDoor
open Go Go.RowKit Go.Proofs
set_option linter.unusedVariables false
section
variable {P : Program} {ops : Array Oper} {C : World → Prop} {Q : Act → Prop} {rest : List Oper} {a : Act} {d : Nat} {x y : Operand} {ty t t' : TypeId} {pos : String} {af : Array Edge} {g : Option (Nat × Bool)}
theorem wq_ixn (j : Nat) {e : TypeId} {sz : Nat} (hu : P.underlying t = some (.slice e)) (hs : ((P.info? e).map fun i => i.size) = some sz)
    (hw : Region.wanted ⟨some d, .indexAddr t x y, ty, pos, af, g⟩ (yielded ops a.tmps) = true) {b off len cap : Nat} {n : Int} (hx : a.eval x = .slice (some ⟨b, off, none⟩) len cap) (hy : a.eval y = .int .i64 n) (hn : n = (j : Int)) (h1 : j < len)
    (hk : wpQuiet P ops C Q rest (a.put (some d) (.pointer (some ⟨b, off + j * sz, none⟩)))) : wpQuiet P ops C Q (⟨some d, .indexAddr t x y, ty, pos, af, g⟩ :: rest) a := by
  subst hn
  exact wq_ix hu hs hw hx hy h1 hk
theorem wq_ixa {v i u : Value} (hr : ∀ w, (Instr.index t v i).run P w = .ok u w) (hw : Region.wanted ⟨some d, .index t x y, ty, pos, af, g⟩ (yielded ops a.tmps) = true) (hx : a.eval x = v) (hy : a.eval y = i)
    (hk : wpQuiet P ops C Q rest (a.put (some d) u)) : wpQuiet P ops C Q (⟨some d, .index t x y, ty, pos, af, g⟩ :: rest) a :=
  wq hw (q_val (o := ⟨some d, .index t x y, ty, pos, af, g⟩) u (fun w _ => by unfold execOp; dsimp only; rw [hx, hy]; simp [hr]) hk)
theorem wq_eqls {s u : ByteArray} {b : Bool} (hb : (s.toList == u.toList) = b) (hw : Region.wanted ⟨some d, .binOp .eql t x y t', ty, pos, af, g⟩ (yielded ops a.tmps) = true) (hx : a.eval x = .string s) (hy : a.eval y = .string u)
    (hk : wpQuiet P ops C Q rest (a.put (some d) (.bool b))) : wpQuiet P ops C Q (⟨some d, .binOp .eql t x y t', ty, pos, af, g⟩ :: rest) a :=
  wq hw (q_val (o := ⟨some d, .binOp .eql t x y t', ty, pos, af, g⟩) (.bool b) (fun w _ => by unfold execOp; dsimp only; rw [hx, hy]; simp [go_sem, hb]) hk)
end
theorem ag9 (w : World) : (isAgg 9).run Tryz.prog w = .ok false w := by kernel_rfl
theorem sz9 : ((Tryz.prog.info? 9).map fun i => i.size) = some 1 := by kernel_rfl
end Go.Proofs.YtncfgkhbenmpoaaGreatDoor
end

section
namespace Go.Proofs
open Go.Shelf
def Tryz.laysM171_ren : Go.Shelf.Ren := ⟨fun | 171 => 145 | 243 => 158 | 246 => 167 | 283 => 173 | 284 => 174 | 285 => 175 | 286 => 176 | 129 => 184 | 317 => 183 | 318 => 185 | 319 => 186 | 320 => 187 | 337 => 193 | 338 => 194 | n => n, fun | 3 => 3 | 9 => 9 | 2 => 2 | 4 => 4 | 171 => 203 | 0 => 0 | 53 => 196 | 37 => 102 | 5 => 5 | 173 => 206 | 212 => 215 | 51 => 193 | 20 => 20 | 213 => 216 | 46 => 173 | 232 => 224 | 233 => 225 | n => n, fun | 17 => 0 | 18 => 4 | 19 => 5 | n => n⟩
theorem Tryz.laysM171 : Go.Proofs.LaysM.n171 Tryz.prog Tryz.laysM171_ren := {
  mixed := by kernel_rfl
  f129 := Tryz.func184.trans (congrArg some (by kernel_rfl))
  f171 := Tryz.func145.trans (congrArg some (by kernel_rfl))
  f243 := Tryz.func158.trans (congrArg some (by kernel_rfl))
  f246 := Tryz.func167.trans (congrArg some (by kernel_rfl))
  f283 := Tryz.func173.trans (congrArg some (by kernel_rfl))
  f284 := Tryz.func174.trans (congrArg some (by kernel_rfl))
  f285 := Tryz.func175.trans (congrArg some (by kernel_rfl))
  f286 := Tryz.func176.trans (congrArg some (by kernel_rfl))
  f317 := Tryz.func183.trans (congrArg some (by kernel_rfl))
  f318 := Tryz.func185.trans (congrArg some (by kernel_rfl))
  f319 := Tryz.func186.trans (congrArg some (by kernel_rfl))
  f320 := Tryz.func187.trans (congrArg some (by kernel_rfl))
  f337 := Tryz.func193.trans (congrArg some (by kernel_rfl))
  f338 := Tryz.func194.trans (congrArg some (by kernel_rfl))
  t0 := Tryz.underlying0
  a0 := Tryz.isAgg0
  z0 := Tryz.sizeOf0
  v0 := Tryz.zeroValue0
  t2 := Tryz.underlying2
  a2 := Tryz.isAgg2
  z2 := Tryz.sizeOf2
  v2 := Tryz.zeroValue2
  t3 := Tryz.underlying3
  a3 := Tryz.isAgg3
  z3 := Tryz.sizeOf3
  v3 := Tryz.zeroValue3
  t4 := Tryz.underlying4
  a4 := Tryz.isAgg4
  z4 := Tryz.sizeOf4
  v4 := Tryz.zeroValue4
  t5 := Tryz.underlying5
  a5 := Tryz.isAgg5
  z5 := Tryz.sizeOf5
  v5 := Tryz.zeroValue5
  t9 := Tryz.underlying9
  a9 := Tryz.isAgg9
  z9 := Tryz.sizeOf9
  v9 := Tryz.zeroValue9
  t20 := Tryz.underlying20
  a20 := Tryz.isAgg20
  z20 := Tryz.sizeOf20
  v20 := Tryz.zeroValue20
  t37 := Tryz.underlying102
  a37 := Tryz.isAgg102
  z37 := Tryz.sizeOf102
  v37 := Tryz.zeroValue102
  t46 := Tryz.underlying173
  a46 := Tryz.isAgg173
  z46 := Tryz.sizeOf173
  v46 := Tryz.zeroValue173
  t51 := Tryz.underlying193
  a51 := Tryz.isAgg193
  z51 := Tryz.sizeOf193
  v51 := Tryz.zeroValue193
  t53 := Tryz.underlying196
  a53 := Tryz.isAgg196
  z53 := Tryz.sizeOf196
  v53 := Tryz.zeroValue196
  t171 := Tryz.underlying203
  a171 := Tryz.isAgg203
  z171 := Tryz.sizeOf203
  v171 := Tryz.zeroValue203
  t173 := Tryz.underlying206
  a173 := Tryz.isAgg206
  z173 := Tryz.sizeOf206
  v173 := Tryz.zeroValue206
  t212 := Tryz.underlying215
  a212 := Tryz.isAgg215
  z212 := Tryz.sizeOf215
  v212 := Tryz.zeroValue215
  t213 := Tryz.underlying216
  a213 := Tryz.isAgg216
  z213 := Tryz.sizeOf216
  t232 := Tryz.underlying224
  a232 := Tryz.isAgg224
  z232 := Tryz.sizeOf224
  v232 := Tryz.zeroValue224
  t233 := Tryz.underlying225
  a233 := Tryz.isAgg225
  z233 := Tryz.sizeOf225
  v233 := Tryz.zeroValue225
  g17 := by kernel_rfl
  g18 := by kernel_rfl
  g19 := by kernel_rfl
  i0 := by kernel_rfl
  i2 := by kernel_rfl
  i3 := by kernel_rfl
  i4 := by kernel_rfl
  i5 := by kernel_rfl
  i9 := by kernel_rfl
  i20 := by kernel_rfl
  i37 := by kernel_rfl
  i46 := by kernel_rfl
  i51 := by kernel_rfl
  i53 := by kernel_rfl
  i171 := by kernel_rfl
  i173 := by kernel_rfl
  i212 := by kernel_rfl
  i232 := by kernel_rfl
  i233 := by kernel_rfl
  m17 := by kernel_rfl
  m18 := by kernel_rfl
  m19 := by kernel_rfl }
open Go.RowKit Go.Sort Go.Lib in
/-- strconv.Itoa: "Itoa is equivalent to FormatInt(int64(i), 10).": i's DECIMAL NUMERAL ('Lib.itoa': a '-' where i is negative, then the digits), FOR EVERY int. The world behind the call: the world before it, new blocks behind the heap (the library's 'var a [24]byte'), draws. (LAID: no walk: one application.) -/
theorem Tryz.strconv_Itoa (n : Int) (h0 : -9223372036854775808 ≤ n) (h1 : n ≤ 9223372036854775807) (w : World) (htab : Lib.TabIs Tryz.prog w "internal/strconv.uint64pow10" .u64 Lib.pow10Tab) :
    Calls Tryz.prog 145 #[.int .i64 n] w fun e w' => e = .returned (.string ⟨(Lib.itoa n).toArray⟩) ∧ ∃ k os, w' = grow (w.drewN k) os := Any.strconv_Itoa Tryz.laysM171 n h0 h1 w htab
def Tryz.lays146_ren : Go.Shelf.Ren := ⟨fun | 146 => 147 | 221 => 162 | 268 => 170 | 138 => 171 | 143 => 172 | 195 => 179 | 197 => 180 | 218 => 181 | 219 => 182 | 260 => 188 | 217 => 189 | 225 => 190 | 224 => 191 | 267 => 192 | 266 => 195 | 314 => 196 | n => n, fun | 9 => 9 | 31 => 138 | 3 => 3 | 4 => 4 | 0 => 0 | 105 => 211 | 21 => 21 | 5 => 5 | 46 => 173 | 119 => 219 | 139 => 222 | 138 => 221 | 146 => 194 | 51 => 193 | n => n, fun | 1 => 1 | 3 => 2 | 4 => 3 | n => n⟩
theorem Tryz.lays146 : Go.Proofs.Lays.n146 Tryz.prog Tryz.lays146_ren := {
  mixed := by kernel_rfl
  f138 := Tryz.func171.trans (congrArg some (by kernel_rfl))
  f143 := Tryz.func172.trans (congrArg some (by kernel_rfl))
  f146 := Tryz.func147.trans (congrArg some (by kernel_rfl))
  f195 := Tryz.func179.trans (congrArg some (by kernel_rfl))
  f197 := Tryz.func180.trans (congrArg some (by kernel_rfl))
  f217 := Tryz.func189.trans (congrArg some (by kernel_rfl))
  f218 := Tryz.func181.trans (congrArg some (by kernel_rfl))
  f219 := Tryz.func182.trans (congrArg some (by kernel_rfl))
  f221 := Tryz.func162.trans (congrArg some (by kernel_rfl))
  f224 := Tryz.func191.trans (congrArg some (by kernel_rfl))
  f225 := Tryz.func190.trans (congrArg some (by kernel_rfl))
  f260 := Tryz.func188.trans (congrArg some (by kernel_rfl))
  f266 := Tryz.func195.trans (congrArg some (by kernel_rfl))
  f267 := Tryz.func192.trans (congrArg some (by kernel_rfl))
  f268 := Tryz.func170.trans (congrArg some (by kernel_rfl))
  f314 := Tryz.func196.trans (congrArg some (by kernel_rfl))
  t0 := Tryz.underlying0
  a0 := Tryz.isAgg0
  z0 := Tryz.sizeOf0
  v0 := Tryz.zeroValue0
  t3 := Tryz.underlying3
  a3 := Tryz.isAgg3
  z3 := Tryz.sizeOf3
  v3 := Tryz.zeroValue3
  t4 := Tryz.underlying4
  a4 := Tryz.isAgg4
  z4 := Tryz.sizeOf4
  v4 := Tryz.zeroValue4
  t5 := Tryz.underlying5
  a5 := Tryz.isAgg5
  z5 := Tryz.sizeOf5
  v5 := Tryz.zeroValue5
  t9 := Tryz.underlying9
  a9 := Tryz.isAgg9
  z9 := Tryz.sizeOf9
  v9 := Tryz.zeroValue9
  t21 := Tryz.underlying21
  a21 := Tryz.isAgg21
  z21 := Tryz.sizeOf21
  v21 := Tryz.zeroValue21
  t31 := Tryz.underlying138
  a31 := Tryz.isAgg138
  z31 := Tryz.sizeOf138
  v31 := Tryz.zeroValue138
  t46 := Tryz.underlying173
  a46 := Tryz.isAgg173
  z46 := Tryz.sizeOf173
  v46 := Tryz.zeroValue173
  t51 := Tryz.underlying193
  a51 := Tryz.isAgg193
  z51 := Tryz.sizeOf193
  v51 := Tryz.zeroValue193
  t105 := Tryz.underlying211
  a105 := Tryz.isAgg211
  z105 := Tryz.sizeOf211
  v105 := Tryz.zeroValue211
  t119 := Tryz.underlying219
  a119 := Tryz.isAgg219
  z119 := Tryz.sizeOf219
  t138 := Tryz.underlying221
  a138 := Tryz.isAgg221
  z138 := Tryz.sizeOf221
  v138 := Tryz.zeroValue221
  t139 := Tryz.underlying222
  a139 := Tryz.isAgg222
  z139 := Tryz.sizeOf222
  v139 := Tryz.zeroValue222
  t146 := Tryz.underlying194
  a146 := Tryz.isAgg194
  z146 := Tryz.sizeOf194
  v146 := Tryz.zeroValue194
  g1 := by kernel_rfl
  g3 := by kernel_rfl
  g4 := by kernel_rfl }
open Go.RowKit Go.Lib in
/-- strings.Split. (LAID: no walk: one application.) -/
theorem Tryz.strings_Split (s sep : ByteArray) (m : Int) (w : World) (hs : s.size < 4294967281) (hm : w.cell? ⟨1, 0, none⟩ = some (.int .i64 m)) (h1 : 1 ≤ sep.size) :
    Calls Tryz.prog 147 #[.string s, .string sep] w fun e w' =>
      e = .returned (.slice (some ⟨w.heap.size, 0, none⟩) (Lib.countB s sep + 1) (Lib.countB s sep + 1)) ∧ w' = w.alloc (.cells ((Lib.splitB sep 0 (Lib.countB s sep) s).map Value.string).toArray 9) := Any.strings_Split Tryz.lays146 (by kernel_rfl) s sep m w hs hm h1
end Go.Proofs
end

section
namespace Go.Proofs.YtncfgkhbenmpoaaGreatDoor
open Go Go.RowKit Go.Proofs Go.Shelf
set_option linter.unusedVariables false

theorem RdT.below {w w' : World} {p : Option Addr} {ls : List ByteArray} (h : RdT w p ls) (hb : Below w.heap.size w w') : RdT w' p ls := by
  obtain ⟨b, rfl, h⟩ := h
  exact ⟨b, rfl, fun i hi => (hb.cell (lt_of_cellq (h i hi))).trans (h i hi)⟩
theorem rdt_of_own {w : World} {B n : Nat} {v : Value} {ls : List ByteArray} (h : w.ownsRow B 9 1 v (n + 1) (stV ls)) (hl : ls.length = n + 1) : ∃ g cap, v = .slice (some ⟨g, 0, none⟩) (n + 1) cap ∧ RdT w (some ⟨g, 0, none⟩) ls := by
  obtain ⟨g, cap, rfl⟩ := ownsRow_succ h
  refine ⟨g, cap, rfl, g, rfl, fun i hi => ?_⟩
  have := h.cells (g := g) rfl i _ (stV_get ls i hi)
  rwa [add_new] at this

/-- the text up to k is cut: parts are done, the part from m on is open -/
def CutAt (c : UInt8) (s : ByteArray) (done : List ByteArray) (m k : Nat) : Prop := cutL c s.data.toList = done.map (·.data.toList) ++ pre (s.extract m k).data.toList (cutL c (s.data.toList.drop k))
theorem cutAt_start (c : UInt8) (s : ByteArray) : CutAt c s [] 0 0 := by
  unfold CutAt
  rw [Lib.extract_data]
  simp [pre_nil]
theorem drop_byte {s : ByteArray} {k : Nat} (hk : k < s.size) : s.data.toList.drop k = s.data.getD k 0 :: s.data.toList.drop (k + 1) := by
  have hk' : k < s.data.toList.length := by rw [← size_toList]; exact hk
  have e : s.data.getD k 0 = s.data.toList[k] := by
    unfold Array.getD
    rw [dif_pos (show k < s.data.size from hk)]; simp
  rw [List.drop_eq_getElem_cons hk', e]
theorem cutAt_hit {c : UInt8} {s : ByteArray} {done : List ByteArray} {m k : Nat} (h : CutAt c s done m k) (hk : k < s.size) (hc : s.data.getD k 0 = c) : CutAt c s (done ++ [s.extract m k]) (k + 1) (k + 1) := by
  unfold CutAt at h ⊢
  rw [drop_byte hk, hc, pre_hit] at h
  rw [h, Lib.extract_data s (k + 1) (k + 1), Nat.sub_self, List.take_zero, pre_nil, List.map_append]
  simp
theorem cutAt_other {c : UInt8} {s : ByteArray} {done : List ByteArray} {m k : Nat} (h : CutAt c s done m k) (hk : k < s.size) (hm : m ≤ k) (hc : s.data.getD k 0 ≠ c) : CutAt c s done m (k + 1) := by
  unfold CutAt at h ⊢
  rw [drop_byte hk, pre_other hc] at h
  rw [h]
  congr 2
  rw [Lib.extract_data, Lib.extract_data, show k + 1 - m = (k - m) + 1 by omega]
  have hk' : k - m < (s.data.toList.drop m).length := by rw [List.length_drop, ← size_toList]; omega
  rw [List.take_succ_eq_append_getElem hk']
  congr 2
  rw [List.getElem_drop]
  have e : s.data.getD k 0 = s.data.toList[k]'(by rw [← size_toList]; exact hk) := by
    unfold Array.getD
    rw [dif_pos (show k < s.data.size from hk)]; simp
  rw [e]
  congr 1
  omega
theorem cutAt_end {c : UInt8} {s : ByteArray} {done : List ByteArray} {m : Nat} (h : CutAt c s done m s.size) : partsF c s = done ++ [s.extract m s.size] := by
  unfold CutAt at h
  have e : s.data.toList.drop s.size = [] := by rw [size_toList]; simp
  rw [e, pre_end] at h
  unfold partsF
  rw [h, List.map_append, List.map_map]
  have : (mkB ∘ fun x : ByteArray => x.data.toList) = id := by funext x; exact mkB_data x
  rw [this, List.map_id, List.map_cons, mkB_data]
  rfl
theorem byte_eq {c : UInt8} {cn : Int} (hc : cn = (c.toNat : Int)) (s : ByteArray) (k : Nat) : (byteAt s k == cn) = (s.data.getD k 0 == c) := by
  subst hc
  unfold byteAt
  rw [Bool.eq_iff_iff, beq_iff_eq, beq_iff_eq]
  constructor
  · intro h; exact UInt8.toNat_inj.1 (by omega)
  · intro h; rw [h]

set_option maxRecDepth 100000 in
theorem c124 (s : ByteArray) (c : UInt8) (cn : Int) (hc : cn = (c.toNat : Int)) (hs : s.size ≤ 1000) (w : World) :
    Calls Tryz.prog 124 #[.string s, .int .u8 cn] w fun e w' => (∃ g cap, w.heap.size ≤ g ∧ e = .returned (.slice (some ⟨g, 0, none⟩) (partsF c s).length cap) ∧ RdT w' (some ⟨g, 0, none⟩) (partsF c s)) ∧ Below w.heap.size w w' := by
  obtain ⟨i0, hi0, hy0, hy1, hy2⟩ := info_parts info9
  have HC := Lib.hid hc
  obtain ⟨ps, hps⟩ : ∃ ps, partsF c s = ps := ⟨_, rfl⟩
  obtain ⟨L, hL⟩ : ∃ L, ps.length = L := ⟨_, rfl⟩
  rw [hps, hL]
  have HPS := Lib.hid hps
  have HL0 := Lib.hid hL
  clear hc hps hL
  go_enter Tryz.func124, Tryz.ntmps124
  go_wp2
  go_loopw [5, 6, 7] (fun v f i wr => ∃ (k m n : Nat) (done : List ByteArray), k ≤ s.size ∧ m ≤ k ∧ n ≤ k ∧ f = .int .i64 m ∧ i = .int .i64 k ∧ Hid (wr.ownsRow w.heap.size 9 1 v n (stV done)) ∧ Hid (done.length = n) ∧ Hid (Below w.heap.size w wr) ∧ Hid (CutAt c s done m k)) (fun _ _ i _ => s.size - (intOf i).toNat)
  case atStart => exact ⟨0, 0, 0, [], Nat.zero_le _, Nat.le_refl _, Nat.le_refl _, rfl, rfl, Lib.hid (World.ownsRow_nil _ _ _ _), Lib.hid rfl, Lib.hid (Below.refl _ _), Lib.hid (cutAt_start c s)⟩
  case round =>
    obtain ⟨k, m, n, done, hk, hm, hn, rfl, rfl, HO, HL, HB, HD⟩ := hrel
    by_cases hlt : k < s.size
    · have hltI : decide ((k : Int) < (s.size : Int)) = true := by simp; omega
      have hix := ix_byte s k hlt wr
      have hbe := byte_eq HC.out s k
      cases ht : (s.data.getD k 0 == c) with
      | false =>
        rw [ht] at hbe
        have HD2 := Lib.hid (cutAt_other HD.out hlt hm (by simpa using ht))
        clear ht
        go_wp2
        go_roundw
        case rel => exact ⟨k + 1, m, n, done, by omega, by omega, by omega, rfl, by go_num, HO, HL, HB, HD2⟩
        case measure => simp [intOf]; omega
      | true =>
        rw [ht] at hbe
        have HD2 := Lib.hid (cutAt_hit HD.out hlt (by simpa using ht))
        clear ht
        go_wp2_with (at_builtin; refine wpList_append_own _ rfl _ _ 138 rfl w.heap.size 9 i0 _ 1 16 Tryz.underlying138 hi0 hy0 hy1 hy2 rfl (by decide) _ _ _ rfl (HO.out.alloc _) ⟨wr.heap.size, 0, none⟩ 1 1 [.string (s.extract m k)] rfl rfl ?c1 ?c2 ?c3 ?c4 ?c5 ?_)
        case c1 => exact news_of _ _ _
        case c2 => intro u hu; simp at hu; subst hu; rfl
        case c3 => unfold maxLen; omega
        case c4 => omega
        case c5 => have := HB.out.size; simp; omega
        intro v' w3 hown' hgrow _
        have hlt' := HO.out.lt
        have HB3 := Lib.hid (HB.out.trans (((Below.refl w.heap.size wr).alloc HB.out.size _).grown hgrow (by have := HB.out.size; simp; omega) (fun j hj => (hlt' j hj).1)))
        have HO3 := Lib.hid hown'
        clear hown' hgrow hlt'
        go_wp2
        go_roundw
        case rel => exact ⟨k + 1, k + 1, n + 1, done ++ [s.extract m k], by omega, Nat.le_refl _, by omega, by go_num, by go_num, Lib.hid (by rw [stV_append]; exact HO3.out), Lib.hid (by rw [List.length_append, HL.out]; rfl), HB3, HD2⟩
        case measure => simp [intOf]; omega
    · obtain rfl : k = s.size := by omega
      have hltI : decide ((s.size : Int) < (s.size : Int)) = false := by simp
      have HE := Lib.hid (cutAt_end HD.out)
      obtain rfl : L = n + 1 := by rw [← HL0.out, ← HPS.out, HE.out, List.length_append, HL.out]; rfl
      go_wp2_with (at_builtin; refine wpList_append_own _ rfl _ _ 138 rfl w.heap.size 9 i0 _ 1 16 Tryz.underlying138 hi0 hy0 hy1 hy2 rfl (by decide) _ _ _ rfl (HO.out.alloc _) ⟨wr.heap.size, 0, none⟩ 1 1 [.string (s.extract m s.size)] rfl rfl ?c1 ?c2 ?c3 ?c4 ?c5 ?_)
      case c1 => exact news_of _ _ _
      case c2 => intro u hu; simp at hu; subst hu; rfl
      case c3 => unfold maxLen; omega
      case c4 => omega
      case c5 => have := HB.out.size; simp; omega
      intro v' w3 hown' hgrow _
      have hlt' := HO.out.lt
      have HB3 := Lib.hid (HB.out.trans (((Below.refl w.heap.size wr).alloc HB.out.size _).grown hgrow (by have := HB.out.size; simp; omega) (fun j hj => (hlt' j hj).1)))
      obtain ⟨g, cap, hv, hrd⟩ := rdt_of_own (ls := ps) (n := n) (by rw [← HPS.out, HE.out, stV_append]; exact hown') HL0.out
      subst hv
      have HRD := Lib.hid hrd
      have HG := Lib.hid (hown'.lt g rfl).1
      clear hown' hgrow hlt' hrd
      go_wp2
      go_ret
      exact ⟨⟨g, cap, HG.out, rfl, HRD.out⟩, HB3.out⟩
end Go.Proofs.YtncfgkhbenmpoaaGreatDoor
end

section
namespace Go.Proofs.YtncfgkhbenmpoaaGreatDoor
open Go Go.RowKit Go.Proofs Go.Shelf
set_option linter.unusedVariables false

theorem catF_size (ls : List ByteArray) (h : ∀ i, i < ls.length → (ls.getD i ByteArray.empty).size ≤ 2500) : ∀ k, k ≤ ls.length → (catF ls k).size ≤ k * 2501 := by
  intro k
  induction k with
  | zero => intro _; exact Nat.le_refl 0
  | succ k ih =>
    intro hk
    rw [catF_step ls k (by omega), ByteArray.size_append, ByteArray.size_append]
    have h1 := ih (by omega)
    have h2 := h k (by omega)
    have e : (⟨#[10]⟩ : ByteArray).size = 1 := rfl
    rw [e]; omega
theorem end_text {lo hi sl ch : Int} {css : List (List Int)} {ls : List ByteArray} {n : Nat} (hls : linesF lo hi sl ch css css.length = ls) (hn : css.length + 1 = n) {s : Nat} (hs : sumRows ls n = s) {A B C : ByteArray} (he : endF (s : Int) = ⟨#[101, 110, 100, 32]⟩ ++ A ++ B ++ C) :
    catF ls n ++ ⟨#[101, 110, 100, 32]⟩ ++ A ++ B ++ C ++ ⟨#[10]⟩ = textF lo hi sl ch css := by
  rw [← text_cat, hls, hn, hs, he]
  simp only [ByteArray.append_assoc]

set_option maxRecDepth 100000 in
set_option maxHeartbeats 2000000 in
theorem c75 (lo hi sl ch : Int) (p : Option Addr) (cap : Nat) (css : List (List Int)) (w : World) (hx : RdC w p css) (hb : BookOk 1000 lo hi sl ch css) :
    Calls Tryz.prog 75 #[.agg #[.int .i64 lo, .int .i64 hi, .int .i64 sl, .int .i64 ch], .slice p css.length cap] w (TextPost lo hi sl ch css w) := by
  obtain ⟨w0, e0, HS0, k0, k1, k2, k3, b0⟩ := box4 w (.int .i64 lo) (.int .i64 hi) (.int .i64 sl) (.int .i64 ch) 23
  have HX := Lib.hid (hx.below b0)
  have HB0 := Lib.hid b0
  have HC := Lib.hid hb
  have hcl := hb.2.1
  obtain ⟨i0, hi0, hy0, hy1, hy2⟩ := info_parts info9
  have hrl := rd_lit w0 [lo, hi, sl, ch] 3
  have hbl := below_alloc1 w0 (.cells (inV [lo, hi, sl, ch]).toArray 3)
  obtain ⟨wl, hwl⟩ : ∃ wl, w0.alloc (.cells #[.int .i64 lo, .int .i64 hi, .int .i64 sl, .int .i64 ch] 3) = wl := ⟨_, rfl⟩
  have hrl' : RdI wl (some ⟨w0.heap.size, 0, none⟩) [lo, hi, sl, ch] := by rw [← hwl]; exact hrl
  have hh : Calls Tryz.prog 122 #[.slice (some ⟨w0.heap.size, 0, none⟩) 4 4] wl fun e w' => e = .returned (.string (rowT ⟨#[]⟩ [lo, hi, sl, ch] 4)) ∧ Below wl.heap.size wl w' := c122 _ 4 [lo, hi, sl, ch] wl hrl' (by simp) hb.1
  have HBL := Lib.hid (show Below w0.heap.size w0 wl by rw [← hwl]; exact hbl)
  have hz0 : (rowT ⟨#[]⟩ [lo, hi, sl, ch] 4).size ≤ 16 := Nat.le_trans (rowT_size (Nat.le_refl 1000) ⟨#[]⟩ _ hb.1 4 (by simp)) (by have : (⟨#[]⟩ : ByteArray).size = 0 := rfl; omega)
  obtain ⟨t0, ht0⟩ : ∃ t0, rowT ⟨#[]⟩ [lo, hi, sl, ch] 4 = t0 := ⟨_, rfl⟩
  rw [ht0] at hh hz0
  have HT0 := Lib.hid (show bookW ++ t0 = rowT bookW [lo, hi, sl, ch] 4 by rw [← ht0]; exact rowT_word _ _ 4 (by simp))
  clear hx hb b0 hrl hbl hrl' ht0
  go_enter Tryz.func75, Tryz.ntmps75
  go_wp2_with fail
  refine hh.mono ?_
  rintro e w1 ⟨rfl, hb1⟩
  have HB1 := Lib.hid (HBL.out.trans (hb1.mono HBL.out.size))
  clear hh hb1 k0 k1 k2 k3 e0 hwl
  go_wp2
  have hown0 := one_own w1 w1.heap.size (Nat.le_refl _) (rowT bookW [lo, hi, sl, ch] 4)
  rw [← HT0.out] at hown0
  have HO0 := Lib.hid hown0
  have hbel0 := below_alloc1 w1 (.cells #[.string (rowT bookW [lo, hi, sl, ch] 4)] 9)
  rw [← HT0.out] at hbel0
  have HBE0 := Lib.hid hbel0
  clear hown0 hbel0
  go_loopw [5, 6] (fun v i wr => ∃ k : Nat, k ≤ css.length ∧ i = .int .i64 k ∧ Hid (wr.ownsRow w1.heap.size 9 1 v (k + 1) (stV (linesF lo hi sl ch css k))) ∧ Hid (Below w1.heap.size w1 wr)) (fun _ i _ => css.length - (intOf i).toNat)
  case atStart => exact ⟨0, Nat.zero_le _, rfl, Lib.hid (by have h := HO0.out; show World.ownsRow _ _ _ _ _ _ [.string (rowT bookW [lo, hi, sl, ch] 4)]; rw [← HT0.out]; exact h), HBE0⟩
  case round =>
    obtain ⟨k, hk, rfl, HO, HB⟩ := hrel
    by_cases hlt : k < css.length
    · have hltI : decide ((k : Int) < (css.length : Int)) = true := by simp; omega
      obtain ⟨b, off, rfl, hcc⟩ := ((HX.out.below HB1.out).below HB.out).at hlt
      obtain ⟨a, c, e1, hrd⟩ := hcc k hlt
      have hck := HC.out.2.2 k hlt
      have ho := c122 a c (gl css k) wr hrd (by have := hck.2; omega) hck.1
      have HST := Lib.hid (linesF_step lo hi sl ch css k hlt)
      have hzk : (rowT ⟨#[]⟩ (gl css k) (gl css k).length).size ≤ 2000 := Nat.le_trans (rowT_size (Nat.le_refl 1000) ⟨#[]⟩ _ hck.1 _ (Nat.le_refl _)) (by have : (⟨#[]⟩ : ByteArray).size = 0 := rfl; have := hck.2; omega)
      have HTK0 := rowT_word camW (gl css k) (gl css k).length (Nat.le_refl _)
      obtain ⟨tk, htk⟩ : ∃ tk, rowT ⟨#[]⟩ (gl css k) (gl css k).length = tk := ⟨_, rfl⟩
      rw [htk] at ho hzk HTK0
      have HTK := Lib.hid HTK0
      have HZK := Lib.hid hzk
      clear hcc hrd hck htk HTK0 hzk
      go_wp2_with fail
      refine ho.mono ?_
      rintro e w2 ⟨rfl, hb2⟩
      have HB2 := Lib.hid hb2
      clear ho hb2 e1
      have HO2 := Lib.hid (own_kept HO.out HB2.out)
      have HBW := Lib.hid (HB.out.trans (HB2.out.mono HB.out.size))
      have hzz : ¬ 9223372036854775807 < 3 + tk.size := by have := HZK.out; omega
      go_wp2_with (at_builtin; refine wpList_append_own _ rfl _ _ 138 rfl w1.heap.size 9 i0 _ 1 16 Tryz.underlying138 hi0 hy0 hy1 hy2 rfl (by decide) _ _ _ rfl (HO2.out.alloc _) ⟨w2.heap.size, 0, none⟩ 1 1 [.string (camW ++ tk)] rfl rfl ?c1 ?c2 ?c3 ?c4 ?c5 ?_)
      case c1 => exact news_of _ _ _
      case c2 => intro u hu; simp at hu; subst hu; rfl
      case c3 => unfold maxLen; omega
      case c4 => omega
      case c5 => have := HBW.out.size; simp; omega
      intro v' w3 hown' hgrow _
      have hlt' := HO2.out.lt
      have HB3 := Lib.hid (HBW.out.trans (((Below.refl w1.heap.size w2).alloc HBW.out.size _).grown hgrow (by have := HBW.out.size; simp; omega) (fun j hj => (hlt' j hj).1)))
      have HO3 := Lib.hid hown'
      clear hown' hgrow hlt'
      go_wp2
      go_roundw
      case rel => exact ⟨k + 1, by omega, by go_num, Lib.hid (by rw [HST.out, stV_append, ← HTK.out]; exact HO3.out), HB3⟩
      case measure => simp [intOf]; omega
    · obtain rfl : k = css.length := by omega
      have hltI : decide ((css.length : Int) < (css.length : Int)) = false := by simp
      obtain ⟨g, cap5, hv⟩ := ownsRow_succ HO.out
      subst hv
      have hcells : ∀ i, i < (linesF lo hi sl ch css css.length).length → wr.cell? ⟨g, i, none⟩ = some (.string ((linesF lo hi sl ch css css.length).getD i ByteArray.empty)) := fun i hi' => by
        have h := HO.out.cells (g := g) rfl i _ (stV_get _ i hi')
        rwa [add_new] at h
      have hsz := lines_size (Nat.le_refl 1000) HC.out css.length (Nat.le_refl _)
      obtain ⟨n, hn⟩ : ∃ n, css.length + 1 = n := ⟨_, rfl⟩
      have HN := Lib.hid hn
      have HLL := Lib.hid (show (linesF lo hi sl ch css css.length).length = n by rw [linesF_length _ _ _ _ _ _ (Nat.le_refl _), hn])
      have hn5 : n ≤ 501 := by omega
      rw [HLL.out] at hcells hsz
      rw [hn] at HO ⊢
      have HCE := Lib.hid hcells
      have HSZ := Lib.hid hsz
      obtain ⟨ls, hls⟩ : ∃ ls, linesF lo hi sl ch css css.length = ls := ⟨_, rfl⟩
      rw [hls] at HCE HSZ HLL
      have HLS := Lib.hid hls
      have HCZ := Lib.hid (catF_size ls (fun i hi' => by have := HSZ.out i (by rw [HLL.out] at hi'; exact hi'); exact this))
      have HB5 := Lib.hid (HB0.out.trans ((HB1.out.trans (HB.out.mono HB1.out.size)).mono HB0.out.size))
      clear hn hcells hsz hls
      go_wp2
      go_loopw [9, 7, 8] (fun i t s w4 => ∃ k : Nat, ∃ tx : ByteArray, k ≤ n ∧ i = .int .i64 k ∧ t = .string tx ∧ s = .int .i64 (sumRows ls k) ∧ Hid (tx = catF ls k) ∧ w4 = wr) (fun i _ _ _ => n - (intOf i).toNat)
      case atStart => exact ⟨0, _, Nat.zero_le _, rfl, rfl, rfl, Lib.hid rfl, rfl⟩
      case round =>
        obtain ⟨k, tx, hk, rfl, rfl, rfl, HTX, rfl⟩ := hrel
        by_cases hlt : k < n
        · have hltI : decide ((k : Int) < (n : Int)) = true := by simp; omega
          have e1 := HCE.out k hlt
          have hl := HSZ.out k hlt
          have hsr := sumRows_range ls (fun i hi' => by have := HSZ.out i (by rw [HLL.out] at hi'; exact hi'); exact this) (by rw [HLL.out]; omega) k (by rw [HLL.out]; omega)
          have htz : tx.size ≤ k * 2501 := by rw [HTX.out]; exact HCZ.out k (by rw [HLL.out]; omega)
          have HCS := Lib.hid (catF_step ls k (by rw [HLL.out]; exact hlt))
          have HST := Lib.hid (show sumRows ls (k + 1) = sumRows ls k + rowSum k (ls.getD k ByteArray.empty) (ls.getD k ByteArray.empty).size from rfl)
          obtain ⟨l, hll⟩ : ∃ l, ls.getD k ByteArray.empty = l := ⟨_, rfl⟩
          rw [hll] at e1 hl HST HCS
          have HSR := Lib.hid (show 0 ≤ sumRows ls k ∧ sumRows ls k ≤ 1000000000000000 by omega)
          obtain ⟨S, hS⟩ : ∃ S, sumRows ls k = S := ⟨_, rfl⟩
          rw [hS] at HST HSR ⊢
          have HTZ := Lib.hid htz
          have HLZ := Lib.hid hl
          clear hll hsr hS htz hl
          go_wp2
          go_loopw [10, 8] (fun i s w5 => ∃ j : Nat, j ≤ l.size ∧ i = .int .i64 j ∧ s = .int .i64 (S + rowSum k l j) ∧ w5 = wr) (fun i _ _ => l.size - (intOf i).toNat)
          case atStart => exact ⟨0, Nat.zero_le _, rfl, by simp [rowSum], rfl⟩
          case round =>
            obtain ⟨j, hj, rfl, rfl, rfl⟩ := hrel
            by_cases hjl : j < l.size
            · have hjlI : decide ((j : Int) < (l.size : Int)) = true := by simp; omega
              have hix := ix_byte l j hjl
              have hby := byteAt_range l j
              have hl := HLZ.out
              have hrs := rowSum_range k (by omega) l j (by omega)
              have hSR := HSR.out
              have HRS := Lib.hid (show rowSum k l (j + 1) = rowSum k l j + byteAt l j * ((j : Int) + 1) * ((k : Int) + 1) from rfl)
              have hrs1 := rowSum_range k (by omega) l (j + 1) (by omega)
              rw [HRS.out] at hrs1
              obtain ⟨B, hB⟩ : ∃ B, byteAt l j = B := ⟨_, rfl⟩
              obtain ⟨R, hR⟩ : ∃ R, rowSum k l j = R := ⟨_, rfl⟩
              rw [hB] at hix hby hrs1 HRS
              rw [hR] at hrs hrs1 HRS
              have hm1 : 0 ≤ B * ((j : Int) + 1) ∧ B * ((j : Int) + 1) ≤ 255 * 2501 := ⟨Int.mul_nonneg hby.1 (by omega), Int.mul_le_mul hby.2 (by omega) (by omega) (by omega)⟩
              have hm2 : 0 ≤ B * ((j : Int) + 1) * ((k : Int) + 1) ∧ B * ((j : Int) + 1) * ((k : Int) + 1) ≤ (255 * 2501) * 1001 := ⟨Int.mul_nonneg hm1.1 (by omega), Int.mul_le_mul hm1.2 (by omega) (by omega) (by omega)⟩
              have hw0 : IntKind.i64.wrap B = B := w64 _ (by omega) (by omega)
              have hw1 : IntKind.i64.wrap (B * ((j : Int) + 1)) = B * ((j : Int) + 1) := w64 _ (by omega) (by omega)
              have hw2 : IntKind.i64.wrap (B * ((j : Int) + 1) * ((k : Int) + 1)) = B * ((j : Int) + 1) * ((k : Int) + 1) := w64 _ (by omega) (by omega)
              have hw3 : IntKind.i64.wrap (S + R + B * ((j : Int) + 1) * ((k : Int) + 1)) = S + R + B * ((j : Int) + 1) * ((k : Int) + 1) := w64 _ (by omega) (by omega)
              rw [hR]
              go_wp2
              go_roundw
              case rel => exact ⟨j + 1, by omega, by go_num, by rw [HRS.out, Int.add_assoc], trivial⟩
              case measure => simp [intOf]; omega
            · obtain rfl : j = l.size := by omega
              have hjlI : decide ((l.size : Int) < (l.size : Int)) = false := by simp
              have htz := HTZ.out
              have hl := HLZ.out
              have hz1 : ¬ 9223372036854775807 < tx.size + l.size := by omega
              have hz2 : ¬ 9223372036854775807 < tx.size + l.size + 1 := by omega
              go_wp2
              go_roundw
              case rel => exact ⟨k + 1, _, by omega, by go_num, rfl, by rw [HST.out], Lib.hid (by rw [HCS.out, HTX.out]), trivial⟩
              case measure => simp [intOf]; omega
        · obtain rfl : k = n := by omega
          have hltI : decide ((k : Int) < (k : Int)) = false := by simp
          have hsr := sumRows_range ls (fun i hi' => by have := HSZ.out i (by rw [HLL.out] at hi'; exact hi'); exact this) (by rw [HLL.out]; omega) k (by rw [HLL.out]; omega)
          have htz : tx.size ≤ k * 2501 := by rw [HTX.out]; exact HCZ.out k (by rw [HLL.out]; omega)
          obtain ⟨S, hS⟩ : ∃ S, sumRows ls k = S := ⟨_, rfl⟩
          rw [hS] at hsr ⊢
          have HS := Lib.hid hS
          have HSR := Lib.hid (show 0 ≤ S ∧ S ≤ 1000000000000000 by omega)
          clear hS hsr
          obtain ⟨s, hs⟩ : ∃ s : Nat, S = s := ⟨S.toNat, by have := HSR.out; omega⟩
          subst hs
          obtain ⟨tt, htt⟩ : ∃ tt : Nat, s % 137 = tt := ⟨_, rfl⟩
          obtain ⟨a, ha⟩ : ∃ a : Nat, tt / 100 = a := ⟨_, rfl⟩
          obtain ⟨e, he⟩ : ∃ e : Nat, tt / 10 = e := ⟨_, rfl⟩
          obtain ⟨b, hb⟩ : ∃ b : Nat, e % 10 = b := ⟨_, rfl⟩
          obtain ⟨c, hc⟩ : ∃ c : Nat, tt % 10 = c := ⟨_, rfl⟩
          have htt2 : tt < 137 := by omega
          have ba : a < 100 := by omega
          have be : e < 100 := by omega
          have bb : b < 100 := by omega
          have bc : c < 100 := by omega
          have ba' : a < 1000 := by omega
          have be' : e < 1000 := by omega
          have hd1 := dec_len a ba
          have hd2 := dec_len b bb
          have hd3 := dec_len c bc
          have hl0 : ¬ 9223372036854775807 < tx.size + 4 := by omega
          have hl1 : ¬ 9223372036854775807 < tx.size + 4 + (Lib.decDigits a).length := by omega
          have hl2 : ¬ 9223372036854775807 < tx.size + 4 + (Lib.decDigits a).length + (Lib.decDigits b).length := by omega
          have hl3 : ¬ 9223372036854775807 < tx.size + 4 + (Lib.decDigits a).length + (Lib.decDigits b).length + (Lib.decDigits c).length := by omega
          have hl4 : ¬ 9223372036854775807 < tx.size + 4 + (Lib.decDigits a).length + (Lib.decDigits b).length + (Lib.decDigits c).length + 1 := by omega
          have hr1 : (tt : Int) / 100 = (a : Int) := by omega
          have hr2 : (tt : Int) / 10 = (e : Int) := by omega
          have hr3 : (e : Int) % 10 = (b : Int) := by omega
          have hr4 : (tt : Int) % 10 = (c : Int) := by omega
          have hr0 : (s : Int) % 137 = (tt : Int) := by omega
          have hq0 : Int.tmod (s : Int) 137 = (tt : Int) := tmodN s 137 tt htt
          have hq1 : wrap64 (Int.tdiv (tt : Int) 100) = (a : Int) := wdivN tt 100 a ha ba'
          have hq2 : wrap64 (Int.tdiv (tt : Int) 10) = (e : Int) := wdivN tt 10 e he be'
          have hq3 : Int.tmod (e : Int) 10 = (b : Int) := tmodN e 10 b hb
          have hq4 : Int.tmod (tt : Int) 10 = (c : Int) := tmodN tt 10 c hc
          have HEND := Lib.hid (endN s tt a e b c htt ha he hb hc)
          clear htt ha he hb hc htz
          clear hq1 hq2 hq3 hq4
          go_wp2_with fail
          refine (c123 a (by omega) wr).mono ?_
          rintro e1 wa ⟨rfl, bq⟩
          have HA := Lib.hid bq
          clear bq
          go_wp2_with fail
          refine (c123 b (by omega) wa).mono ?_
          rintro e1 wb ⟨rfl, bq⟩
          have HA2 := Lib.hid (HA.out.trans (bq.mono HA.out.size))
          clear bq
          go_wp2_with fail
          refine (c123 c (by omega) wb).mono ?_
          rintro e1 wc ⟨rfl, bq⟩
          have HA3 := Lib.hid (HA2.out.trans (bq.mono HA2.out.size))
          clear bq
          go_wp2
          go_ret
          refine ⟨?_, HB5.out.trans (HA3.out.mono HB5.out.size)⟩
          rw [← end_text HLS.out HN.out HS.out HEND.out, HTX.out]
          rfl
end Go.Proofs.YtncfgkhbenmpoaaGreatDoor
end

section
namespace Go.Proofs.YtncfgkhbenmpoaaGreatDoor
open Go Go.RowKit Go.Proofs Go.Shelf
set_option linter.unusedVariables false

/-- each row of a list lies so, in a block of its own kind -/
def ElC (w : World) (B : Nat) (css : List (List Int)) (hs : List Value) : Prop := ∀ i, i < css.length → ∃ hv, hs[i]? = some hv ∧ w.ownsRow B 3 1 hv (gl css i).length (inV (gl css i))
theorem own_apart {w : World} {B B' e e' size size' n n' : Nat} {v v' : Value} {xs xs' : List Value} (h : w.ownsRow B e size v n xs) (h' : w.ownsRow B' e' size' v' n' xs') (he : e ≠ e') : v.ownBlock = none ∨ v.ownBlock ≠ v'.ownBlock := by
  rcases h.2 with ⟨rfl, _⟩ | ⟨g, cap, cur, rfl, _, hg, _⟩
  · exact .inl rfl
  · rcases h'.2 with ⟨rfl, _⟩ | ⟨g', cap', cur', rfl, _, hg', _⟩
    · exact .inr (by simp [Value.ownBlock])
    · refine .inr fun hc => ?_
      simp [Value.ownBlock] at hc
      subst hc
      rw [hg] at hg'
      have := Option.some.inj hg'
      simp at this
      exact he this.2
theorem own_mono {w : World} {B B' e size n : Nat} {v : Value} {xs : List Value} (h : w.ownsRow B e size v n xs) (hB : B' ≤ B) : w.ownsRow B' e size v n xs := by
  refine ⟨h.1, ?_⟩
  rcases h.2 with h1 | ⟨g, cap, cur, h1, h2, h3⟩
  · exact .inl h1
  · exact .inr ⟨g, cap, cur, h1, Nat.le_trans hB h2, h3⟩
theorem ElC.nil (w : World) (B : Nat) (hs : List Value) : ElC w B [] hs := fun i h => absurd h (Nat.not_lt_zero _)
theorem ElC.snoc {w : World} {B : Nat} {css : List (List Int)} {hs : List Value} {x : List Int} {hv : Value} (h : ElC w B css hs) (hl : hs.length = css.length) (hx : w.ownsRow B 3 1 hv x.length (inV x)) : ElC w B (css ++ [x]) (hs ++ [hv]) := by
  intro i hi
  rw [List.length_append, List.length_singleton] at hi
  rw [gl_snoc]
  by_cases h1 : i < css.length
  · obtain ⟨v, e1, e2⟩ := h i h1
    rw [if_pos h1]
    exact ⟨v, by rw [List.getElem?_append_left (by omega)]; exact e1, e2⟩
  · obtain rfl : i = css.length := by omega
    rw [if_neg h1, if_pos rfl]
    exact ⟨hv, by rw [← hl]; simp, hx⟩
theorem ElC.grown {w w' : World} {B B' n size : Nat} {css : List (List Int)} {hs xs : List Value} {v : Value} {e : Nat} (h : ElC w B css hs) (ho : w.ownsRow B' e size v n xs) (he : e ≠ 3) (hg : w.grownBy w' v.ownBlock) : ElC w' B css hs := by
  intro i hi
  obtain ⟨u, e1, e2⟩ := h i hi
  exact ⟨u, e1, e2.kept hg (own_apart e2 ho (Ne.symm he))⟩
theorem ElC.below {w w' : World} {B : Nat} {css : List (List Int)} {hs : List Value} (h : ElC w B css hs) (hb : Below w.heap.size w w') : ElC w' B css hs := by
  intro i hi
  obtain ⟨u, e1, e2⟩ := h i hi
  exact ⟨u, e1, own_kept e2 hb⟩
theorem ElC.alloc {w : World} {B : Nat} {css : List (List Int)} {hs : List Value} (h : ElC w B css hs) (o : Obj) : ElC (w.alloc o) B css hs := by
  intro i hi
  obtain ⟨u, e1, e2⟩ := h i hi
  exact ⟨u, e1, e2.alloc o⟩
theorem ElC.mono {w : World} {B B' : Nat} {css : List (List Int)} {hs : List Value} (h : ElC w B css hs) (hB : B' ≤ B) : ElC w B' css hs := by
  intro i hi
  obtain ⟨u, e1, e2⟩ := h i hi
  exact ⟨u, e1, own_mono e2 hB⟩
/-- an owned row under a store elsewhere -/
theorem own_set {w : World} {B e size n : Nat} {v : Value} {xs : List Value} (h : w.ownsRow B e size v n xs) {p : Addr} (hp : p.block < B) (u : Value) : (w.setCell p u).ownsRow B e size v n xs := by
  refine ⟨h.1, ?_⟩
  rcases h.2 with h1 | ⟨g, cap, cur, h1, h2, h3, h4⟩
  · exact .inl h1
  · refine .inr ⟨g, cap, cur, h1, h2, ?_, h4⟩
    rw [Below.heap_setCell _ _ _ _ (by omega)]
    exact h3
theorem ElC.set {w : World} {B : Nat} {css : List (List Int)} {hs : List Value} (h : ElC w B css hs) {p : Addr} (hp : p.block < B) (u : Value) : ElC (w.setCell p u) B css hs := by
  intro i hi
  obtain ⟨v, e1, e2⟩ := h i hi
  exact ⟨v, e1, own_set e2 hp u⟩
theorem rdc_of_own {w : World} {B : Nat} {css : List (List Int)} {hs : List Value} {v : Value} (h : w.ownsRow B 24 1 v css.length hs) (he : ElC w B css hs) : ∃ p c, v = .slice p css.length c ∧ RdC w p css := by
  rcases h.2 with ⟨rfl, h0⟩ | ⟨g, cap, cur, rfl, hb, hg, hnc, hcm, hsz, htk⟩
  · exact ⟨none, 0, by rw [h0], .inl h0⟩
  · refine ⟨some ⟨g, 0, none⟩, cap, rfl, .inr ⟨g, 0, rfl, fun i hi => ?_⟩⟩
    obtain ⟨hv, e1, e2⟩ := he i hi
    obtain ⟨a, c, rfl, hr⟩ := rd_of_own e2
    have := h.cells (g := g) rfl i _ e1
    rw [add_new] at this
    exact ⟨a, c, by rw [Nat.zero_add]; exact this, hr⟩
/-- a struct of four cells is stored -/
theorem set4 (w : World) (B : Nat) (t : TypeId) (v0 v1 v2 v3 a b c d : Value) (h : w.heap[B]? = some (.cells #[v0, v1, v2, v3] t)) :
    ∃ w1 w2 w3 w4, w.setCell ⟨B, 0, none⟩ a = w1 ∧ w1.setCell ⟨B, 1, none⟩ b = w2 ∧ w2.setCell ⟨B, 2, none⟩ c = w3 ∧ w3.setCell ⟨B, 3, none⟩ d = w4 ∧
      (w.cell? ⟨B, 0, none⟩ = some v0 ∧ w.frozen? ⟨B, 0, none⟩ = false) ∧ (w1.cell? ⟨B, 1, none⟩ = some v1 ∧ w1.frozen? ⟨B, 1, none⟩ = false) ∧ (w2.cell? ⟨B, 2, none⟩ = some v2 ∧ w2.frozen? ⟨B, 2, none⟩ = false) ∧ (w3.cell? ⟨B, 3, none⟩ = some v3 ∧ w3.frozen? ⟨B, 3, none⟩ = false) ∧
      w4.heap[B]? = some (.cells #[a, b, c, d] t) ∧ (∀ k, k ≠ B → w4.heap[k]? = w.heap[k]?) ∧ w4.heap.size = w.heap.size ∧ ∀ W n0, n0 ≤ B → Below n0 W w → Below n0 W w4 := by
  have h1 := heap_setCell_same w B 0 _ t a h
  have h2 := heap_setCell_same _ B 1 _ t b h1
  have h3 := heap_setCell_same _ B 2 _ t c h2
  have h4 := heap_setCell_same _ B 3 _ t d h3
  refine ⟨_, _, _, _, rfl, rfl, rfl, rfl, ⟨?_, frozen_of_row _ _ _ _ _ h⟩, ⟨?_, frozen_of_row _ _ _ _ _ h1⟩, ⟨?_, frozen_of_row _ _ _ _ _ h2⟩, ⟨?_, frozen_of_row _ _ _ _ _ h3⟩, ?_, ?_, ?_, ?_⟩
  · rw [cell_of_row _ _ _ _ _ _ h]; rfl
  · rw [cell_of_row _ _ _ _ _ _ h1]; rfl
  · rw [cell_of_row _ _ _ _ _ _ h2]; rfl
  · rw [cell_of_row _ _ _ _ _ _ h3]; rfl
  · rw [h4]; rfl
  · intro k hk
    rw [Below.heap_setCell _ _ _ k hk, Below.heap_setCell _ _ _ k hk, Below.heap_setCell _ _ _ k hk, Below.heap_setCell _ _ _ k hk]
  · simp
  · intro W n0 hn hb
    exact (((hb.setCell hn _).setCell hn _).setCell hn _).setCell hn _
theorem cells4 {w : World} {B : Nat} {t : TypeId} {a b c d : Value} (h : w.heap[B]? = some (.cells #[a, b, c, d] t)) : w.cell? ⟨B, 0, none⟩ = some a ∧ w.cell? ⟨B, 1, none⟩ = some b ∧ w.cell? ⟨B, 2, none⟩ = some c ∧ w.cell? ⟨B, 3, none⟩ = some d := by
  refine ⟨?_, ?_, ?_, ?_⟩ <;> (rw [cell_of_row _ _ _ _ _ _ h]; rfl)
end Go.Proofs.YtncfgkhbenmpoaaGreatDoor
end

section
namespace Go.Proofs.YtncfgkhbenmpoaaGreatDoor
open Go Go.RowKit Go.Proofs Go.Shelf
set_option linter.unusedVariables false

def noneE (s : ByteArray) : Ending := .panicked [{ v := .iface 153 (.agg #[.string s]), recovered := false }]
theorem c148_t (s : ByteArray) (w : World) : Calls Tryz.prog 148 #[.bool true, .string s] w fun e w' => e = .returned (.tuple #[]) ∧ w = w' := by
  go_enter Tryz.func148, Tryz.ntmps148
  go_wp2
  refine bodyPost_end (results_none rfl _ _ _) rfl ?_
  exact ⟨rfl, rfl⟩
theorem c148_f (s : ByteArray) (w : World) : Calls Tryz.prog 148 #[.bool false, .string s] w fun e w' => e = noneE s ∧ Below w.heap.size w w' := by
  go_enter Tryz.func148, Tryz.ntmps148
  go_wp2
  refine ⟨rfl, rfl, Below.refl _ _⟩
theorem c147 (s : ByteArray) (c : UInt8) (m : Int) (w : World) (hs : s.size ≤ 1000) (hm : w.cell? ⟨1, 0, none⟩ = some (.int .i64 m)) :
    Calls Tryz.prog 147 #[.string s, .string ⟨#[c]⟩] w fun e w' => (∃ g, w.heap.size ≤ g ∧ e = .returned (.slice (some ⟨g, 0, none⟩) (partsF c s).length (partsF c s).length) ∧ RdT w' (some ⟨g, 0, none⟩) (partsF c s)) ∧ Below w.heap.size w w' := by
  have h := Tryz.strings_Split s ⟨#[c]⟩ m w (by omega) hm (Nat.le_refl 1)
  have hl : Lib.countB s ⟨#[c]⟩ + 1 = (partsF c s).length := by rw [countB_one, partsF_len]
  rw [splitB_parts] at h
  refine h.mono ?_
  rintro e w' ⟨rfl, rfl⟩
  rw [hl]
  refine ⟨⟨w.heap.size, Nat.le_refl _, rfl, w.heap.size, rfl, fun i hi => ?_⟩, below_alloc1 _ _⟩
  rw [at_new, List.getElem?_toArray]
  exact stV_get _ i hi
theorem itoaR_full {w : World} (htab : Lib.TabIs Tryz.prog w "internal/strconv.uint64pow10" .u64 Lib.pow10Tab) : ItoaR 1000 w := by
  intro w' hb i hi
  have ht := Lib.tabBelow_of_tabIs htab w' hb
  refine (Tryz.strconv_Itoa i (by omega) (by omega) w' ht).mono ?_
  rintro e w'' ⟨rfl, k, os, rfl⟩
  refine ⟨?_, Lib.below_grow _ _ (Nat.le_refl _) _ _⟩
  rw [Lib.itoa_nonneg]
theorem tabIs_below {w w' : World} (htab : Lib.TabIs Tryz.prog w "internal/strconv.uint64pow10" .u64 Lib.pow10Tab) (hb : Below w.heap.size w w') : Lib.TabIs Tryz.prog w' "internal/strconv.uint64pow10" .u64 Lib.pow10Tab := Lib.tabBelow_of_tabIs htab w' hb

/-! a number of a word, as the program reads it -/
theorem decode_digit {x : ByteArray} {k : Nat} (h : k < x.size) : (48 ≤ ((Utf8.decode x k).1 : Int) ∧ ((Utf8.decode x k).1 : Int) ≤ 57) ↔ (48 ≤ byteAt x k ∧ byteAt x k ≤ 57) := by
  have e : byteAt x k = ((x[k]'h).toNat : Int) := by
    unfold byteAt Array.getD
    rw [dif_pos (show k < x.data.size from h)]; rfl
  rw [e]
  by_cases ha : (x[k]'h).toNat < 128
  · rw [decode_ascii x k h ha]
  · have := (decode_high x k h (by omega)).1
    omega
theorem numF_long {x : ByteArray} (h : 3 < x.size) : numF x = -1 := by unfold numF; rw [if_pos (.inr (.inl h))]
theorem numF_empty {x : ByteArray} (h : x.size = 0) : numF x = -1 := by unfold numF; rw [if_pos (.inl h)]
theorem numF_other {x : ByteArray} {k : Nat} (hk : k < x.size) (h : ¬ (48 ≤ byteAt x k ∧ byteAt x k ≤ 57)) : numF x = -1 := by unfold numF; rw [if_pos (.inr (.inr (.inl fun hd => h (hd k hk))))]
theorem numF_text {x : ByteArray} {n : Nat} (hn : valT x x.size = n) (h : (⟨(Lib.decDigits n).toArray⟩ : ByteArray) ≠ x) : numF x = -1 := by
  unfold numF; rw [if_pos (.inr (.inr (.inr (by rw [hn]; exact h))))]
theorem numF_good {x : ByteArray} {n : Nat} (h0 : x.size ≠ 0) (h3 : x.size ≤ 3) (hd : DigTo x x.size) (hn : valT x x.size = n) (h : (⟨(Lib.decDigits n).toArray⟩ : ByteArray) = x) : numF x = n := by
  unfold numF
  rw [if_neg, hn]
  rintro (h1 | h1 | h1 | h1)
  · exact h0 h1
  · omega
  · exact h1 hd
  · rw [hn] at h1; exact h1 h
theorem told_word {word row : ByteArray} (h : headP (partsF 32 row) ≠ word) : toldF word row = none := by unfold toldF; rw [if_neg fun hc => h hc.1]
theorem told_num {word row : ByteArray} {j : Nat} (hj : j < (partsF 32 row).tail.length) (h : numF ((partsF 32 row).tail.getD j ByteArray.empty) = -1) : toldF word row = none := by unfold toldF; rw [if_neg fun hc => hc.2 j hj h]
theorem told_all {word row : ByteArray} (hw : headP (partsF 32 row) = word) (h : ∀ i, i < (partsF 32 row).tail.length → numF ((partsF 32 row).tail.getD i ByteArray.empty) ≠ -1) : toldF word row = some ((partsF 32 row).tail.map numF) := by unfold toldF; rw [if_pos ⟨hw, h⟩]
theorem numsTo_step {l : List ByteArray} {j : Nat} (hj : j < l.length) : inV ((l.take (j + 1)).map numF) = inV ((l.take j).map numF) ++ [.int .i64 (numF (l.getD j ByteArray.empty))] := by
  rw [List.take_succ_eq_append_getElem hj, List.map_append, inV_append, List.getD_eq_getElem?_getD, List.getElem?_eq_getElem hj]; rfl

def ToldPost (word row : ByteArray) (w : World) (e : Ending) (w' : World) : Prop :=
  ((∃ xs hv, toldF word row = some xs ∧ e = .returned hv ∧ w'.ownsRow w.heap.size 3 1 hv xs.length (inV xs)) ∨ (toldF word row = none ∧ ∃ x, e = noneE x)) ∧ Below w.heap.size w w'

set_option maxRecDepth 100000 in
set_option maxHeartbeats 1000000 in
theorem c149 (kd : Nat) (word row : ByteArray) (m : Int) (w : World) (hr : row.size ≤ 1000) (hm : w.cell? ⟨1, 0, none⟩ = some (.int .i64 m)) (hI : ItoaR 1000 w)
    (hix : ∀ w, (Instr.index 181 (.agg #[.string bookW, .string camW]) (.int .i64 kd)).run Tryz.prog w = .ok (.string word) w) :
    Calls Tryz.prog 149 #[.string row, .int .i64 kd] w (ToldPost word row w) := by
  have h147 := c147 row 32 m w hr hm
  obtain ⟨i0, hi0, hy0, hy1, hy2⟩ := info_parts info3
  have HI := Lib.hid hI
  have hpl := parts_count 32 row
  have hps := fun p hp => part_size (c := 32) (s := row) (p := p) hp
  have HPS := Lib.hid hps
  obtain ⟨ps, hpe⟩ : ∃ ps, partsF 32 row = ps := ⟨_, rfl⟩
  obtain ⟨N, hN⟩ : ∃ N, ps.length = N + 1 := ⟨ps.length - 1, by have := partsF_len 32 row; rw [hpe] at this; omega⟩
  rw [hpe] at h147 hpl
  rw [hN] at h147 hpl
  have HN := Lib.hid hN
  have HPE := Lib.hid hpe
  clear hm hI hps hpe hN
  go_enter Tryz.func149, Tryz.ntmps149
  go_wp2_with fail
  refine h147.mono ?_
  rintro e w1 ⟨⟨g, hg, rfl, hrd⟩, b1⟩
  have HB1 := Lib.hid b1
  have HRD := Lib.hid hrd
  have hcell : ∀ i, i < N + 1 → w1.cell? ⟨g, i, none⟩ = some (.string (ps.getD i ByteArray.empty)) := fun i hi => by
    obtain ⟨b, hb, hc⟩ := hrd
    cases hb
    exact hc i (by rw [HN.out]; exact hi)
  have HCE := Lib.hid hcell
  have e0 := hcell 0 (by omega)
  clear h147 b1 hrd hcell
  obtain ⟨p0, hp0⟩ : ∃ p0, ps.getD 0 ByteArray.empty = p0 := ⟨_, rfl⟩
  rw [hp0] at e0
  have HP0 := Lib.hid hp0
  clear hp0
  by_cases hw : p0 = word
  · have hbe : (p0.toList == word.toList) = true := by rw [hw]; exact beq_self_eq_true _
    have HW := Lib.hid hw
    clear hw
    go_wp2_with fail
    refine wp_region_below_tail 8 (by kernel_rfl) (by kernel_rfl) ?_; simp only [List.take_succ_cons, List.take_zero, List.drop_succ_cons, List.drop_zero]; (repeat (first | ((with_reducible apply wq_fa fa118_0); (focus rfl); (focus rfl); go_frame) | ((with_reducible apply wq_fa fa118_1); (focus rfl); (focus rfl); go_frame) | ((with_reducible apply wq_fa fa118_2); (focus rfl); (focus rfl); go_frame) | ((with_reducible apply wq_fa fa23_0); (focus rfl); (focus rfl); go_frame) | ((with_reducible apply wq_fa fa23_1); (focus rfl); (focus rfl); go_frame) | ((with_reducible apply wq_fa fa23_2); (focus rfl); (focus rfl); go_frame) | ((with_reducible apply wq_fa fa23_3); (focus rfl); (focus rfl); go_frame) | ((with_reducible apply wq_fa fa61_0); (focus rfl); (focus rfl); go_frame) | ((with_reducible apply wq_fa fa61_1); (focus rfl); (focus rfl); go_frame) | ((with_reducible apply wq_ix Tryz.underlying24 sz3); (focus rfl); (focus rfl); (focus rfl); (focus omega); (try simp only [Nat.mul_one]); go_frame) | ((with_reducible apply wq_ix Tryz.underlying37 sz50); (focus rfl); (focus rfl); (focus rfl); (focus omega); (try simp only [Nat.mul_one]); go_frame) | ((with_reducible apply wq_ix Tryz.underlying35 sz47); (focus rfl); (focus rfl); (focus rfl); (focus omega); (try simp only [Nat.mul_one]); go_frame) | ((with_reducible apply wq_ix Tryz.underlying90 sz24); (focus rfl); (focus rfl); (focus rfl); (focus omega); (try simp only [Nat.mul_one]); go_frame) | ((with_reducible apply wq_ix Tryz.underlying138 sz9); (focus rfl); (focus rfl); (focus rfl); (focus omega); (try simp only [Nat.mul_one]); go_frame) | ((with_reducible apply wq_ixn 0 Tryz.underlying138 sz9); (focus rfl); (focus rfl); (focus rfl); (focus rfl); (focus omega); (try simp only [Nat.mul_one]); go_frame) | ((with_reducible apply wq_ixn 1 Tryz.underlying138 sz9); (focus rfl); (focus rfl); (focus rfl); (focus rfl); (focus omega); (try simp only [Nat.mul_one]); go_frame) | ((with_reducible apply wq_ixn 2 Tryz.underlying138 sz9); (focus rfl); (focus rfl); (focus rfl); (focus rfl); (focus omega); (try simp only [Nat.mul_one]); go_frame) | ((with_reducible apply wq_ixn 3 Tryz.underlying138 sz9); (focus rfl); (focus rfl); (focus rfl); (focus rfl); (focus omega); (try simp only [Nat.mul_one]); go_frame) | ((with_reducible apply wq_ixn 0 Tryz.underlying24 sz3); (focus rfl); (focus rfl); (focus rfl); (focus rfl); (focus omega); (try simp only [Nat.mul_one]); go_frame) | ((with_reducible apply wq_ixn 1 Tryz.underlying24 sz3); (focus rfl); (focus rfl); (focus rfl); (focus rfl); (focus omega); (try simp only [Nat.mul_one]); go_frame) | ((with_reducible apply wq_ixn 2 Tryz.underlying24 sz3); (focus rfl); (focus rfl); (focus rfl); (focus rfl); (focus omega); (try simp only [Nat.mul_one]); go_frame) | ((with_reducible apply wq_ixn 3 Tryz.underlying24 sz3); (focus rfl); (focus rfl); (focus rfl); (focus rfl); (focus omega); (try simp only [Nat.mul_one]); go_frame) | ((with_reducible apply wq_eqls hbe); (focus rfl); (focus rfl); (focus rfl); go_frame) | ((with_reducible apply wq_ixa hix); (focus rfl); (focus rfl); (focus rfl); go_frame) | ((with_reducible apply wq_ld ag3); (focus rfl); (focus rfl); (focus (intro _ hbq; first | exact (hbq.cell (lt_of_cellq e0)).trans e0)); go_frame) | ((with_reducible apply wq_ld ag24); (focus rfl); (focus rfl); (focus (intro _ hbq; first | exact (hbq.cell (lt_of_cellq e0)).trans e0)); go_frame) | ((with_reducible apply wq_ld ag37); (focus rfl); (focus rfl); (focus (intro _ hbq; first | exact (hbq.cell (lt_of_cellq e0)).trans e0)); go_frame) | ((with_reducible apply wq_ld ag90); (focus rfl); (focus rfl); (focus (intro _ hbq; first | exact (hbq.cell (lt_of_cellq e0)).trans e0)); go_frame) | ((with_reducible apply wq_ld ag35); (focus rfl); (focus rfl); (focus (intro _ hbq; first | exact (hbq.cell (lt_of_cellq e0)).trans e0)); go_frame) | ((with_reducible apply wq_ld ag9); (focus rfl); (focus rfl); (focus (intro _ hbq; first | exact (hbq.cell (lt_of_cellq e0)).trans e0)); go_frame) | ((with_reducible apply wq_add); (focus rfl); (focus rfl); (focus rfl); (focus omega); (focus omega); go_frame) | ((with_reducible apply wq_sub); (focus rfl); (focus rfl); (focus rfl); (focus omega); (focus omega); go_frame) | ((with_reducible apply wq_mul); (focus rfl); (focus rfl); (focus rfl); (focus omega); (focus omega); go_frame) | ((with_reducible apply wq_rem); (focus rfl); (focus rfl); (focus rfl); (focus omega); (focus omega); go_frame) | ((with_reducible apply wq_eql); (focus rfl); (focus rfl); (focus rfl); go_frame) | ((with_reducible apply wq_neq); (focus rfl); (focus rfl); (focus rfl); go_frame) | ((with_reducible apply wq_lss); (focus rfl); (focus rfl); (focus rfl); go_frame) | ((with_reducible apply wq_leq); (focus rfl); (focus rfl); (focus rfl); go_frame) | ((with_reducible apply wq_gtr); (focus rfl); (focus rfl); (focus rfl); go_frame) | ((with_reducible apply wq_geq); (focus rfl); (focus rfl); (focus rfl); go_frame) | ((with_reducible apply wq_max2); (focus rfl); (focus rfl); (focus rfl); go_frame) | ((with_reducible apply wq_min2); (focus rfl); (focus rfl); (focus rfl); go_frame) | ((with_reducible apply wq_max3); (focus rfl); (focus rfl); (focus rfl); (focus rfl); go_frame) | ((with_reducible apply wq_min3); (focus rfl); (focus rfl); (focus rfl); (focus rfl); go_frame) | go_big_quiet_step ((intro hbq; exact calls_below hbq (c157 _))))); refine wpQuiet_nil ?_; intro wq hbq
    (go_wp2_with fail); refine (c148_t row wq).mono ?_; rintro e w' ⟨rfl, rfl⟩
    have HQ := Lib.hid hbq
    clear hbq e0 hbe
    have HBQ := Lib.hid (HB1.out.trans (HQ.out.mono HB1.out.size))
    have HW2 := Lib.hid (show headP (partsF 32 row) = word by unfold headP; rw [HPE.out, HP0.out]; exact HW.out)
    by_cases hN0 : N = 0
    · subst hN0
      have HT := Lib.hid (show toldF word row = some [] by
        have hl : (partsF 32 row).tail.length = 0 := by rw [HPE.out, List.length_tail, HN.out]
        rw [told_all HW2.out (fun i hi => by omega), List.length_eq_zero_iff.1 hl]; rfl)
      go_wp2
      go_loopw [6, 26] (fun v i wr => v = .slice none 0 0 ∧ i = .int .i64 0 ∧ wr = wq) (fun _ _ _ => 0)
      case atStart => exact ⟨rfl, rfl, rfl⟩
      case round =>
        obtain ⟨rfl, rfl, rfl⟩ := hrel
        go_wp2
        go_ret
        exact ⟨.inl ⟨[], _, HT.out, rfl, World.ownsRow_nil _ _ _ _⟩, HBQ.out⟩
    · obtain ⟨tl, htl⟩ : ∃ tl, ps.tail = tl := ⟨_, rfl⟩
      have HTL := Lib.hid (show (partsF 32 row).tail = tl by rw [HPE.out]; exact htl)
      have HTN := Lib.hid (show tl.length = N by rw [← htl, List.length_tail, HN.out]; rfl)
      have HTC := Lib.hid (show ∀ j, j < N → wq.cell? ⟨g, 1 + j, none⟩ = some (.string (tl.getD j ByteArray.empty)) from fun j hj => by
        have h := HCE.out (j + 1) (by omega)
        have e : ps.getD (j + 1) ByteArray.empty = tl.getD j ByteArray.empty := by
          rw [← htl, List.getD_eq_getElem?_getD, List.getD_eq_getElem?_getD, List.getElem?_tail]
        rw [← e, Nat.add_comm 1 j]
        exact (HQ.out.cell (lt_of_cellq h)).trans h)
      have HTS := Lib.hid (show ∀ j, j < N → (tl.getD j ByteArray.empty).size ≤ 1000 from fun j hj => by
        have hm : tl.getD j ByteArray.empty ∈ partsF 32 row := by
          rw [HPE.out]
          exact List.mem_of_mem_tail (by rw [htl]; exact getD_mem (by rw [HTN.out]; exact hj))
        have := HPS.out _ hm
        omega)
      have hN2 : N ≤ 1000 := by omega
      clear htl
      go_wp2
      clear hpl
      go_loopw [6, 26] (fun v i wr => ∃ j : Nat, j ≤ N ∧ i = .int .i64 j ∧ Hid (wr.ownsRow wq.heap.size 3 1 v j (inV ((tl.take j).map numF))) ∧ Hid (∀ i, i < j → numF (tl.getD i ByteArray.empty) ≠ -1) ∧ Hid (Below wq.heap.size wq wr)) (fun _ i _ => N - (intOf i).toNat)
      case atStart => exact ⟨0, Nat.zero_le _, rfl, Lib.hid (World.ownsRow_nil _ _ _ _), Lib.hid (fun i h => by omega), Lib.hid (Below.refl _ _)⟩
      case round =>
        obtain ⟨j, hj, rfl, HO, HNM, HB⟩ := hrel
        by_cases hlt : j < N
        · have hltI : decide ((j : Int) < (N : Int)) = true := by simp; omega
          have e1 := (HB.out.cell (lt_of_cellq (HTC.out j hlt))).trans (HTC.out j hlt)
          have HSZ := Lib.hid (HTS.out j hlt)
          obtain ⟨x, hx⟩ : ∃ x, tl.getD j ByteArray.empty = x := ⟨_, rfl⟩
          rw [hx] at e1 HSZ
          have HX := Lib.hid hx
          clear hx
          obtain ⟨wn, hwn⟩ : ∃ wn : World, wn = wr := ⟨_, rfl⟩
          rw [← hwn] at e1 HO HB ⊢
          clear hwn wr
          have HBN := Lib.hid (HBQ.out.trans (HB.out.mono HBQ.out.size))
          have HBad := Lib.hid (show numF x = -1 → toldF word row = none from fun h => told_num (j := j) (by rw [HTL.out, HTN.out]; exact hlt) (by rw [HTL.out, HX.out]; exact h))
          go_wp2
          go_loopw [9] (fun v wr => ∃ k : Nat, k ≤ x.size ∧ v = .int .i64 (valT x k) ∧ Hid (DigTo x k) ∧ Hid (x.size ≤ 3 ∨ k = 0) ∧ wr = wn.iter x k) (fun _ wr => x.size - wr.iterPos wn.heap.size)
          case atStart => exact ⟨0, Nat.zero_le _, rfl, Lib.hid (fun i h => by omega), Lib.hid (.inr rfl), rfl⟩
          case round =>
            obtain ⟨k, hk, rfl, HD, H3, rfl⟩ := hrel
            by_cases hkx : k < x.size
            · have hnx : ∀ ty, (Instr.next (.pointer (some ⟨wn.heap.size, 0, none⟩)) true ty).run Tryz.prog (wn.iter x k) = _ := fun ty => run_next_any wn x k ty hkx
              have HDD := Lib.hid (decode_digit hkx)
              by_cases hd : 48 ≤ ((Utf8.decode x k).1 : Int) ∧ ((Utf8.decode x k).1 : Int) ≤ 57
              · by_cases h3 : x.size ≤ 3
                · have hb := decode_digit hkx
                  have hby := byteAt_range x k
                  have hrb : ((Utf8.decode x k).1 : Int) = byteAt x k := by
                    have e : byteAt x k = ((x[k]'hkx).toNat : Int) := by
                      unfold byteAt Array.getD
                      rw [dif_pos (show k < x.data.size from hkx)]; rfl
                    rw [e]
                    by_cases ha : (x[k]'hkx).toNat < 128
                    · rw [decode_ascii x k hkx ha]
                    · have := (decode_high x k hkx (by omega)).1
                      omega
                  have hw1 : (Utf8.decode x k).2 = 1 := by
                    by_cases ha : (x[k]'hkx).toNat < 128
                    · rw [decode_ascii x k hkx ha]
                    · have := (decode_high x k hkx (by omega)).1
                      omega
                  have hv := valT_range x k (by omega) HD.out
                  have hpw : (10 : Int) ^ k ≤ 1000 := by
                    have : k = 0 ∨ k = 1 ∨ k = 2 := by omega
                    rcases this with rfl | rfl | rfl <;> decide
                  have HV := Lib.hid (show valT x (k + 1) = 10 * valT x k + (byteAt x k - 48) from rfl)
                  have HD2 := Lib.hid (show DigTo x (k + 1) from fun i hi => by
                    by_cases h : i < k
                    · exact HD.out i h
                    · obtain rfl : i = k := by omega
                      exact hb.1 hd)
                  rw [hw1, hrb] at hnx
                  rw [hrb] at hd
                  clear hrb hw1 hb HDD
                  obtain ⟨b, hbb⟩ : ∃ b, byteAt x k = b := ⟨_, rfl⟩
                  rw [hbb] at hnx hd hby HV
                  obtain ⟨v, hve⟩ : ∃ v, valT x k = v := ⟨_, rfl⟩
                  rw [hve] at hv HV
                  rw [hve]
                  clear hbb hve
                  have hd1 : decide (b ≥ 48) = true := decide_eq_true hd.1
                  have hd2 : decide (b ≤ 57) = true := decide_eq_true hd.2
                  have hs3 : decide ((x.size : Int) ≤ 3) = true := decide_eq_true (by omega)
                  have hm1 : IntKind.i64.wrap (10 * v) = 10 * v := w64 _ (by omega) (by omega)
                  have hm2 : IntKind.i32.wrap (b - 48) = b - 48 := by rw [IntKind.wrap_i32]; omega
                  have hm3 : IntKind.i64.wrap (b - 48) = b - 48 := w64 _ (by omega) (by omega)
                  have hm4 : IntKind.i64.wrap (10 * v + (b - 48)) = 10 * v + (b - 48) := w64 _ (by omega) (by omega)
                  have h3' := Lib.hid h3
                  clear h3 hpw
                  go_wp2_with fail
                  refine (c148_t x _).mono ?_
                  rintro e w' ⟨rfl, rfl⟩
                  go_wp2
                  go_roundw
                  case rel => exact ⟨k + 1, by omega, by rw [HV.out], HD2, Lib.hid (.inl h3'.out), rfl⟩
                  case measure => simp; omega
                · have HT := Lib.hid (HBad.out (numF_long (by omega)))
                  have hbi : Below w.heap.size w (wn.iter x (k + (Utf8.decode x k).2)) := HBN.out.trans ((below_alloc1 wn (.stringIter x (k + (Utf8.decode x k).2))).mono HBN.out.size)
                  obtain ⟨wi, hwi⟩ : ∃ wi, wn.iter x (k + (Utf8.decode x k).2) = wi := ⟨_, rfl⟩
                  rw [hwi] at hnx hbi
                  obtain ⟨r, hr⟩ : ∃ r : Int, ((Utf8.decode x k).1 : Int) = r := ⟨_, rfl⟩
                  rw [hr] at hnx hd
                  clear hr hwi HDD
                  have hd1 : decide (r ≥ 48) = true := decide_eq_true hd.1
                  have hd2 : decide (r ≤ 57) = true := decide_eq_true hd.2
                  have hs3 : decide ((x.size : Int) ≤ 3) = false := decide_eq_false (by omega)
                  clear h3
                  go_wp2_with fail
                  refine (c148_f x _).mono ?_
                  rintro e w' ⟨he, b2⟩
                  unfold noneE at he
                  subst he
                  have HBZ := Lib.hid (hbi.trans (b2.mono hbi.size))
                  clear b2 hbi
                  go_wp2
                  exact ⟨rfl, .inr ⟨HT.out, _, rfl⟩, HBZ.out⟩
              · have HT := Lib.hid (HBad.out (numF_other hkx (fun hc => hd (HDD.out.2 hc))))
                have hbi : Below w.heap.size w (wn.iter x (k + (Utf8.decode x k).2)) := HBN.out.trans ((below_alloc1 wn (.stringIter x (k + (Utf8.decode x k).2))).mono HBN.out.size)
                obtain ⟨wi, hwi⟩ : ∃ wi, wn.iter x (k + (Utf8.decode x k).2) = wi := ⟨_, rfl⟩
                rw [hwi] at hnx hbi
                obtain ⟨r, hr⟩ : ∃ r : Int, ((Utf8.decode x k).1 : Int) = r := ⟨_, rfl⟩
                rw [hr] at hnx hd
                clear hr hwi HDD
                by_cases h48 : r ≥ 48
                · have hd1 : decide (r ≥ 48) = true := decide_eq_true h48
                  have hd2 : decide (r ≤ 57) = false := decide_eq_false (fun hc => hd ⟨h48, hc⟩)
                  clear hd h48
                  go_wp2_with fail
                  refine (c148_f x _).mono ?_
                  rintro e w' ⟨he, b2⟩
                  unfold noneE at he
                  subst he
                  have HBZ := Lib.hid (hbi.trans (b2.mono hbi.size))
                  clear b2 hbi
                  go_wp2
                  exact ⟨rfl, .inr ⟨HT.out, _, rfl⟩, HBZ.out⟩
                · have hd1 : decide (r ≥ 48) = false := decide_eq_false h48
                  clear hd h48
                  go_wp2_with fail
                  refine (c148_f x _).mono ?_
                  rintro e w' ⟨he, b2⟩
                  unfold noneE at he
                  subst he
                  have HBZ := Lib.hid (hbi.trans (b2.mono hbi.size))
                  clear b2 hbi
                  go_wp2
                  exact ⟨rfl, .inr ⟨HT.out, _, rfl⟩, HBZ.out⟩
            · obtain rfl : k = x.size := by omega
              have hnx : ∀ ty, (Instr.next (.pointer (some ⟨wn.heap.size, 0, none⟩)) true ty).run Tryz.prog (wn.iter x x.size) = _ := fun ty => run_next_end wn x x.size ty (by omega)
              have hbi : Below w.heap.size w (wn.iter x x.size) := HBN.out.trans ((below_alloc1 wn (.stringIter x x.size)).mono HBN.out.size)
              have HBI := Lib.hid hbi
              have HQI := Lib.hid (show Below wq.heap.size wq (wn.iter x x.size) from HB.out.trans ((below_alloc1 wn (.stringIter x x.size)).mono HB.out.size))
              have HOI := Lib.hid (show (wn.iter x x.size).ownsRow wq.heap.size 3 1 u6 j (inV ((tl.take j).map numF)) from HO.out.alloc _)
              obtain ⟨wi, hwi⟩ : ∃ wi, wn.iter x x.size = wi := ⟨_, rfl⟩
              rw [hwi] at hnx HBI HOI HQI ⊢
              clear hwi hbi
              by_cases h0 : x.size = 0
              · have HT := Lib.hid (HBad.out (numF_empty h0))
                have hxl : x.toList = [] := by rw [ByteArray.toList_eq]; exact List.length_eq_zero_iff.1 (by rw [← size_toList]; exact h0)
                obtain ⟨v0, hv0⟩ : ∃ v0, valT x x.size = v0 := ⟨_, rfl⟩
                rw [hv0]
                clear h0 hv0 hk hkx
                go_wp2_with fail
                refine (c148_f x _).mono ?_
                rintro e w' ⟨he, b2⟩
                unfold noneE at he
                subst he
                have HBZ := Lib.hid (HBI.out.trans (b2.mono HBI.out.size))
                clear b2
                go_wp2
                exact ⟨rfl, .inr ⟨HT.out, _, rfl⟩, HBZ.out⟩
              · have hx3 : x.size ≤ 3 := by rcases H3.out with h | h <;> omega
                have hv := valT_range x x.size hx3 HD.out
                have hpw : (10 : Int) ^ x.size ≤ 1000 := by
                  have : x.size = 1 ∨ x.size = 2 ∨ x.size = 3 := by omega
                  rcases this with e | e | e <;> rw [e] <;> decide
                obtain ⟨n, hn⟩ : ∃ n : Nat, valT x x.size = n := ⟨(valT x x.size).toNat, by omega⟩
                have hn1 : n < 1000 := by omega
                have hxl : ¬ x.toList = [] := fun h => h0 (by rw [size_toList, ← ByteArray.toList_eq, h]; rfl)
                have hxe : x.toList.isEmpty = false := by simpa using hxl
                rw [hn]
                have HNE := Lib.hid hn
                have HX3 := Lib.hid hx3
                have HX0 := Lib.hid h0
                have h145 := HI.out wi HBI.out n hn1
                clear hv hpw hn hx3 h0 hk hkx
                obtain ⟨dn, hdn⟩ : ∃ dn : ByteArray, (⟨(Lib.decDigits n).toArray⟩ : ByteArray) = dn := ⟨_, rfl⟩
                rw [hdn] at h145
                have HDN := Lib.hid hdn
                clear hdn
                by_cases he : dn = x
                · have hbe : (dn.toList == x.toList) = true := by rw [he]; exact beq_self_eq_true _
                  have HNX := Lib.hid (show numF x = n from numF_good HX0.out HX3.out HD.out HNE.out (by rw [HDN.out]; exact he))
                  clear he
                  go_wp2_with fail
                  refine h145.mono ?_
                  rintro e w2 ⟨rfl, b2⟩
                  have HBJ := Lib.hid (HBI.out.trans (b2.mono HBI.out.size))
                  have HOJ := Lib.hid (own_kept HOI.out b2)
                  have HQJ := Lib.hid (HQI.out.trans (b2.mono HQI.out.size))
                  clear b2
                  go_wp2_with fail
                  refine (c148_t x _).mono ?_
                  rintro e w' ⟨rfl, rfl⟩
                  go_wp2_with (at_builtin; refine wpList_append_own _ rfl _ _ 24 rfl wq.heap.size 3 i0 _ 1 8 Tryz.underlying24 hi0 hy0 hy1 hy2 rfl (by decide) _ _ _ rfl (HOJ.out.alloc _) ⟨w2.heap.size, 0, none⟩ 1 1 [.int .i64 n] rfl rfl ?c1 ?c2 ?c3 ?c4 ?c5 ?_)
                  case c1 => exact news_of _ _ _
                  case c2 => intro u hu; simp at hu; subst hu; rfl
                  case c3 => unfold maxLen; omega
                  case c4 => omega
                  case c5 => have := HQJ.out.size; simp; omega
                  intro v' w5 hown' hgrow _
                  have hlt' := HOJ.out.lt
                  have HN' := Lib.hid (HQJ.out.trans (((Below.refl wq.heap.size w2).alloc HQJ.out.size _).grown hgrow (by have := HQJ.out.size; simp; omega) (fun j hj => (hlt' j hj).1)))
                  have HO' := Lib.hid hown'
                  have HST := Lib.hid (show inV ((tl.take (j + 1)).map numF) = inV ((tl.take j).map numF) ++ [.int .i64 n] by rw [numsTo_step (by rw [HTN.out]; exact hlt), HX.out, HNX.out])
                  have HNM2 := Lib.hid (show ∀ i, i < j + 1 → numF (tl.getD i ByteArray.empty) ≠ -1 from fun i hi => by
                    by_cases h : i < j
                    · exact HNM.out i h
                    · obtain rfl : i = j := by omega
                      rw [HX.out, HNX.out]; omega)
                  clear hown' hgrow hlt'
                  go_wp2
                  go_roundw
                  case rel => exact ⟨j + 1, by omega, by go_num, Lib.hid (by rw [HST.out, List.map_take]; exact HO'.out), HNM2, HN'⟩
                  case measure => simp [intOf]; omega
                · have hbe : (dn.toList == x.toList) = false := by
                    rw [beq_eq_false_iff_ne]
                    intro h
                    exact he (ByteArray.ext (Array.ext' (by simpa [ByteArray.toList_eq] using h)))
                  have HT := Lib.hid (HBad.out (numF_text HNE.out (by rw [HDN.out]; exact he)))
                  clear he
                  go_wp2_with fail
                  refine h145.mono ?_
                  rintro e w2 ⟨rfl, b2⟩
                  have HBJ := Lib.hid (HBI.out.trans (b2.mono HBI.out.size))
                  clear b2
                  go_wp2_with fail
                  refine (c148_f x _).mono ?_
                  rintro e w' ⟨he, b2⟩
                  unfold noneE at he
                  subst he
                  have HBZ := Lib.hid (HBJ.out.trans (b2.mono HBJ.out.size))
                  clear b2
                  go_wp2
                  exact ⟨rfl, .inr ⟨HT.out, _, rfl⟩, HBZ.out⟩
        · obtain rfl : j = N := by omega
          have hltI : decide ((j : Int) < (j : Int)) = false := by simp
          have HT := Lib.hid (show toldF word row = some (tl.map numF) by
            rw [told_all HW2.out (fun i hi => by rw [HTL.out] at hi ⊢; rw [HTN.out] at hi; exact HNM.out i hi), HTL.out])
          go_wp2
          go_ret
          refine ⟨.inl ⟨_, _, HT.out, rfl, ?_⟩, HBQ.out.trans (HB.out.mono HBQ.out.size)⟩
          have h := HO.out
          have e : tl.take j = tl := by rw [← HTN.out]; exact List.take_length
          rw [e] at h
          rw [List.length_map, HTN.out]
          exact own_mono h HBQ.out.size
  · have hbe : (p0.toList == word.toList) = false := by
      rw [beq_eq_false_iff_ne]
      intro h
      exact hw (ByteArray.ext (Array.ext' (by simpa [ByteArray.toList_eq] using h)))
    have HT := Lib.hid (show toldF word row = none from told_word (by unfold headP; rw [HPE.out, HP0.out]; exact hw))
    clear hw
    go_wp2_with fail
    refine wp_region_below_tail 8 (by kernel_rfl) (by kernel_rfl) ?_; simp only [List.take_succ_cons, List.take_zero, List.drop_succ_cons, List.drop_zero]; (repeat (first | ((with_reducible apply wq_fa fa118_0); (focus rfl); (focus rfl); go_frame) | ((with_reducible apply wq_fa fa118_1); (focus rfl); (focus rfl); go_frame) | ((with_reducible apply wq_fa fa118_2); (focus rfl); (focus rfl); go_frame) | ((with_reducible apply wq_fa fa23_0); (focus rfl); (focus rfl); go_frame) | ((with_reducible apply wq_fa fa23_1); (focus rfl); (focus rfl); go_frame) | ((with_reducible apply wq_fa fa23_2); (focus rfl); (focus rfl); go_frame) | ((with_reducible apply wq_fa fa23_3); (focus rfl); (focus rfl); go_frame) | ((with_reducible apply wq_fa fa61_0); (focus rfl); (focus rfl); go_frame) | ((with_reducible apply wq_fa fa61_1); (focus rfl); (focus rfl); go_frame) | ((with_reducible apply wq_ix Tryz.underlying24 sz3); (focus rfl); (focus rfl); (focus rfl); (focus omega); (try simp only [Nat.mul_one]); go_frame) | ((with_reducible apply wq_ix Tryz.underlying37 sz50); (focus rfl); (focus rfl); (focus rfl); (focus omega); (try simp only [Nat.mul_one]); go_frame) | ((with_reducible apply wq_ix Tryz.underlying35 sz47); (focus rfl); (focus rfl); (focus rfl); (focus omega); (try simp only [Nat.mul_one]); go_frame) | ((with_reducible apply wq_ix Tryz.underlying90 sz24); (focus rfl); (focus rfl); (focus rfl); (focus omega); (try simp only [Nat.mul_one]); go_frame) | ((with_reducible apply wq_ix Tryz.underlying138 sz9); (focus rfl); (focus rfl); (focus rfl); (focus omega); (try simp only [Nat.mul_one]); go_frame) | ((with_reducible apply wq_ixn 0 Tryz.underlying138 sz9); (focus rfl); (focus rfl); (focus rfl); (focus rfl); (focus omega); (try simp only [Nat.mul_one]); go_frame) | ((with_reducible apply wq_ixn 1 Tryz.underlying138 sz9); (focus rfl); (focus rfl); (focus rfl); (focus rfl); (focus omega); (try simp only [Nat.mul_one]); go_frame) | ((with_reducible apply wq_ixn 2 Tryz.underlying138 sz9); (focus rfl); (focus rfl); (focus rfl); (focus rfl); (focus omega); (try simp only [Nat.mul_one]); go_frame) | ((with_reducible apply wq_ixn 3 Tryz.underlying138 sz9); (focus rfl); (focus rfl); (focus rfl); (focus rfl); (focus omega); (try simp only [Nat.mul_one]); go_frame) | ((with_reducible apply wq_ixn 0 Tryz.underlying24 sz3); (focus rfl); (focus rfl); (focus rfl); (focus rfl); (focus omega); (try simp only [Nat.mul_one]); go_frame) | ((with_reducible apply wq_ixn 1 Tryz.underlying24 sz3); (focus rfl); (focus rfl); (focus rfl); (focus rfl); (focus omega); (try simp only [Nat.mul_one]); go_frame) | ((with_reducible apply wq_ixn 2 Tryz.underlying24 sz3); (focus rfl); (focus rfl); (focus rfl); (focus rfl); (focus omega); (try simp only [Nat.mul_one]); go_frame) | ((with_reducible apply wq_ixn 3 Tryz.underlying24 sz3); (focus rfl); (focus rfl); (focus rfl); (focus rfl); (focus omega); (try simp only [Nat.mul_one]); go_frame) | ((with_reducible apply wq_eqls hbe); (focus rfl); (focus rfl); (focus rfl); go_frame) | ((with_reducible apply wq_ixa hix); (focus rfl); (focus rfl); (focus rfl); go_frame) | ((with_reducible apply wq_ld ag3); (focus rfl); (focus rfl); (focus (intro _ hbq; first | exact (hbq.cell (lt_of_cellq e0)).trans e0)); go_frame) | ((with_reducible apply wq_ld ag24); (focus rfl); (focus rfl); (focus (intro _ hbq; first | exact (hbq.cell (lt_of_cellq e0)).trans e0)); go_frame) | ((with_reducible apply wq_ld ag37); (focus rfl); (focus rfl); (focus (intro _ hbq; first | exact (hbq.cell (lt_of_cellq e0)).trans e0)); go_frame) | ((with_reducible apply wq_ld ag90); (focus rfl); (focus rfl); (focus (intro _ hbq; first | exact (hbq.cell (lt_of_cellq e0)).trans e0)); go_frame) | ((with_reducible apply wq_ld ag35); (focus rfl); (focus rfl); (focus (intro _ hbq; first | exact (hbq.cell (lt_of_cellq e0)).trans e0)); go_frame) | ((with_reducible apply wq_ld ag9); (focus rfl); (focus rfl); (focus (intro _ hbq; first | exact (hbq.cell (lt_of_cellq e0)).trans e0)); go_frame) | ((with_reducible apply wq_add); (focus rfl); (focus rfl); (focus rfl); (focus omega); (focus omega); go_frame) | ((with_reducible apply wq_sub); (focus rfl); (focus rfl); (focus rfl); (focus omega); (focus omega); go_frame) | ((with_reducible apply wq_mul); (focus rfl); (focus rfl); (focus rfl); (focus omega); (focus omega); go_frame) | ((with_reducible apply wq_rem); (focus rfl); (focus rfl); (focus rfl); (focus omega); (focus omega); go_frame) | ((with_reducible apply wq_eql); (focus rfl); (focus rfl); (focus rfl); go_frame) | ((with_reducible apply wq_neq); (focus rfl); (focus rfl); (focus rfl); go_frame) | ((with_reducible apply wq_lss); (focus rfl); (focus rfl); (focus rfl); go_frame) | ((with_reducible apply wq_leq); (focus rfl); (focus rfl); (focus rfl); go_frame) | ((with_reducible apply wq_gtr); (focus rfl); (focus rfl); (focus rfl); go_frame) | ((with_reducible apply wq_geq); (focus rfl); (focus rfl); (focus rfl); go_frame) | ((with_reducible apply wq_max2); (focus rfl); (focus rfl); (focus rfl); go_frame) | ((with_reducible apply wq_min2); (focus rfl); (focus rfl); (focus rfl); go_frame) | ((with_reducible apply wq_max3); (focus rfl); (focus rfl); (focus rfl); (focus rfl); go_frame) | ((with_reducible apply wq_min3); (focus rfl); (focus rfl); (focus rfl); (focus rfl); go_frame) | go_big_quiet_step ((intro hbq; exact calls_below hbq (c157 _))))); refine wpQuiet_nil ?_; intro wq hbq
    (go_wp2_with fail); refine (c148_f row wq).mono ?_; rintro e w' ⟨he, b2⟩; unfold noneE at he; subst he
    go_wp2
    refine ⟨rfl, .inr ⟨HT.out, _, rfl⟩, HB1.out.trans ((hbq.trans (b2.mono hbq.size)).mono HB1.out.size)⟩
end Go.Proofs.YtncfgkhbenmpoaaGreatDoor
end

section
namespace Go.Proofs.YtncfgkhbenmpoaaGreatDoor
open Go Go.RowKit Go.Proofs Go.Shelf
set_option linter.unusedVariables false

def ParsedPost (s : ByteArray) (w : World) (e : Ending) (w' : World) : Prop :=
  ((∃ lo hi sl ch css p c hs, Bk s lo hi sl ch css ∧ e = .returned (.tuple #[.agg #[.int .i64 lo, .int .i64 hi, .int .i64 sl, .int .i64 ch], .slice p css.length c]) ∧ w'.ownsRow w.heap.size 24 1 (.slice p css.length c) css.length hs ∧ ElC w' w.heap.size css hs ∧ css.length ≤ 500 ∧ ∀ i, i < css.length → (gl css i).length ≤ 500) ∨
   ((∀ lo hi sl ch css, ¬ Bk s lo hi sl ch css) ∧ ∃ x, e = noneE x)) ∧ Below w.heap.size w w'
theorem noBk {s : ByteArray} (h : ∀ lo hi sl ch css, ¬ Parsed s lo hi sl ch css) : ∀ lo hi sl ch css, ¬ Bk s lo hi sl ch css := fun lo hi sl ch css hb => h _ _ _ _ _ (parsed_of_bk hb)
theorem ix181_0' (w : World) : (Instr.index 181 (.agg #[.string bookW, .string camW]) (.int .i64 ((0 : Nat) : Int))).run Tryz.prog w = .ok (.string bookW) w := ix181_0 _ _ w
theorem ix181_1' (w : World) : (Instr.index 181 (.agg #[.string bookW, .string camW]) (.int .i64 ((1 : Nat) : Int))).run Tryz.prog w = .ok (.string camW) w := ix181_1 _ _ w
/-- the cams of a text's rows, as far as they are read -/
def CamsRd (s : ByteArray) (css : List (List Int)) : Prop := ∀ i, i < css.length → toldF camW ((rowsF s).getD (i + 1) ByteArray.empty) = some (gl css i)

set_option maxRecDepth 100000 in
set_option maxHeartbeats 2000000 in
theorem c121 (s : ByteArray) (m : Int) (w : World) (hs : s.size ≤ 500) (hm : w.cell? ⟨1, 0, none⟩ = some (.int .i64 m)) (hI : ItoaR 1000 w) :
    Calls Tryz.prog 121 #[.string s] w (ParsedPost s w) := by
  obtain ⟨wz, ez, HSz, z0, z1, z2, z3, bz⟩ := box4 w (.int .i64 0) (.int .i64 0) (.int .i64 0) (.int .i64 0) 23
  have hhz : wz.heap[w.heap.size]? = some (.cells #[.int .i64 0, .int .i64 0, .int .i64 0, .int .i64 0] 23) := by rw [← ez]; exact alloc_new w _
  have h147 := c147 s 10 m wz (by omega) ((bz.cell (lt_of_cellq hm)).trans hm)
  have HI := Lib.hid hI
  have HM := Lib.hid hm
  have hpl := parts_count 10 s
  have HPS := Lib.hid (fun p hp => part_size (c := 10) (s := s) (p := p) hp)
  obtain ⟨i0, hi0, hy0, hy1, hy2⟩ := info_parts info24
  obtain ⟨ps, hpe⟩ : ∃ ps, partsF 10 s = ps := ⟨_, rfl⟩
  obtain ⟨n, hn⟩ : ∃ n, ps.length = n := ⟨_, rfl⟩
  rw [hpe] at h147 hpl
  rw [hn] at h147 hpl
  have HN := Lib.hid hn
  have HPE := Lib.hid hpe
  have HBZ := Lib.hid bz
  have HSS := Lib.hid hs
  clear hm hI hpe hn bz hs
  go_enter Tryz.func121, Tryz.ntmps121
  go_wp2_with fail
  refine h147.mono ?_
  rintro e w1 ⟨⟨g, hg, rfl, hrd⟩, b1⟩
  have hsz0 := HSz.out
  have HB1 := Lib.hid (HBZ.out.trans (b1.mono HBZ.out.size))
  have hcell : ∀ i, i < n → w1.cell? ⟨g, i, none⟩ = some (.string (ps.getD i ByteArray.empty)) := fun i hi => by
    obtain ⟨b, hb, hc⟩ := hrd
    cases hb
    exact hc i (by rw [HN.out]; exact hi)
  have HCE := Lib.hid hcell
  have hzlt := lt_of_cellq z0
  have z0 := (b1.cell (lt_of_cellq z0)).trans z0
  have z1 := (b1.cell (lt_of_cellq z1)).trans z1
  have z2 := (b1.cell (lt_of_cellq z2)).trans z2
  have z3 := (b1.cell (lt_of_cellq z3)).trans z3
  have HZ := Lib.hid (show w1.cell? ⟨w.heap.size, 0, none⟩ = some (.int .i64 0) ∧ w1.cell? ⟨w.heap.size, 1, none⟩ = some (.int .i64 0) ∧ w1.cell? ⟨w.heap.size, 2, none⟩ = some (.int .i64 0) ∧ w1.cell? ⟨w.heap.size, 3, none⟩ = some (.int .i64 0) from ⟨z0, z1, z2, z3⟩)
  have HHZ := Lib.hid (show w1.heap[w.heap.size]? = some (.cells #[.int .i64 0, .int .i64 0, .int .i64 0, .int .i64 0] 23) from (b1.block _ hzlt).trans hhz)
  have HG := Lib.hid hg
  clear hhz hzlt h147 b1 hrd hcell hsz0 ez z0 z1 z2 z3 hg
  by_cases h3 : 3 ≤ n
  · obtain ⟨K, hK0⟩ : ∃ K, n = K + 3 := ⟨n - 3, by omega⟩
    have HK := Lib.hid hK0
    clear hK0
    have h3I : decide ((n : Int) ≥ 3) = true := by simp; omega
    have e0 := HCE.out 0 (by omega)
    have hps0 : (ps.getD 0 ByteArray.empty).size ≤ 500 := by
      have := HPS.out (ps.getD 0 ByteArray.empty) (by rw [HPE.out]; exact getD_mem (by rw [HN.out]; omega))
      have := HSS.out
      omega
    have h149 : Calls Tryz.prog 149 #[.string (ps.getD 0 ByteArray.empty), .int .i64 0] w1 (ToldPost bookW (ps.getD 0 ByteArray.empty) w1) := c149 0 bookW _ m w1 (by omega) ((HB1.out.cell (lt_of_cellq HM.out)).trans HM.out) (HI.out.below HB1.out) ix181_0'
    have HHP := Lib.hid (show headP (rowsF s) = ps.getD 0 ByteArray.empty by unfold headP rowsF; rw [HPE.out])
    obtain ⟨r0, hr0⟩ : ∃ r0, ps.getD 0 ByteArray.empty = r0 := ⟨_, rfl⟩
    rw [hr0] at e0 h149 HHP
    clear hr0 hps0
    go_wp2_with fail
    refine (c148_t s _).mono ?_
    rintro e w' ⟨rfl, rfl⟩
    go_wp2_with fail
    refine h149.mono ?_
    rintro e w2 ⟨⟨xs, hv, htold, rfl, hown⟩ | ⟨hno, x, he⟩, b2⟩
    · have HB2 := Lib.hid (HB1.out.trans (b2.mono HB1.out.size))
      have HT := Lib.hid htold
      obtain ⟨px, cx, rfl, hrx⟩ := rd_of_own hown
      have HCE2 := Lib.hid (show ∀ i, i < n → w2.cell? ⟨g, i, none⟩ = some (.string (ps.getD i ByteArray.empty)) from fun i hi => (b2.cell (lt_of_cellq (HCE.out i hi))).trans (HCE.out i hi))
      have HZ2 := Lib.hid (show w2.cell? ⟨w.heap.size, 0, none⟩ = some (.int .i64 0) ∧ w2.cell? ⟨w.heap.size, 1, none⟩ = some (.int .i64 0) ∧ w2.cell? ⟨w.heap.size, 2, none⟩ = some (.int .i64 0) ∧ w2.cell? ⟨w.heap.size, 3, none⟩ = some (.int .i64 0) from
        ⟨(b2.cell (lt_of_cellq HZ.out.1)).trans HZ.out.1, (b2.cell (lt_of_cellq HZ.out.2.1)).trans HZ.out.2.1, (b2.cell (lt_of_cellq HZ.out.2.2.1)).trans HZ.out.2.2.1, (b2.cell (lt_of_cellq HZ.out.2.2.2)).trans HZ.out.2.2.2⟩)
      have HHZ2 := Lib.hid (show w2.heap[w.heap.size]? = some (.cells #[.int .i64 0, .int .i64 0, .int .i64 0, .int .i64 0] 23) from (b2.block _ (lt_of_cellq HZ.out.1)).trans HHZ.out)
      clear htold hown h149 b2 e0
      by_cases h4 : xs.length = 4
      · obtain ⟨b, off, rfl, hc⟩ := hrx.at (i := 0) (by omega)
        have f0 := hc 0 (by omega)
        have f1 := hc 1 (by omega)
        have f2 := hc 2 (by omega)
        have f3 := hc 3 (by omega)
        rw [Nat.add_zero] at f0
        obtain ⟨lo, hlo⟩ : ∃ lo, gi xs 0 = lo := ⟨_, rfl⟩
        obtain ⟨hi, hhi⟩ : ∃ hi, gi xs 1 = hi := ⟨_, rfl⟩
        obtain ⟨sl, hsl⟩ : ∃ sl, gi xs 2 = sl := ⟨_, rfl⟩
        obtain ⟨ch, hch⟩ : ∃ ch, gi xs 3 = ch := ⟨_, rfl⟩
        have HXS := Lib.hid (show xs = [lo, hi, sl, ch] by
          match xs, h4 with
          | [a, b, c, d], _ => rw [← hlo, ← hhi, ← hsl, ← hch]; rfl)
        rw [hlo] at f0
        rw [hhi] at f1
        rw [hsl] at f2
        rw [hch] at f3
        have h4I : ((xs.length : Int) == 4) = true := by rw [beq_iff_eq]; omega
        clear hlo hhi hsl hch hc hrx
        go_wp2_with fail
        refine (c148_t s _).mono ?_
        rintro e w' ⟨rfl, rfl⟩
        have h4' := Lib.hid h4
        clear h4
        go_wp2_with fail
        have HA := Lib.hid (show ∀ o : Obj, (w2.alloc o).drew.cell? ⟨b, off, none⟩ = some (.int .i64 lo) ∧ (w2.alloc o).drew.cell? ⟨b, off + 1, none⟩ = some (.int .i64 hi) ∧ (w2.alloc o).drew.cell? ⟨b, off + 2, none⟩ = some (.int .i64 sl) ∧ (w2.alloc o).drew.cell? ⟨b, off + 3, none⟩ = some (.int .i64 ch) from fun o =>
          ⟨((below_alloc1 w2 o).cell (lt_of_cellq f0)).trans f0, ((below_alloc1 w2 o).cell (lt_of_cellq f1)).trans f1, ((below_alloc1 w2 o).cell (lt_of_cellq f2)).trans f2, ((below_alloc1 w2 o).cell (lt_of_cellq f3)).trans f3⟩)
        go_region_held3 (fun w' => w'.cell? ⟨b, off, none⟩ = some (.int .i64 lo) ∧ w'.cell? ⟨b, off + 1, none⟩ = some (.int .i64 hi) ∧ w'.cell? ⟨b, off + 2, none⟩ = some (.int .i64 sl) ∧ w'.cell? ⟨b, off + 3, none⟩ = some (.int .i64 ch)) (first | exact ⟨f0, f1, f2, f3⟩ | exact HA.out _) (fail)
        clear f0 f1 f2 f3 HA
        obtain ⟨w3, e3, HS3, q0, q1, q2, q3, b3⟩ := box4 w2 (.int .i64 lo) (.int .i64 hi) (.int .i64 sl) (.int .i64 ch) 23
        rw [e3]
        clear e3
        obtain ⟨w4, hw4⟩ : ∃ w4, w3.drew = w4 := ⟨_, rfl⟩
        have HB4 := Lib.hid (show Below w2.heap.size w2 w4 by rw [← hw4]; exact b3.drew)
        have HQ4 := Lib.hid (show w4.cell? ⟨w2.heap.size, 0, none⟩ = some (.int .i64 lo) ∧ w4.cell? ⟨w2.heap.size, 1, none⟩ = some (.int .i64 hi) ∧ w4.cell? ⟨w2.heap.size, 2, none⟩ = some (.int .i64 sl) ∧ w4.cell? ⟨w2.heap.size, 3, none⟩ = some (.int .i64 ch) by rw [← hw4]; exact ⟨q0, q1, q2, q3⟩)
        rw [hw4]
        clear hw4 q0 q1 q2 q3 b3 HS3
        have HB24 := Lib.hid (HB2.out.trans (HB4.out.mono HB2.out.size))
        have HCE4 := Lib.hid (show ∀ j, j < K → w4.cell? ⟨g, 1 + j, none⟩ = some (.string (ps.getD (j + 1) ByteArray.empty)) from fun j hj => by
          have h := HCE2.out (j + 1) (by have := HK.out; omega)
          rw [Nat.add_comm 1 j]
          exact (HB4.out.cell (lt_of_cellq h)).trans h)
        have HPZ := Lib.hid (show ∀ j, j < K → (ps.getD (j + 1) ByteArray.empty).size ≤ 500 from fun j hj => by
          have := HPS.out (ps.getD (j + 1) ByteArray.empty) (by rw [HPE.out]; exact getD_mem (by rw [HN.out]; have := HK.out; omega))
          have := HSS.out
          omega)
        have HRW := Lib.hid (show rowsF s = ps from HPE.out)
        have hK : K ≤ 500 := by have := HSS.out; have := HK.out; omega
        have hKd : (n : Int) - 2 = (K : Int) + 1 := by have := HK.out; omega
        have hKn : K + 1 ≤ n := by have := HK.out; omega
        clear hpl
        simp only [Exit.then]
        go_wp2
        go_loopw [7, 46] (fun v i wr => ∃ j : Nat, ∃ css : List (List Int), ∃ hs : List Value, j ≤ K ∧ i = .int .i64 j ∧ Hid (css.length = j) ∧ Hid (wr.ownsRow w4.heap.size 24 1 v j hs) ∧ Hid (ElC wr w4.heap.size css hs) ∧ Hid (CamsRd s css) ∧ Hid (Below w4.heap.size w4 wr)) (fun _ i _ => K - (intOf i).toNat)
        case atStart => exact ⟨0, [], [], Nat.zero_le _, rfl, Lib.hid rfl, Lib.hid (World.ownsRow_nil _ _ _ _), Lib.hid (ElC.nil _ _ _), Lib.hid (fun i h => absurd h (Nat.not_lt_zero _)), Lib.hid (Below.refl _ _)⟩
        case round =>
          obtain ⟨j, css, hs, hj, rfl, HL, HO, HE, HC, HB⟩ := hrel
          have HBR := Lib.hid (HB24.out.trans (HB.out.mono HB24.out.size))
          by_cases hlt : j < K
          · have hltI : decide ((j : Int) < (K : Int)) = true := by simp; omega
            have e1 := (HB.out.cell (lt_of_cellq (HCE4.out j hlt))).trans (HCE4.out j hlt)
            have hpz := HPZ.out j hlt
            have HR := Lib.hid (show (rowsF s).getD (j + 1) ByteArray.empty = ps.getD (j + 1) ByteArray.empty by rw [HRW.out])
            obtain ⟨r, hr⟩ : ∃ r, ps.getD (j + 1) ByteArray.empty = r := ⟨_, rfl⟩
            rw [hr] at e1 hpz HR
            have h149 : Calls Tryz.prog 149 #[.string r, .int .i64 1] wr (ToldPost camW r wr) := c149 1 camW _ m wr (by omega) ((HBR.out.cell (lt_of_cellq HM.out)).trans HM.out) (HI.out.below HBR.out) ix181_1'
            clear hr hpz
            go_wp2_with fail
            refine h149.mono ?_
            rintro e w5 ⟨⟨xs', hv, htold, rfl, hown⟩ | ⟨hno, x, he⟩, b5⟩
            · obtain ⟨px5, cx5, rfl, _⟩ := rd_of_own hown
              have HT5 := Lib.hid htold
              have HO5 := Lib.hid (own_kept HO.out b5)
              have HE5 := Lib.hid (HE.out.below b5)
              have HB5 := Lib.hid (HB.out.trans (b5.mono HB.out.size))
              have HX5 := Lib.hid (own_mono hown HB.out.size)
              clear htold hown b5 h149 e1
              go_wp2_with (at_builtin; refine wpList_append_own _ rfl _ _ 90 rfl w4.heap.size 24 i0 _ 1 24 Tryz.underlying90 hi0 hy0 hy1 hy2 rfl (by decide) _ _ _ rfl (HO5.out.alloc _) ⟨w5.heap.size, 0, none⟩ 1 1 [.slice px5 xs'.length cx5] rfl rfl ?c1 ?c2 ?c3 ?c4 ?c5 ?_)
              case c1 => exact news_of _ _ _
              case c2 => intro u hu; simp at hu; subst hu; rfl
              case c3 => unfold maxLen; omega
              case c4 => omega
              case c5 => have := HB5.out.size; simp; omega
              intro v' w6 hown' hgrow _
              have hlt' := HO5.out.lt
              have HB6 := Lib.hid (HB5.out.trans (((Below.refl w4.heap.size w5).alloc HB5.out.size _).grown hgrow (by have := HB5.out.size; simp; omega) (fun j hj => (hlt' j hj).1)))
              have HO6 := Lib.hid hown'
              have HL2 := Lib.hid (show hs.length = css.length by rw [HL.out, HO5.out.1, Nat.mul_one])
              have HE6 := Lib.hid (show ElC w6 w4.heap.size (css ++ [xs']) (hs ++ [.slice px5 xs'.length cx5]) from ((HE5.out.snoc HL2.out HX5.out).alloc _).grown (HO5.out.alloc _) (by decide) hgrow)
              have HC6 := Lib.hid (show CamsRd s (css ++ [xs']) from fun i hi => by
                rw [List.length_append, List.length_singleton] at hi
                rw [gl_snoc]
                by_cases h : i < css.length
                · rw [if_pos h]; exact HC.out i h
                · obtain rfl : i = css.length := by omega
                  rw [if_neg h, if_pos rfl, HL.out, HR.out]; exact HT5.out)
              clear hown' hgrow hlt'
              go_wp2
              go_roundw
              case rel => exact ⟨j + 1, css ++ [xs'], hs ++ [.slice px5 xs'.length cx5], by omega, by go_num, Lib.hid (by rw [List.length_append, HL.out]; rfl), HO6, HE6, HC6, HB6⟩
              case measure => simp [intOf]; omega
            · unfold noneE at he
              subst he
              have HNB := Lib.hid (noBk (s := s) fun lo hi sl ch cs hp => by
                have h1 := hp.2.2.1
                rw [HRW.out, HN.out] at h1
                have h2 := hp.2.2.2.1 j (by have := HK.out; omega)
                rw [HR.out, hno] at h2
                cases h2)
              have HB5 := Lib.hid (HBR.out.trans (b5.mono HBR.out.size))
              clear b5 hno
              go_wp2
              exact ⟨rfl, .inr ⟨HNB.out, _, rfl⟩, HB5.out⟩
          · obtain rfl : j = K := by omega
            have hltI : decide ((j : Int) < (j : Int)) = false := by simp
            have HO' := Lib.hid (show wr.ownsRow w4.heap.size 24 1 u7 css.length hs by rw [HL.out]; exact HO.out)
            obtain ⟨pc, cc, hv, hrc⟩ := rdc_of_own HO'.out HE.out
            rw [HL.out] at hv
            subst hv
            have HRC := Lib.hid hrc
            have HQR := Lib.hid (show wr.cell? ⟨w2.heap.size, 0, none⟩ = some (.int .i64 lo) ∧ wr.cell? ⟨w2.heap.size, 1, none⟩ = some (.int .i64 hi) ∧ wr.cell? ⟨w2.heap.size, 2, none⟩ = some (.int .i64 sl) ∧ wr.cell? ⟨w2.heap.size, 3, none⟩ = some (.int .i64 ch) from
              ⟨(HB.out.cell (lt_of_cellq HQ4.out.1)).trans HQ4.out.1, (HB.out.cell (lt_of_cellq HQ4.out.2.1)).trans HQ4.out.2.1, (HB.out.cell (lt_of_cellq HQ4.out.2.2.1)).trans HQ4.out.2.2.1, (HB.out.cell (lt_of_cellq HQ4.out.2.2.2)).trans HQ4.out.2.2.2⟩)
            obtain ⟨q0, q1, q2, q3⟩ := HQR.out
            have HTB := Lib.hid (show toldF bookW (headP (rowsF s)) = some [lo, hi, sl, ch] by rw [HHP.out, HT.out, HXS.out])
            have HBK := Lib.hid (show BookOk 1000 lo hi sl ch css from ⟨(told_small HTB.out).1, by rw [HL.out]; exact hK, fun i hi' => by
              have h1 := told_small (HC.out i hi')
              refine ⟨h1.1, Nat.le_trans h1.2 ?_⟩
              rw [HRW.out]
              exact HPZ.out i (by rw [← HL.out]; exact hi')⟩)
            have h119 := c119 lo hi sl ch pc cc css wr HRC.out (Nat.le_refl 1000) HBK.out (HI.out.below HBR.out)
            rw [HL.out] at h119
            have HTX0 := Lib.hid (show ∀ T, textF lo hi sl ch css = T → T = s → Bk s lo hi sl ch css from fun T h1 h2 => bk_of_parsed ⟨by rw [HRW.out, HN.out]; have := HK.out; omega, HTB.out, by rw [HL.out, HRW.out, HN.out]; have := HK.out; omega, HC.out, h1.trans h2⟩)
            have HTX1 := Lib.hid (show ∀ T, textF lo hi sl ch css = T → T ≠ s → ∀ lo hi sl ch css, ¬ Bk s lo hi sl ch css from fun T h1 h2 => noBk fun lo' hi' sl' ch' css' hp => by
              have e := HTB.out.symm.trans hp.2.1
              simp at e
              obtain ⟨e1, e2, e3, e4⟩ := e
              subst e1; subst e2; subst e3; subst e4
              have hcs : css = css' := gl_same (by rw [HL.out, hp.2.2.1, HRW.out, HN.out]; have := HK.out; omega) fun i hi' => Option.some.inj ((HC.out i hi').symm.trans (hp.2.2.2.1 i (by rw [hp.2.2.1, HRW.out, HN.out]; rw [HL.out] at hi'; have := HK.out; omega)))
              subst hcs
              exact h2 (h1.symm.trans hp.2.2.2.2))
            unfold TextPost at h119
            obtain ⟨T, hT⟩ : ∃ T, textF lo hi sl ch css = T := ⟨_, rfl⟩
            rw [hT] at h119
            have HTT := Lib.hid hT
            clear hT
            by_cases hts : T = s
            · have hbe : (T.toList == s.toList) = true := by rw [hts]; exact beq_self_eq_true _
              have HBKS := Lib.hid (HTX0.out T HTT.out hts)
              clear hts
              go_wp2_with fail
              refine h119.mono ?_
              rintro e w7 ⟨rfl, b7⟩
              have HB7 := Lib.hid (HBR.out.trans (b7.mono HBR.out.size))
              have HO7 := Lib.hid (own_kept HO'.out b7)
              have HE7 := Lib.hid (HE.out.below b7)
              have q0 := (b7.cell (lt_of_cellq q0)).trans q0
              have q1 := (b7.cell (lt_of_cellq q1)).trans q1
              have q2 := (b7.cell (lt_of_cellq q2)).trans q2
              have q3 := (b7.cell (lt_of_cellq q3)).trans q3
              have hh7 : w7.heap[w.heap.size]? = some (.cells #[.int .i64 0, .int .i64 0, .int .i64 0, .int .i64 0] 23) := (b7.block _ (Nat.lt_of_lt_of_le (lt_of_cellq HZ2.out.1) (HB4.out.trans (HB.out.mono HB4.out.size)).size)).trans (((HB4.out.trans (HB.out.mono HB4.out.size)).block _ (lt_of_cellq HZ2.out.1)).trans HHZ2.out)
              clear b7 h119
              go_wp2_with fail
              refine (c148_t s _).mono ?_
              rintro e w' ⟨rfl, rfl⟩
              obtain ⟨x1, x2, x3, x4, s1, s2, s3, s4, ⟨c0, f0⟩, ⟨c1, f1⟩, ⟨c2, f2⟩, ⟨c3, f3⟩, hx4, hxk, hxz, hxb⟩ := set4 w7 w.heap.size 23 _ _ _ _ (.int .i64 lo) (.int .i64 hi) (.int .i64 sl) (.int .i64 ch) hh7
              have HX4 := Lib.hid hx4
              have HXB := Lib.hid (hxb w w.heap.size (Nat.le_refl _) HB7.out)
              have HXR := Lib.hid (show x4.ownsRow w.heap.size 24 1 (.slice pc css.length cc) css.length hs ∧ ElC x4 w.heap.size css hs by
                have hlt4 : w.heap.size < w4.heap.size := Nat.lt_of_lt_of_le (lt_of_cellq HZ2.out.1) HB4.out.size
                have ho := own_set (own_set (own_set (own_set HO7.out (p := ⟨w.heap.size, 0, none⟩) hlt4 (.int .i64 lo)) (p := ⟨w.heap.size, 1, none⟩) hlt4 (.int .i64 hi)) (p := ⟨w.heap.size, 2, none⟩) hlt4 (.int .i64 sl)) (p := ⟨w.heap.size, 3, none⟩) hlt4 (.int .i64 ch)
                have he := (((HE7.out.set (p := ⟨w.heap.size, 0, none⟩) hlt4 (.int .i64 lo)).set (p := ⟨w.heap.size, 1, none⟩) hlt4 (.int .i64 hi)).set (p := ⟨w.heap.size, 2, none⟩) hlt4 (.int .i64 sl)).set (p := ⟨w.heap.size, 3, none⟩) hlt4 (.int .i64 ch)
                rw [s1, s2, s3, s4] at ho he
                refine ⟨own_mono ?_ (Nat.le_of_lt hlt4), he.mono (Nat.le_of_lt hlt4)⟩
                have e := HL.out
                rw [← e] at ho
                exact ho)
              obtain ⟨k0, k1, k2, k3⟩ := cells4 hx4
              have HBL := Lib.hid (show css.length ≤ 500 ∧ ∀ i, i < css.length → (gl css i).length ≤ 500 from ⟨HBK.out.2.1, fun i hi' => (HBK.out.2.2 i hi').2⟩)
              have HL' := Lib.hid HL.out.symm
              clear hx4 hxb hxk hxz hh7
              go_wp2
              refine bodyPost_ret (v := .tuple #[.agg #[.int .i64 lo, .int .i64 hi, .int .i64 sl, .int .i64 ch], .slice pc j cc]) (by simp [results, Tryz.results121, go_sem, k0, k1, k2, k3]) rfl ⟨.inl ⟨lo, hi, sl, ch, css, pc, cc, hs, HBKS.out, by rw [HL.out], HXR.out.1, HXR.out.2, HBL.out.1, HBL.out.2⟩, HXB.out⟩
            · have hbe : (T.toList == s.toList) = false := by
                rw [beq_eq_false_iff_ne]
                intro h
                exact hts (ByteArray.ext (Array.ext' (by simpa [ByteArray.toList_eq] using h)))
              have HNB := Lib.hid (HTX1.out T HTT.out hts)
              clear hts
              go_wp2_with fail
              refine h119.mono ?_
              rintro e w7 ⟨rfl, b7⟩
              have HB7 := Lib.hid (HBR.out.trans (b7.mono HBR.out.size))
              clear b7 h119
              go_wp2_with fail
              refine (c148_f s _).mono ?_
              rintro e w' ⟨he, b2⟩
              unfold noneE at he
              subst he
              have HBZ7 := Lib.hid (HB7.out.trans (b2.mono HB7.out.size))
              clear b2
              go_wp2
              exact ⟨rfl, .inr ⟨HNB.out, _, rfl⟩, HBZ7.out⟩
      · have h4I : ((xs.length : Int) == 4) = false := by rw [beq_eq_false_iff_ne]; omega
        have HNB := Lib.hid (noBk (s := s) fun lo hi sl ch css hp => by
          have h := hp.2.1
          rw [HHP.out, HT.out] at h
          have := congrArg List.length (Option.some.inj h)
          exact h4 this)
        clear h4
        go_wp2_with fail
        refine (c148_f s _).mono ?_
        rintro e w' ⟨he, b2⟩
        unfold noneE at he
        subst he
        have HBZ7 := Lib.hid (HB2.out.trans (b2.mono HB2.out.size))
        clear b2
        go_wp2
        exact ⟨rfl, .inr ⟨HNB.out, _, rfl⟩, HBZ7.out⟩
    · unfold noneE at he
      subst he
      have HNB := Lib.hid (noBk (s := s) fun lo hi sl ch css hp => by
        have h := hp.2.1
        rw [HHP.out, hno] at h
        cases h)
      have HB2 := Lib.hid (HB1.out.trans (b2.mono HB1.out.size))
      clear b2 hno
      go_wp2
      exact ⟨rfl, .inr ⟨HNB.out, _, rfl⟩, HB2.out⟩
  · have h3I : decide ((n : Int) ≥ 3) = false := by simp; omega
    have h3J : decide (3 ≤ (n : Int)) = false := by simp; omega
    have HNB := Lib.hid (noBk (s := s) fun lo hi sl ch css hp => by
      have h := hp.1
      unfold rowsF at h
      rw [HPE.out, HN.out] at h
      exact h3 h)
    clear h3
    go_wp2_with fail
    refine (c148_f s _).mono ?_
    rintro e w' ⟨he, b2⟩
    unfold noneE at he
    subst he
    have HBZ7 := Lib.hid (HB1.out.trans (b2.mono HB1.out.size))
    clear b2
    go_wp2
    exact ⟨rfl, .inr ⟨HNB.out, _, rfl⟩, HBZ7.out⟩
end Go.Proofs.YtncfgkhbenmpoaaGreatDoor
end
