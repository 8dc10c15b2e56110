/-
  Plain laws of cams (no program in sight): ranges, changes that are still to come, the first cam in lexicographic order.
  Plain laws of feet and of two cams (no program in sight).
  Plain laws of motions (no program in sight).
  Plain laws: the least and the greatest of a list; what a foot covers (no program in sight).
  Plain laws: the references' search of cams (fewest changes from each height on) is the program's.
  Plain laws: between which bounds the heights of a step lie, in the program and in the references.
  Plain laws: cams that fit within spans; the search finds the first of them; a height belongs to a step just if some such cam has it there.
-/

section
namespace Go.Proofs.YtncfgkhbenmpoaaGreatDoor

/-- all integers from lo to hi, in order -/
def rng (lo hi : Int) : List Int := (List.range (hi - lo + 1).toNat).map fun (k : Nat) => lo + (k : Int)

theorem mem_rng {lo hi n : Int} : n ∈ rng lo hi ↔ lo ≤ n ∧ n ≤ hi := by
  unfold rng
  simp only [List.mem_map, List.mem_range]
  constructor
  · rintro ⟨k, hk, rfl⟩; omega
  · rintro ⟨h1, h2⟩; exact ⟨(n - lo).toNat, by omega, by omega⟩

theorem rng_nil {lo hi : Int} (h : hi < lo) : rng lo hi = [] := by
  unfold rng; rw [show (hi - lo + 1).toNat = 0 by omega]; rfl

theorem rng_cons {lo hi : Int} (h : lo ≤ hi) : rng lo hi = lo :: rng (lo + 1) hi := by
  unfold rng
  rw [show (hi - lo + 1).toNat = (hi - (lo + 1) + 1).toNat + 1 by omega, List.range_succ_eq_map]
  simp only [List.map_cons, List.map_map]
  congr 1
  · simp
  · apply List.map_congr_left; intro k _; simp only [Function.comp]; omega

def cost (a b : Int) : Int := if a = b then 0 else 1

theorem cost_range (a b : Int) : 0 ≤ cost a b ∧ cost a b ≤ 1 := by unfold cost; split <;> omega

/-- how many changes there are at least from a height on, over the spans of the steps that follow, up to the first height -/
def restF (sl : Int) : List (Int × Int) → Int → Int → Int
  | [], h, f => if h - f > sl ∨ f - h > sl then 1000 else cost h f
  | (l, u) :: ss, h, f => (rng (max l (h - sl)) (min u (h + sl))).foldl (fun acc n => min acc (restF sl ss n f + cost h n)) 1000

theorem foldl_min_le {α : Type} (g : α → Int) (xs : List α) : ∀ a : Int, xs.foldl (fun acc n => min acc (g n)) a ≤ a ∧ ∀ x ∈ xs, xs.foldl (fun acc n => min acc (g n)) a ≤ g x := by
  induction xs with
  | nil => intro a; simp
  | cons x xs ih =>
    intro a
    obtain ⟨h1, h2⟩ := ih (min a (g x))
    refine ⟨by simp only [List.foldl_cons]; omega, ?_⟩
    intro y hy
    simp only [List.foldl_cons]
    rcases List.mem_cons.1 hy with rfl | hy
    · omega
    · exact h2 y hy

theorem foldl_min_attained {α : Type} (g : α → Int) (xs : List α) : ∀ a : Int, xs.foldl (fun acc n => min acc (g n)) a = a ∨ ∃ x ∈ xs, xs.foldl (fun acc n => min acc (g n)) a = g x := by
  induction xs with
  | nil => intro a; exact .inl rfl
  | cons x xs ih =>
    intro a
    simp only [List.foldl_cons]
    rcases ih (min a (g x)) with h | ⟨y, hy, h⟩
    · rw [h]
      rcases Int.le_total a (g x) with h' | h'
      · exact .inl (by omega)
      · exact .inr ⟨x, by simp, by omega⟩
    · exact .inr ⟨y, by simp [hy], h⟩

theorem restF_range (sl : Int) (ss : List (Int × Int)) : ∀ h f, 0 ≤ restF sl ss h f ∧ restF sl ss h f ≤ 1000 := by
  induction ss with
  | nil => intro h f; simp only [restF]; have := cost_range h f; split <;> omega
  | cons s ss ih =>
    intro h f
    obtain ⟨l, u⟩ := s
    simp only [restF]
    refine ⟨?_, (foldl_min_le _ _ _).1⟩
    rcases foldl_min_attained (fun n => restF sl ss n f + cost h n) (rng (max l (h - sl)) (min u (h + sl))) 1000 with h' | ⟨x, _, h'⟩
    · omega
    · rw [h']; have := ih x f; have := cost_range h x; omega

/-- the first way on, in lexicographic order, with at most so many changes left -/
def walkF (sl f : Int) : List (Int × Int) → Int → Int → Option (List Int)
  | [], _, _ => some []
  | (l, u) :: ss, prev, left =>
    (rng (max l (prev - sl)) (min u (prev + sl))).findSome? fun n =>
      if restF sl ss n f + cost prev n > left then none else (walkF sl f ss n (left - cost prev n)).map (n :: ·)

/-- the first cam -/
def camF (sl ch : Int) : List (Int × Int) → Option (List Int)
  | [] => some []
  | (l, u) :: ss => (rng l u).findSome? fun n => if restF sl ss n n > ch then none else (walkF sl n ss n ch).map (n :: ·)

theorem walkF_some (sl f : Int) (ss : List (Int × Int)) : ∀ prev left, left < 1000 → restF sl ss prev f ≤ left → ∃ l, walkF sl f ss prev left = some l := by
  induction ss with
  | nil => intro prev left _ _; exact ⟨[], rfl⟩
  | cons s ss ih =>
    intro prev left hl h
    obtain ⟨l, u⟩ := s
    simp only [restF] at h
    rcases foldl_min_attained (fun n => restF sl ss n f + cost prev n) (rng (max l (prev - sl)) (min u (prev + sl))) 1000 with h' | ⟨x, hx, h'⟩
    · omega
    · rw [h'] at h
      have hc := cost_range prev x
      obtain ⟨t, ht⟩ := ih x (left - cost prev x) (by omega) (by omega)
      have hs : ((rng (max l (prev - sl)) (min u (prev + sl))).findSome? fun n =>
        if restF sl ss n f + cost prev n > left then none else (walkF sl f ss n (left - cost prev n)).map (n :: ·)).isSome := by
        rw [List.findSome?_isSome_iff]
        exact ⟨x, hx, by rw [if_neg (by omega), ht]; rfl⟩
      exact Option.isSome_iff_exists.1 hs

theorem camF_some_iff (sl ch l u : Int) (ss : List (Int × Int)) (hch : ch < 1000) : (camF sl ch ((l, u) :: ss)).isSome = true ↔ ∃ n, l ≤ n ∧ n ≤ u ∧ restF sl ss n n ≤ ch := by
  simp only [camF]
  rw [List.findSome?_isSome_iff]
  constructor
  · rintro ⟨n, hn, h⟩
    rw [mem_rng] at hn
    refine ⟨n, hn.1, hn.2, ?_⟩
    by_cases h' : restF sl ss n n > ch
    · rw [if_pos h'] at h; simp at h
    · omega
  · rintro ⟨n, h1, h2, h⟩
    refine ⟨n, mem_rng.2 ⟨h1, h2⟩, ?_⟩
    obtain ⟨t, ht⟩ := walkF_some sl n ss n ch hch h
    rw [if_neg (by omega), ht]; rfl

/-- each span of the second list is at least as wide -/
def Wide : List (Int × Int) → List (Int × Int) → Prop
  | [], [] => True
  | s :: ss, t :: tt => (t.1 ≤ s.1 ∧ s.2 ≤ t.2) ∧ Wide ss tt
  | _, _ => False

/-- wider spans leave no more changes -/
theorem restF_mono (sl : Int) : ∀ (ss tt : List (Int × Int)), Wide ss tt → ∀ h f, restF sl tt h f ≤ restF sl ss h f := by
  intro ss
  induction ss with
  | nil =>
    intro tt hw h f
    cases tt with
    | nil => simp [restF]
    | cons t tt => exact hw.elim
  | cons s ss ih =>
    intro tt hw h f
    cases tt with
    | nil => exact hw.elim
    | cons t tt =>
      obtain ⟨hd, hw⟩ := hw
      obtain ⟨l, u⟩ := s
      obtain ⟨l', u'⟩ := t
      simp only at hd
      simp only [restF]
      rcases foldl_min_attained (fun n => restF sl ss n f + cost h n) (rng (max l (h - sl)) (min u (h + sl))) 1000 with h' | ⟨x, hx, h'⟩
      · rw [h']; exact (foldl_min_le _ _ _).1
      · rw [h']
        rw [mem_rng] at hx
        refine Int.le_trans ((foldl_min_le (fun n => restF sl tt n f + cost h n) (rng (max l' (h - sl)) (min u' (h + sl))) 1000).2 x (mem_rng.2 ⟨by omega, by omega⟩)) ?_
        have := ih tt hw x f
        omega

/-- the spans of the steps for a want, but for an error -/
def nearF (lo hi : Int) (want : List Int) (err : Int) : List (Int × Int) := want.map fun n => (max lo (n - err), min hi (n + err))

theorem nearF_mono (lo hi : Int) (e e' : Int) (he : e ≤ e') : ∀ want : List Int, Wide (nearF lo hi want e) (nearF lo hi want e') := by
  intro want
  induction want with
  | nil => exact trivial
  | cons x xs ih => exact ⟨⟨by simp only; omega, by simp only; omega⟩, ih⟩

/-- whether there is a cam with this error -/
def okF (lo hi sl ch : Int) (want : List Int) (err : Int) : Bool := (camF sl ch (nearF lo hi want err)).isSome

theorem okF_mono {lo hi sl ch : Int} {want : List Int} {e e' : Int} (hch : ch < 1000) (he : e ≤ e') (h : okF lo hi sl ch want e = true) : okF lo hi sl ch want e' = true := by
  unfold okF at *
  cases want with
  | nil => simp [nearF, camF]
  | cons x xs =>
    simp only [nearF, List.map_cons] at h ⊢
    rw [camF_some_iff _ _ _ _ _ hch] at h ⊢
    obtain ⟨n, h1, h2, h3⟩ := h
    exact ⟨n, by omega, by omega, Int.le_trans (restF_mono sl _ _ (nearF_mono lo hi e e' he xs) n n) h3⟩

theorem rest_const {lo hi sl : Int} (hsl : 0 ≤ sl) (hlh : lo ≤ hi) : ∀ want : List Int, (∀ x ∈ want, 0 ≤ x ∧ x ≤ 30) → 0 ≤ lo → hi ≤ 30 → restF sl (nearF lo hi want 30) lo lo ≤ 0 := by
  intro want
  induction want with
  | nil => intro _ _ _; simp [nearF, restF, cost]; omega
  | cons x xs ih =>
    intro hx h0 h30
    have hx0 := hx x (by simp)
    simp only [nearF, List.map_cons, restF]
    refine Int.le_trans ((foldl_min_le (fun n => restF sl (nearF lo hi xs 30) n lo + cost lo n) _ 1000).2 lo (mem_rng.2 ⟨by omega, by omega⟩)) ?_
    have := ih (fun y hy => hx y (by simp [hy])) h0 h30
    simp [cost]; omega

/-- an error of the greatest height is always enough -/
theorem okF_30 {lo hi sl ch : Int} {want : List Int} (hlo : 0 ≤ lo) (hlh : lo ≤ hi) (hhi : hi ≤ 30) (hsl : 0 ≤ sl) (hc0 : 0 ≤ ch) (hch : ch < 1000) (hw : ∀ x ∈ want, 0 ≤ x ∧ x ≤ 30) : okF lo hi sl ch want 30 = true := by
  unfold okF
  cases want with
  | nil => simp [nearF, camF]
  | cons x xs =>
    have hx0 := hw x (by simp)
    simp only [nearF, List.map_cons]
    rw [camF_some_iff _ _ _ _ _ hch]
    refine ⟨lo, by omega, by omega, ?_⟩
    have := rest_const (sl := sl) hsl hlh xs (fun y hy => hw y (by simp [hy])) hlo hhi
    unfold nearF at this
    omega

/-- the least error with which there is a cam, from some error on, by so many trials -/
def leastF (ok : Int → Bool) : Nat → Int → Int
  | 0, e => e
  | k + 1, e => if ok e then e else leastF ok k (e + 1)

/-- the nearest cam, and its error -/
def nearestF (lo hi sl ch : Int) (want : List Int) : List Int × Int :=
  let e := leastF (okF lo hi sl ch want) 30 0
  ((camF sl ch (nearF lo hi want e)).getD [], e)

end Go.Proofs.YtncfgkhbenmpoaaGreatDoor
end

section
namespace Go.Proofs.YtncfgkhbenmpoaaGreatDoor

def gi (xs : List Int) (i : Nat) : Int := xs.getD i 0

/-- the number at a place around the list -/
def cg (xs : List Int) (z : Int) : Int := gi xs (z % (xs.length : Int)).toNat

theorem cg_lt (xs : List Int) (h : 0 < xs.length) (z : Int) : (z % (xs.length : Int)).toNat < xs.length := by
  have h1 := Int.emod_nonneg z (show (xs.length : Int) ≠ 0 by omega)
  have h2 := Int.emod_lt_of_pos z (show (0 : Int) < xs.length by omega)
  omega

theorem cg_nat (xs : List Int) (i : Nat) (h : i < xs.length) : cg xs (i : Int) = gi xs i := by
  unfold cg; rw [Int.emod_eq_of_lt (by omega) (by omega)]; rfl

theorem cg_add (xs : List Int) (z k : Int) : cg xs (z + k * xs.length) = cg xs z := by
  unfold cg; rw [Int.add_mul_emod_self_right]

theorem gi_mem (xs : List Int) (i : Nat) (h : i < xs.length) : gi xs i ∈ xs := by
  unfold gi; simp only [List.getD_eq_getElem?_getD, List.getElem?_eq_getElem h, Option.getD_some]; exact List.getElem_mem h

theorem cg_mem (xs : List Int) (h : 0 < xs.length) (z : Int) : cg xs z ∈ xs := gi_mem _ _ (cg_lt xs h z)

/-- the greatest number at places at most so far away -/
def mx (xs : List Int) (z : Int) : Nat → Int
  | 0 => cg xs z
  | k + 1 => max (mx xs z k) (max (cg xs (z + (k + 1 : Nat))) (cg xs (z - (k + 1 : Nat))))
def mn (xs : List Int) (z : Int) : Nat → Int
  | 0 => cg xs z
  | k + 1 => min (mn xs z k) (min (cg xs (z + (k + 1 : Nat))) (cg xs (z - (k + 1 : Nat))))

theorem mx_ge (xs : List Int) (z : Int) : ∀ (k : Nat) (j : Int), -(k : Int) ≤ j → j ≤ k → cg xs (z + j) ≤ mx xs z k := by
  intro k
  induction k with
  | zero => intro j h1 h2; obtain rfl : j = 0 := by omega
            simp [mx]
  | succ k ih =>
    intro j h1 h2
    simp only [mx]
    by_cases hp : j = (k + 1 : Nat)
    · subst hp; omega
    · by_cases hm : j = -((k + 1 : Nat) : Int)
      · subst hm
        rw [show z + -((k + 1 : Nat) : Int) = z - ((k + 1 : Nat) : Int) by omega]; omega
      · have := ih j (by omega) (by omega); omega

theorem mx_at (xs : List Int) (z : Int) : ∀ k : Nat, ∃ j : Int, -(k : Int) ≤ j ∧ j ≤ k ∧ mx xs z k = cg xs (z + j) := by
  intro k
  induction k with
  | zero => exact ⟨0, by omega, by omega, by simp [mx]⟩
  | succ k ih =>
    obtain ⟨j, h1, h2, h3⟩ := ih
    simp only [mx]
    rcases Int.le_total (mx xs z k) (max (cg xs (z + (k + 1 : Nat))) (cg xs (z - (k + 1 : Nat)))) with h | h
    · rcases Int.le_total (cg xs (z + (k + 1 : Nat))) (cg xs (z - (k + 1 : Nat))) with h' | h'
      · refine ⟨-((k + 1 : Nat) : Int), by omega, by omega, ?_⟩
        rw [show z + -((k + 1 : Nat) : Int) = z - ((k + 1 : Nat) : Int) by omega]; omega
      · exact ⟨((k + 1 : Nat) : Int), by omega, by omega, by omega⟩
    · exact ⟨j, by omega, by omega, by omega⟩

theorem mn_le (xs : List Int) (z : Int) : ∀ (k : Nat) (j : Int), -(k : Int) ≤ j → j ≤ k → mn xs z k ≤ cg xs (z + j) := by
  intro k
  induction k with
  | zero => intro j h1 h2; obtain rfl : j = 0 := by omega
            simp [mn]
  | succ k ih =>
    intro j h1 h2
    simp only [mn]
    by_cases hp : j = (k + 1 : Nat)
    · subst hp; omega
    · by_cases hm : j = -((k + 1 : Nat) : Int)
      · subst hm
        rw [show z + -((k + 1 : Nat) : Int) = z - ((k + 1 : Nat) : Int) by omega]; omega
      · have := ih j (by omega) (by omega); omega

theorem mn_at (xs : List Int) (z : Int) : ∀ k : Nat, ∃ j : Int, -(k : Int) ≤ j ∧ j ≤ k ∧ mn xs z k = cg xs (z + j) := by
  intro k
  induction k with
  | zero => exact ⟨0, by omega, by omega, by simp [mn]⟩
  | succ k ih =>
    obtain ⟨j, h1, h2, h3⟩ := ih
    simp only [mn]
    rcases Int.le_total (min (cg xs (z + (k + 1 : Nat))) (cg xs (z - (k + 1 : Nat)))) (mn xs z k) with h | h
    · rcases Int.le_total (cg xs (z + (k + 1 : Nat))) (cg xs (z - (k + 1 : Nat))) with h' | h'
      · exact ⟨((k + 1 : Nat) : Int), by omega, by omega, by omega⟩
      · refine ⟨-((k + 1 : Nat) : Int), by omega, by omega, ?_⟩
        rw [show z + -((k + 1 : Nat) : Int) = z - ((k + 1 : Nat) : Int) by omega]; omega
    · exact ⟨j, by omega, by omega, by omega⟩

def followF (xs : List Int) (foot : Nat) : List Int := (List.range xs.length).map fun (i : Nat) => mx xs i foot
def underF (xs : List Int) (foot : Nat) : List Int := (List.range xs.length).map fun (i : Nat) => mn xs i foot

@[simp] theorem followF_length (xs : List Int) (foot : Nat) : (followF xs foot).length = xs.length := by simp [followF]
@[simp] theorem underF_length (xs : List Int) (foot : Nat) : (underF xs foot).length = xs.length := by simp [underF]

theorem gi_followF (xs : List Int) (foot i : Nat) (h : i < xs.length) : gi (followF xs foot) i = mx xs i foot := by
  unfold gi followF; simp [h]
theorem gi_underF (xs : List Int) (foot i : Nat) (h : i < xs.length) : gi (underF xs foot) i = mn xs i foot := by
  unfold gi underF; simp [h]

theorem cg_emod (xs : List Int) (z : Int) : cg xs (z % xs.length) = cg xs z := by unfold cg; rw [Int.emod_emod_of_dvd _ (Int.dvd_refl _)]

theorem cg_emod_add (xs : List Int) (z j : Int) : cg xs (z % xs.length + j) = cg xs (z + j) := by
  unfold cg; rw [Int.emod_add_emod]

theorem cg_emod_sub (xs : List Int) (z j : Int) : cg xs (z % xs.length - j) = cg xs (z - j) := by
  have := cg_emod_add xs z (-j)
  rwa [show z % (xs.length : Int) + -j = z % (xs.length : Int) - j by omega, show z + -j = z - j by omega] at this

theorem mx_emod (xs : List Int) (z : Int) : ∀ k : Nat, mx xs (z % xs.length) k = mx xs z k := by
  intro k
  induction k with
  | zero => simp only [mx]; exact cg_emod xs z
  | succ k ih => simp only [mx, ih, cg_emod_add, cg_emod_sub]
theorem mn_emod (xs : List Int) (z : Int) : ∀ k : Nat, mn xs (z % xs.length) k = mn xs z k := by
  intro k
  induction k with
  | zero => simp only [mn]; exact cg_emod xs z
  | succ k ih => simp only [mn, ih, cg_emod_add, cg_emod_sub]

theorem cg_followF (xs : List Int) (foot : Nat) (h : 0 < xs.length) (z : Int) : cg (followF xs foot) z = mx xs z foot := by
  have h1 := cg_lt xs h z
  have h2 := Int.emod_nonneg z (show (xs.length : Int) ≠ 0 by omega)
  show gi (followF xs foot) (z % ((followF xs foot).length : Int)).toNat = _
  rw [followF_length, gi_followF _ _ _ h1, ← mx_emod xs z foot]
  congr 1; omega
theorem cg_underF (xs : List Int) (foot : Nat) (h : 0 < xs.length) (z : Int) : cg (underF xs foot) z = mn xs z foot := by
  have h1 := cg_lt xs h z
  have h2 := Int.emod_nonneg z (show (xs.length : Int) ≠ 0 by omega)
  show gi (underF xs foot) (z % ((underF xs foot).length : Int)).toNat = _
  rw [underF_length, gi_underF _ _ _ h1, ← mn_emod xs z foot]
  congr 1; omega

/-- one foot after another one does what a foot does that is as broad as both -/
theorem mx_mx (xs : List Int) (h : 0 < xs.length) (f g : Nat) (z : Int) : mx (followF xs f) z g = mx xs z (f + g) := by
  apply Int.le_antisymm
  · obtain ⟨j, h1, h2, h3⟩ := mx_at (followF xs f) z g
    rw [h3, cg_followF xs f h]
    obtain ⟨i, h4, h5, h6⟩ := mx_at xs (z + j) f
    rw [h6, Int.add_assoc]
    exact mx_ge xs z (f + g) (j + i) (by omega) (by omega)
  · obtain ⟨j, h1, h2, h3⟩ := mx_at xs z (f + g)
    rw [h3]
    -- part j into one of at most g and one of at most f
    obtain ⟨a, b, hab, ha1, ha2, hb1, hb2⟩ : ∃ a b : Int, j = a + b ∧ -(g : Int) ≤ a ∧ a ≤ g ∧ -(f : Int) ≤ b ∧ b ≤ f := by
      rcases Int.le_total j g with h' | h'
      · rcases Int.le_total (-(g : Int)) j with h'' | h''
        · exact ⟨j, 0, by omega, by omega, by omega, by omega, by omega⟩
        · exact ⟨-(g : Int), j + g, by omega, by omega, by omega, by omega, by omega⟩
      · exact ⟨g, j - g, by omega, by omega, by omega, by omega, by omega⟩
    subst hab
    have e1 := mx_ge xs (z + a) f b hb1 hb2
    have e2 := mx_ge (followF xs f) z g a ha1 ha2
    rw [cg_followF xs f h] at e2
    rw [show z + (a + b) = z + a + b by omega]
    omega

theorem followF_followF (xs : List Int) (h : 0 < xs.length) (f g : Nat) : followF (followF xs f) g = followF xs (f + g) := by
  unfold followF
  rw [List.length_map, List.length_range]
  apply List.map_congr_left
  intro i _
  exact mx_mx xs h f g i

/-- a list that is turned -/
def turnF (xs : List Int) (by_ : Int) : List Int := (List.range xs.length).map fun (i : Nat) => cg xs (i + by_)
@[simp] theorem turnF_length (xs : List Int) (b : Int) : (turnF xs b).length = xs.length := by simp [turnF]
theorem gi_turnF (xs : List Int) (b : Int) (i : Nat) (h : i < xs.length) : gi (turnF xs b) i = cg xs (i + b) := by
  unfold gi turnF; simp [h]
theorem cg_turnF (xs : List Int) (b : Int) (h : 0 < xs.length) (z : Int) : cg (turnF xs b) z = cg xs (z + b) := by
  have h1 := cg_lt xs h z
  have h2 := Int.emod_nonneg z (show (xs.length : Int) ≠ 0 by omega)
  show gi (turnF xs b) (z % ((turnF xs b).length : Int)).toNat = _
  rw [turnF_length, gi_turnF _ _ _ h1, ← cg_emod_add xs z b]
  congr 1; omega
theorem mx_turnF (xs : List Int) (b : Int) (h : 0 < xs.length) (z : Int) : ∀ k : Nat, mx (turnF xs b) z k = mx xs (z + b) k := by
  intro k
  induction k with
  | zero => simp only [mx, cg_turnF xs b h]
  | succ k ih =>
    simp only [mx, ih, cg_turnF xs b h]
    rw [show z + ((k + 1 : Nat) : Int) + b = z + b + ((k + 1 : Nat) : Int) by omega, show z - ((k + 1 : Nat) : Int) + b = z + b - ((k + 1 : Nat) : Int) by omega]
theorem mn_turnF (xs : List Int) (b : Int) (h : 0 < xs.length) (z : Int) : ∀ k : Nat, mn (turnF xs b) z k = mn xs (z + b) k := by
  intro k
  induction k with
  | zero => simp only [mn, cg_turnF xs b h]
  | succ k ih =>
    simp only [mn, ih, cg_turnF xs b h]
    rw [show z + ((k + 1 : Nat) : Int) + b = z + b + ((k + 1 : Nat) : Int) by omega, show z - ((k + 1 : Nat) : Int) + b = z + b - ((k + 1 : Nat) : Int) by omega]

theorem followF_turnF (xs : List Int) (h : 0 < xs.length) (f : Nat) (b : Int) : followF (turnF xs b) f = turnF (followF xs f) b := by
  unfold followF
  conv => rhs; unfold turnF
  simp only [turnF_length, List.length_map, List.length_range]
  apply List.map_congr_left
  intro i _
  rw [mx_turnF xs b h]
  exact (cg_followF xs f h _).symm

theorem mx_mono (xs ys : List Int) (z : Int) (hxy : ∀ z, cg xs z ≤ cg ys z) (k : Nat) : mx xs z k ≤ mx ys z k := by
  obtain ⟨j, h1, h2, h3⟩ := mx_at xs z k
  rw [h3]
  exact Int.le_trans (hxy _) (mx_ge ys z k j h1 h2)
theorem mx_le_mx (xs : List Int) (z : Int) (f g : Nat) (h : f ≤ g) : mx xs z f ≤ mx xs z g := by
  obtain ⟨j, h1, h2, h3⟩ := mx_at xs z f
  rw [h3]
  exact mx_ge xs z g j (by omega) (by omega)

/-! ### the cam for a want and a foot -/
def carveAt (want : List Int) (foot : Nat) (e : Int) : List Int := (underF want foot).map fun n => min 30 (n + e)
@[simp] theorem carveAt_length (want : List Int) (foot : Nat) (e : Int) : (carveAt want foot e).length = want.length := by simp [carveAt]
theorem gi_carveAt (want : List Int) (foot : Nat) (e : Int) (i : Nat) (h : i < want.length) : gi (carveAt want foot e) i = min 30 (mn want i foot + e) := by
  unfold gi carveAt underF; simp [h]
theorem cg_carveAt (want : List Int) (foot : Nat) (e : Int) (h : 0 < want.length) (z : Int) : cg (carveAt want foot e) z = min 30 (mn want z foot + e) := by
  have h1 := cg_lt want h z
  have h2 := Int.emod_nonneg z (show (want.length : Int) ≠ 0 by omega)
  show gi (carveAt want foot e) (z % ((carveAt want foot e).length : Int)).toNat = _
  rw [carveAt_length, gi_carveAt _ _ _ _ h1, ← mn_emod want z foot]
  rw [show (((z % (want.length : Int)).toNat : Nat) : Int) = z % (want.length : Int) by omega]

/-- no follower of this cam is below the want by more than the error -/
def carveOk (want : List Int) (foot : Nat) (e : Int) : Bool := (List.range want.length).all fun (i : Nat) => decide (gi want i - e ≤ gi (followF (carveAt want foot e) foot) i)

theorem carveOk_iff (want : List Int) (foot : Nat) (e : Int) (h : 0 < want.length) : carveOk want foot e = true ↔ ∀ z : Int, cg want z - e ≤ mx (carveAt want foot e) z foot := by
  unfold carveOk
  rw [List.all_eq_true]
  constructor
  · intro hh z
    have h1 := cg_lt want h z
    have h2 := Int.emod_nonneg z (show (want.length : Int) ≠ 0 by omega)
    have := hh (z % (want.length : Int)).toNat (List.mem_range.2 h1)
    rw [decide_eq_true_eq, gi_followF _ _ _ (by simpa using h1)] at this
    have e1 : mx (carveAt want foot e) ((z % (want.length : Int)).toNat : Int) foot = mx (carveAt want foot e) z foot := by
      have := mx_emod (carveAt want foot e) z foot
      rw [carveAt_length] at this
      rw [← this]; congr 1; omega
    rw [e1] at this
    exact this
  · intro hh i hi
    have hi' := List.mem_range.1 hi
    rw [decide_eq_true_eq, gi_followF _ _ _ (by simpa using hi')]
    have := hh i
    rwa [cg_nat want i hi'] at this

/-- of a cam whose follower has at most this error: it is nowhere higher; and this error does -/
theorem carve_best (want cam : List Int) (foot : Nat) (e : Int) (h : 0 < want.length) (hl : cam.length = want.length) (h30 : ∀ x ∈ cam, x ≤ 30)
    (herr : ∀ z : Int, mx cam z foot - cg want z ≤ e ∧ cg want z - mx cam z foot ≤ e) :
    (∀ z : Int, cg cam z ≤ cg (carveAt want foot e) z) ∧ carveOk want foot e = true := by
  have hc : ∀ z : Int, cg cam z ≤ cg (carveAt want foot e) z := by
    intro z
    rw [cg_carveAt want foot e h]
    obtain ⟨j, h1, h2, h3⟩ := mn_at want z foot
    have a1 := h30 _ (cg_mem cam (by omega) z)
    have a2 := mx_ge cam (z + j) foot (-j) (by omega) (by omega)
    rw [show z + j + -j = z by omega] at a2
    have a3 := (herr (z + j)).1
    omega
  refine ⟨hc, (carveOk_iff want foot e h).2 fun z => ?_⟩
  have := mx_mono cam (carveAt want foot e) z hc foot
  have := (herr z).2
  omega

/-- the follower of such a cam is never above the want by more than the error -/
theorem carve_above (want : List Int) (foot : Nat) (e : Int) (h : 0 < want.length) (z : Int) : mx (carveAt want foot e) z foot - cg want z ≤ e := by
  obtain ⟨j, h1, h2, h3⟩ := mx_at (carveAt want foot e) z foot
  rw [h3, cg_carveAt want foot e h]
  have := mn_le want (z + j) foot (-j) (by omega) (by omega)
  rw [show z + j + -j = z by omega] at this
  omega
end Go.Proofs.YtncfgkhbenmpoaaGreatDoor
end

section
namespace Go.Proofs.YtncfgkhbenmpoaaGreatDoor

/-- the speed at a time -/
def spd (u : Int) (o : List Int) (t : Int) : Int := u + cg o (t + 1) - cg o t
def plc (u : Int) (o : List Int) (t : Int) : Int := t * u + cg o t
def sgn (n : Int) : Int := if n < 0 then -1 else if 0 < n then 1 else 0

theorem plc_succ (u : Int) (o : List Int) (t : Int) : plc u o (t + 1) = plc u o t + spd u o t := by
  unfold plc spd; rw [Int.add_mul]; omega
theorem spd_turn (u : Int) (o : List Int) (t : Int) : spd u o (t + o.length) = spd u o t := by
  unfold spd
  have e1 := cg_add o t 1
  have e2 := cg_add o (t + 1) 1
  simp only [Int.one_mul] at e1 e2
  rw [show t + (o.length : Int) + 1 = t + 1 + o.length by omega, e1, e2]
theorem plc_turn (u : Int) (o : List Int) (t : Int) : plc u o (t + o.length) = plc u o t + o.length * u := by
  unfold plc
  have e1 := cg_add o t 1
  simp only [Int.one_mul] at e1
  rw [e1, Int.add_mul]; omega

/-- the first speed from a time on that is not 0, of so many -/
def nextS (u : Int) (o : List Int) : Nat → Int → Int
  | 0, _ => 0
  | k + 1, t => if spd u o t ≠ 0 then spd u o t else nextS u o k (t + 1)

def isSta (u : Int) (o : List Int) (t : Int) : Bool :=
  decide (spd u o (t - 1) ≠ 0) && (decide (nextS u o o.length t ≠ 0) && decide (sgn (nextS u o o.length t) ≠ sgn (spd u o (t - 1))))

theorem nextS_turn (u : Int) (o : List Int) : ∀ (k : Nat) (t : Int), nextS u o k (t + o.length) = nextS u o k t := by
  intro k
  induction k with
  | zero => intro t; rfl
  | succ k ih =>
    intro t
    simp only [nextS, spd_turn]
    rw [show t + (o.length : Int) + 1 = t + 1 + o.length by omega, ih]
theorem isSta_turn (u : Int) (o : List Int) (t : Int) : isSta u o (t + o.length) = isSta u o t := by
  unfold isSta
  rw [nextS_turn, show t + (o.length : Int) - 1 = t - 1 + o.length by omega, spd_turn]

/-- so many steps on -/
theorem plc_add (u : Int) (o : List Int) (t : Int) : ∀ k : Nat, (∀ j : Nat, j < k → spd u o (t + j) = 0) → plc u o (t + k) = plc u o t := by
  intro k
  induction k with
  | zero => intro _; simp
  | succ k ih =>
    intro h
    rw [show t + ((k + 1 : Nat) : Int) = t + k + 1 by omega, plc_succ, ih (fun j hj => h j (by omega)), h k (by omega)]; omega

/-- what the next speed is: at some time from t on, all before it being 0; or all are 0 -/
theorem nextS_spec (u : Int) (o : List Int) : ∀ (k : Nat) (t : Int),
    (nextS u o k t = 0 ∧ ∀ j : Nat, j < k → spd u o (t + j) = 0) ∨
    (∃ j : Nat, j < k ∧ spd u o (t + j) ≠ 0 ∧ nextS u o k t = spd u o (t + j) ∧ ∀ i : Nat, i < j → spd u o (t + i) = 0) := by
  intro k
  induction k with
  | zero => intro t; exact .inl ⟨rfl, fun j hj => by omega⟩
  | succ k ih =>
    intro t
    simp only [nextS]
    by_cases h0 : spd u o t ≠ 0
    · rw [if_pos h0]
      exact .inr ⟨0, by omega, by simpa using h0, by simp, fun i hi => by omega⟩
    · rw [if_neg h0]
      have h0' : spd u o t = 0 := by simpa using h0
      rcases ih (t + 1) with ⟨h1, h2⟩ | ⟨j, h1, h2, h3, h4⟩
      · refine .inl ⟨h1, fun j hj => ?_⟩
        rcases Nat.eq_zero_or_pos j with rfl | hp
        · simpa using h0'
        · have := h2 (j - 1) (by omega)
          rwa [show t + 1 + ((j - 1 : Nat) : Int) = t + j by omega] at this
      · refine .inr ⟨j + 1, by omega, ?_, ?_, fun i hi => ?_⟩
        · rwa [show t + ((j + 1 : Nat) : Int) = t + 1 + j by omega]
        · rw [h3, show t + ((j + 1 : Nat) : Int) = t + 1 + j by omega]
        · rcases Nat.eq_zero_or_pos i with rfl | hp
          · simpa using h0'
          · have := h4 (i - 1) (by omega)
            rwa [show t + 1 + ((i - 1 : Nat) : Int) = t + i by omega] at this

/-- some speed of a turn is not 0 -/
theorem nextS_ne (u : Int) (o : List Int) (hu : 1 ≤ u) (ho : 0 < o.length) (t : Int) : nextS u o o.length t ≠ 0 := by
  rcases nextS_spec u o o.length t with ⟨_, h2⟩ | ⟨j, _, h2, h3, _⟩
  · have h := plc_add u o t o.length h2
    rw [plc_turn] at h
    have : 1 * 1 ≤ (o.length : Int) * u := Int.mul_le_mul (by omega) hu (by omega) (by omega)
    omega
  · rw [h3]; exact h2
end Go.Proofs.YtncfgkhbenmpoaaGreatDoor
end

section
namespace Go.Proofs.YtncfgkhbenmpoaaGreatDoor

def minTo (xs : List Int) : Nat → Int
  | 0 => gi xs 0
  | k + 1 => min (minTo xs k) (gi xs k)
def maxTo (xs : List Int) : Nat → Int
  | 0 => gi xs 0
  | k + 1 => max (maxTo xs k) (gi xs k)

theorem minTo_le (xs : List Int) : ∀ k j, j < k → minTo xs k ≤ gi xs j := by
  intro k
  induction k with
  | zero => intro j h; omega
  | succ k ih =>
    intro j h
    simp only [minTo]
    rcases Nat.lt_or_ge j k with h' | h'
    · have := ih j h'; omega
    · obtain rfl : j = k := by omega
      omega
theorem minTo_at (xs : List Int) : ∀ k, 1 ≤ k → ∃ j, j < k ∧ minTo xs k = gi xs j := by
  intro k
  induction k with
  | zero => intro h; omega
  | succ k ih =>
    intro _
    simp only [minTo]
    rcases Nat.eq_zero_or_pos k with rfl | hp
    · exact ⟨0, by omega, by simp [minTo]⟩
    · obtain ⟨j, h1, h2⟩ := ih hp
      rcases Int.le_total (minTo xs k) (gi xs k) with h | h
      · exact ⟨j, by omega, by omega⟩
      · exact ⟨k, by omega, by omega⟩
theorem maxTo_ge (xs : List Int) : ∀ k j, j < k → gi xs j ≤ maxTo xs k := by
  intro k
  induction k with
  | zero => intro j h; omega
  | succ k ih =>
    intro j h
    simp only [maxTo]
    rcases Nat.lt_or_ge j k with h' | h'
    · have := ih j h'; omega
    · obtain rfl : j = k := by omega
      omega
theorem maxTo_at (xs : List Int) : ∀ k, 1 ≤ k → ∃ j, j < k ∧ maxTo xs k = gi xs j := by
  intro k
  induction k with
  | zero => intro h; omega
  | succ k ih =>
    intro _
    simp only [maxTo]
    rcases Nat.eq_zero_or_pos k with rfl | hp
    · exact ⟨0, by omega, by simp [maxTo]⟩
    · obtain ⟨j, h1, h2⟩ := ih hp
      rcases Int.le_total (maxTo xs k) (gi xs k) with h | h
      · exact ⟨k, by omega, by omega⟩
      · exact ⟨j, by omega, by omega⟩

/-- the first j of what a foot covers -/
def winTo (xs : List Int) (z : Int) (f : Nat) (j : Nat) : List Int := (List.range j).map fun (i : Nat) => cg xs (z + ((i : Int) - f))
theorem winTo_length (xs : List Int) (z : Int) (f j : Nat) : (winTo xs z f j).length = j := by simp [winTo]
theorem winTo_succ (xs : List Int) (z : Int) (f j : Nat) : winTo xs z f (j + 1) = winTo xs z f j ++ [cg xs (z + ((j : Int) - f))] := by
  unfold winTo; rw [List.range_succ, List.map_append]; rfl
theorem gi_winTo (xs : List Int) (z : Int) (f j i : Nat) (h : i < j) : gi (winTo xs z f j) i = cg xs (z + ((i : Int) - f)) := by
  unfold gi winTo; simp [h]

theorem minTo_win (xs : List Int) (z : Int) (f : Nat) : minTo (winTo xs z f (2 * f + 1)) (2 * f + 1) = mn xs z f := by
  apply Int.le_antisymm
  · obtain ⟨j, h1, h2, h3⟩ := mn_at xs z f
    rw [h3]
    have := minTo_le (winTo xs z f (2 * f + 1)) (2 * f + 1) (j + f).toNat (by omega)
    rw [gi_winTo _ _ _ _ _ (by omega)] at this
    rwa [show (((j + f).toNat : Nat) : Int) - f = j by omega] at this
  · obtain ⟨j, h1, h2⟩ := minTo_at (winTo xs z f (2 * f + 1)) (2 * f + 1) (by omega)
    rw [h2, gi_winTo _ _ _ _ _ h1]
    exact mn_le xs z f _ (by omega) (by omega)
theorem maxTo_win (xs : List Int) (z : Int) (f : Nat) : maxTo (winTo xs z f (2 * f + 1)) (2 * f + 1) = mx xs z f := by
  apply Int.le_antisymm
  · obtain ⟨j, h1, h2⟩ := maxTo_at (winTo xs z f (2 * f + 1)) (2 * f + 1) (by omega)
    rw [h2, gi_winTo _ _ _ _ _ h1]
    exact mx_ge xs z f _ (by omega) (by omega)
  · obtain ⟨j, h1, h2, h3⟩ := mx_at xs z f
    rw [h3]
    have := maxTo_ge (winTo xs z f (2 * f + 1)) (2 * f + 1) (j + f).toNat (by omega)
    rw [gi_winTo _ _ _ _ _ (by omega)] at this
    rwa [show (((j + f).toNat : Nat) : Int) - f = j by omega] at this

/-- how the program finds a place around a list -/
theorem around_ix (x n : Int) (hn : 0 < n) : -n < x.tmod n ∧ x.tmod n < n ∧ (x.tmod n + n) % n = x % n := by
  have h1 := Int.tmod_lt_of_pos x hn
  have h2 : -n < x.tmod n := by
    have := Int.tmod_lt_of_pos (-x) hn
    rw [Int.neg_tmod] at this
    omega
  refine ⟨h2, h1, ?_⟩
  rw [Int.add_emod_right]
  have e := Int.tmod_add_mul_tdiv x n
  have : x % n = (x.tmod n + n * x.tdiv n) % n := by rw [e]
  rw [this, Int.add_mul_emod_self_left]
end Go.Proofs.YtncfgkhbenmpoaaGreatDoor
end

section
namespace Go.Proofs.YtncfgkhbenmpoaaGreatDoor
set_option linter.unusedVariables false

theorem rng_find {p : Int → Bool} (k : Nat) : ∀ (a b h : Int), (b - a + 1).toNat = k → a ≤ h → h ≤ b → p h = true → (∀ x, a ≤ x → x < h → p x = false) → (rng a b).find? p = some h := by
  induction k with
  | zero => intro a b h hk h1 h2; omega
  | succ k ih =>
    intro a b h hk h1 h2 hp hn
    rw [rng_cons (by omega), List.find?_cons]
    by_cases e : h = a
    · subst e; rw [hp]
    · rw [hn a (by omega) (by omega)]
      exact ih (a + 1) b h (by omega) (by omega) h2 hp (fun x hx => hn x (by omega))

theorem rng_findSome {α : Type} {g : Int → Option α} (k : Nat) : ∀ (a b h : Int) (v : α), (b - a + 1).toNat = k → a ≤ h → h ≤ b → g h = some v → (∀ x, a ≤ x → x < h → g x = none) → (rng a b).findSome? g = some v := by
  induction k with
  | zero => intro a b h v hk h1 h2; omega
  | succ k ih =>
    intro a b h v hk h1 h2 hp hn
    rw [rng_cons (by omega), List.findSome?_cons]
    by_cases e : h = a
    · subst e; rw [hp]
    · rw [hn a (by omega) (by omega)]
      exact ih (a + 1) b h v (by omega) (by omega) h2 hp (fun x hx => hn x (by omega))

/-- the least number of a range with some property -/
theorem rng_least {p : Int → Bool} (k : Nat) : ∀ (a b : Int), (b - a + 1).toNat = k → (∀ x, a ≤ x → x ≤ b → p x = false) ∨ ∃ h, a ≤ h ∧ h ≤ b ∧ p h = true ∧ ∀ x, a ≤ x → x < h → p x = false := by
  induction k with
  | zero => intro a b hk; exact .inl fun x h1 h2 => by omega
  | succ k ih =>
    intro a b hk
    cases hp : p a with
    | true => exact .inr ⟨a, by omega, by omega, hp, fun x h1 h2 => by omega⟩
    | false =>
      rcases ih (a + 1) b (by omega) with h | ⟨h, h1, h2, h3, h4⟩
      · refine .inl fun x h1 h2 => ?_
        by_cases e : x = a
        · subst e; exact hp
        · exact h x (by omega) h2
      · refine .inr ⟨h, by omega, h2, h3, fun x h5 h6 => ?_⟩
        by_cases e : x = a
        · subst e; exact hp
        · exact h4 x (by omega) h6

theorem rng_findSome_none {α : Type} {g : Int → Option α} {a b : Int} (h : ∀ x, a ≤ x → x ≤ b → g x = none) : (rng a b).findSome? g = none := by
  rw [List.findSome?_eq_none_iff]
  intro x hx
  rw [mem_rng] at hx
  exact h x hx.1 hx.2

/-- whether two heights may be neighbors, and differ -/
def chgd (sl a b : Int) : Int := if a = b then 0 else if -sl ≤ a - b ∧ a - b ≤ sl then 1 else 1000
theorem chgd_range (sl a b : Int) : 0 ≤ chgd sl a b ∧ chgd sl a b ≤ 1000 := by unfold chgd; split <;> (try split) <;> omega
theorem chgd_near {sl a b : Int} (h1 : a - b ≤ sl) (h2 : b - a ≤ sl) : chgd sl a b = cost a b := by
  unfold chgd cost; split
  · rfl
  · rw [if_pos (by omega)]
theorem chgd_far {sl a b : Int} (h0 : 0 ≤ sl) (h : a - b > sl ∨ b - a > sl) : chgd sl a b = 1000 := by
  unfold chgd; rw [if_neg (by omega), if_neg (by omega)]

/-- whether a height is one of a step -/
def insB (lo hi : Int) (s : Int × Int) (h : Int) : Bool := decide (max s.1 lo ≤ h) && decide (h ≤ min s.2 hi)
theorem insB_iff {lo hi : Int} {s : Int × Int} {h : Int} : insB lo hi s h = true ↔ (s.1 ≤ h ∧ lo ≤ h) ∧ (h ≤ s.2 ∧ h ≤ hi) := by
  unfold insB; simp only [Bool.and_eq_true, decide_eq_true_eq]; omega

/-- the fewest changes from a step on, its own span first -/
def aftF (lo hi sl f : Int) : List (Int × Int) → Int → Int
  | [], _ => 1000
  | s :: ss, h => if insB lo hi s h = true then (match ss with | [] => chgd sl h f | _ :: _ => (rng 0 30).foldl (fun acc x => min acc (chgd sl h x + aftF lo hi sl f ss x)) 1000) else 1000

theorem aftF_range (lo hi sl f : Int) (ss : List (Int × Int)) : ∀ h, 0 ≤ aftF lo hi sl f ss h ∧ aftF lo hi sl f ss h ≤ 1000 := by
  induction ss with
  | nil => intro h; simp [aftF]
  | cons s ss ih =>
    intro h
    unfold aftF
    split
    · cases ss with
      | nil => exact chgd_range _ _ _
      | cons t r =>
        refine ⟨?_, (foldl_min_le _ _ _).1⟩
        rcases foldl_min_attained (fun x => chgd sl h x + aftF lo hi sl f (t :: r) x) (rng 0 30) 1000 with h' | ⟨x, _, h'⟩
        · simp only; omega
        · simp only; rw [h']; have := ih x; have := chgd_range sl h x; omega
    · omega

def clip (lo hi : Int) (ss : List (Int × Int)) : List (Int × Int) := ss.map fun s => (max s.1 lo, min s.2 hi)

theorem foldl_min_le_of {α β : Type} {g : α → Int} {g' : β → Int} {xs : List α} {ys : List β} {a : Int} (h : ∀ y ∈ ys, a ≤ g' y ∨ ∃ x ∈ xs, g x ≤ g' y) :
    xs.foldl (fun acc n => min acc (g n)) a ≤ ys.foldl (fun acc n => min acc (g' n)) a := by
  rcases foldl_min_attained g' ys a with e | ⟨y, hy, e⟩
  · rw [e]; exact (foldl_min_le _ _ _).1
  · rw [e]
    rcases h y hy with h | ⟨x, hx, h⟩
    · exact Int.le_trans (foldl_min_le _ _ _).1 h
    · exact Int.le_trans ((foldl_min_le g xs a).2 x hx) h

theorem aft_rest {lo hi sl : Int} (f : Int) (hsl : 0 ≤ sl) (hlo : 0 ≤ lo) (hhi : hi ≤ 30) (ss : List (Int × Int)) : ∀ s h, insB lo hi s h = true → aftF lo hi sl f (s :: ss) h = restF sl (clip lo hi ss) h f := by
  induction ss with
  | nil =>
    intro s h hs
    unfold aftF
    rw [if_pos hs]
    simp only [clip, List.map_nil, restF]
    by_cases e : h - f > sl ∨ f - h > sl
    · rw [if_pos e, chgd_far hsl e]
    · rw [if_neg e, chgd_near (by omega) (by omega)]
  | cons t r ih =>
    intro s h hs
    unfold aftF
    rw [if_pos hs]
    simp only [clip, List.map_cons, restF]
    apply Int.le_antisymm
    · apply foldl_min_le_of
      intro n hn
      rw [mem_rng] at hn
      have ht : insB lo hi t n = true := insB_iff.2 ⟨by omega, by omega⟩
      refine .inr ⟨n, mem_rng.2 ⟨by omega, by omega⟩, ?_⟩
      rw [ih t n ht, chgd_near (by omega) (by omega)]
      simp only [clip]; omega
    · apply foldl_min_le_of
      intro x hx
      have h0 := aftF_range lo hi sl f (t :: r) x
      have h1 := chgd_range sl h x
      by_cases ht : insB lo hi t x = true
      · by_cases e : h - x > sl ∨ x - h > sl
        · left; rw [chgd_far hsl e]; omega
        · right
          refine ⟨x, ?_, ?_⟩
          · rw [insB_iff] at ht; rw [mem_rng]; omega
          · rw [ih t x ht, chgd_near (by omega) (by omega)]
            simp only [clip]; omega
      · left
        have : aftF lo hi sl f (t :: r) x = 1000 := by unfold aftF; rw [if_neg ht]
        omega

/-- the references' way on: at each step the first height that leaves few enough changes -/
def pickF (lo hi sl f : Int) : List (Int × Int) → Int → Int → List Int
  | [], _, _ => []
  | s :: ss, last, left => match (rng 0 30).find? (fun h => decide (chgd sl last h + aftF lo hi sl f (s :: ss) h ≤ left)) with
    | some h => h :: pickF lo hi sl f ss h (left - chgd sl last h)
    | none => pickF lo hi sl f ss last left

theorem pick_step {lo hi sl f : Int} (hsl : 0 ≤ sl) (hlo : 0 ≤ lo) (hhi : hi ≤ 30) (s : Int × Int) (ss : List (Int × Int)) (last left n : Int) (hl : left < 1000) :
    chgd sl last n + aftF lo hi sl f (s :: ss) n ≤ left ↔ (max (max s.1 lo) (last - sl) ≤ n ∧ n ≤ min (min s.2 hi) (last + sl)) ∧ restF sl (clip lo hi ss) n f + cost last n ≤ left := by
  have h0 := aftF_range lo hi sl f (s :: ss) n
  have h1 := chgd_range sl last n
  by_cases ht : insB lo hi s n = true
  · have ht' := insB_iff.1 ht
    by_cases e : last - n > sl ∨ n - last > sl
    · rw [chgd_far hsl e]
      constructor
      · intro h; omega
      · rintro ⟨h, _⟩; omega
    · rw [aft_rest f hsl hlo hhi ss s n ht, chgd_near (by omega) (by omega)]
      constructor
      · intro h; exact ⟨by omega, by omega⟩
      · rintro ⟨_, h⟩; omega
  · have hz : aftF lo hi sl f (s :: ss) n = 1000 := by unfold aftF; rw [if_neg ht]
    constructor
    · intro h; omega
    · rintro ⟨h, _⟩; exact absurd (insB_iff.2 ⟨by omega, by omega⟩) ht

theorem walk_pick {lo hi sl f : Int} (hsl : 0 ≤ sl) (hlo : 0 ≤ lo) (hhi : hi ≤ 30) (ss : List (Int × Int)) : ∀ last left, left < 1000 → restF sl (clip lo hi ss) last f ≤ left →
    walkF sl f (clip lo hi ss) last left = some (pickF lo hi sl f ss last left) ∧ (pickF lo hi sl f ss last left).length = ss.length := by
  induction ss with
  | nil => intro last left _ _; exact ⟨rfl, rfl⟩
  | cons s ss ih =>
    intro last left hl h
    have hex : ∃ x, (max (max s.1 lo) (last - sl) ≤ x ∧ x ≤ min (min s.2 hi) (last + sl)) ∧ restF sl (clip lo hi ss) x f + cost last x ≤ left := by
      simp only [clip, List.map_cons, restF] at h
      rcases foldl_min_attained (fun n => restF sl (ss.map fun s => (max s.1 lo, min s.2 hi)) n f + cost last n) (rng (max (max s.1 lo) (last - sl)) (min (min s.2 hi) (last + sl))) 1000 with h' | ⟨x, hx, h'⟩
      · omega
      · rw [h'] at h
        rw [mem_rng] at hx
        exact ⟨x, hx, h⟩
    obtain ⟨x, hx, hxl⟩ := hex
    rcases rng_least (p := fun h => decide (chgd sl last h + aftF lo hi sl f (s :: ss) h ≤ left)) _ 0 30 rfl with hn | ⟨n, h1, h2, h3, h4⟩
    · have := hn x (by omega) (by omega)
      simp only [decide_eq_false_iff_not] at this
      exact absurd ((pick_step hsl hlo hhi s ss last left x hl).2 ⟨hx, hxl⟩) this
    · have e1 := rng_find _ 0 30 n rfl h1 h2 h3 h4
      have h3' := (pick_step hsl hlo hhi s ss last left n hl).1 (by simpa using h3)
      have hnear : chgd sl last n = cost last n := chgd_near (by omega) (by omega)
      have hc := cost_range last n
      obtain ⟨ih1, ih2⟩ := ih n (left - cost last n) (by omega) (by omega)
      have ep : pickF lo hi sl f (s :: ss) last left = n :: pickF lo hi sl f ss n (left - cost last n) := by
        simp only [pickF, e1, hnear]
      rw [ep]
      refine ⟨?_, by simp [ih2]⟩
      simp only [clip, List.map_cons, walkF]
      refine rng_findSome _ _ _ n _ rfl h3'.1.1 h3'.1.2 ?_ ?_
      · have e2 := h3'.2
        simp only [clip] at e2 ih1
        rw [if_neg (by omega), ih1]; rfl
      · intro y hy1 hy2
        have := h4 y (by omega) hy2
        simp only [decide_eq_false_iff_not] at this
        have h5 : ¬ (restF sl (clip lo hi ss) y f + cost last y ≤ left) := fun h => this ((pick_step hsl hlo hhi s ss last left y hl).2 ⟨⟨by omega, by omega⟩, h⟩)
        simp only [clip] at h5
        rw [if_pos (by omega)]

/-- the references' first cam with some first height -/
def firstF (lo hi sl ch f : Int) : List (Int × Int) → Option (List Int)
  | [] => none
  | s :: ss => if aftF lo hi sl f (s :: ss) f > ch then none else some (f :: pickF lo hi sl f ss f ch)

theorem firstF_cam {lo hi sl ch : Int} (hsl : 0 ≤ sl) (hlo : 0 ≤ lo) (hhi : hi ≤ 30) (hc : 0 ≤ ch) (hch : ch < 1000) (s : Int × Int) (ss : List (Int × Int)) :
    (rng lo hi).findSome? (fun f => firstF lo hi sl ch f (s :: ss)) = camF sl ch (clip lo hi (s :: ss)) := by
  have key : ∀ f, lo ≤ f → f ≤ hi → firstF lo hi sl ch f (s :: ss) = if max s.1 lo ≤ f ∧ f ≤ min s.2 hi then (if restF sl (clip lo hi ss) f f > ch then none else (walkF sl f (clip lo hi ss) f ch).map (f :: ·)) else none := by
    intro f h1 h2
    simp only [firstF]
    by_cases ht : insB lo hi s f = true
    · rw [if_pos (c := max s.1 lo ≤ f ∧ f ≤ min s.2 hi) (by rw [insB_iff] at ht; omega), aft_rest f hsl hlo hhi ss s f ht]
      split
      · rfl
      · rw [(walk_pick hsl hlo hhi ss f ch hch (by omega)).1]; rfl
    · rw [if_neg (c := max s.1 lo ≤ f ∧ f ≤ min s.2 hi) (fun h => ht (insB_iff.2 ⟨by omega, by omega⟩))]
      have : aftF lo hi sl f (s :: ss) f = 1000 := by unfold aftF; rw [if_neg ht]
      rw [this, if_pos (by omega)]
  simp only [clip, List.map_cons, camF]
  have kin : ∀ f, max s.1 lo ≤ f → f ≤ min s.2 hi → firstF lo hi sl ch f (s :: ss) = (if restF sl (clip lo hi ss) f f > ch then none else (walkF sl f (clip lo hi ss) f ch).map (f :: ·)) := fun f h1 h2 => by
    rw [key f (by omega) (by omega), if_pos ⟨h1, h2⟩]
  have kout : ∀ f, lo ≤ f → f ≤ hi → ¬ (max s.1 lo ≤ f ∧ f ≤ min s.2 hi) → firstF lo hi sl ch f (s :: ss) = none := fun f h1 h2 h => by
    rw [key f h1 h2, if_neg h]
  rcases rng_least (p := fun f => (firstF lo hi sl ch f (s :: ss)).isSome) _ (max s.1 lo) (min s.2 hi) rfl with hn | ⟨n, h1, h2, h3, h4⟩
  · rw [rng_findSome_none, rng_findSome_none]
    · intro x hx1 hx2
      have := hn x hx1 hx2
      rw [kin x hx1 hx2] at this
      simpa [clip] using this
    · intro x hx1 hx2
      by_cases e : max s.1 lo ≤ x ∧ x ≤ min s.2 hi
      · have := hn x e.1 e.2; simpa using this
      · exact kout x hx1 hx2 e
  · obtain ⟨v, hv⟩ := Option.isSome_iff_exists.1 h3
    rw [rng_findSome _ lo hi n v rfl (by omega) (by omega) hv]
    · rw [kin n h1 h2] at hv
      refine (rng_findSome _ _ _ n v rfl h1 h2 (by simpa [clip] using hv) ?_).symm
      intro x hx1 hx2
      have := h4 x hx1 hx2
      rw [kin x hx1 (by omega)] at this
      simpa [clip] using this
    · intro x hx1 hx2
      by_cases e : max s.1 lo ≤ x ∧ x ≤ min s.2 hi
      · have := h4 x e.1 hx2; simpa using this
      · exact kout x hx1 (by omega) e

/-- the references' spans around a want -/
def aroundF (want : List Int) (off : Int) : List (Int × Int) := want.map fun n => (n - off, n + off)
theorem clip_around (lo hi : Int) (want : List Int) (off : Int) : clip lo hi (aroundF want off) = nearF lo hi want off := by
  unfold clip aroundF nearF
  rw [List.map_map]
  apply List.map_congr_left
  intro n _
  simp only [Function.comp, Prod.mk.injEq]
  omega
end Go.Proofs.YtncfgkhbenmpoaaGreatDoor
end

section
namespace Go.Proofs.YtncfgkhbenmpoaaGreatDoor
set_option linter.unusedVariables false

def spn (ss : List (Int × Int)) (i : Nat) : Int × Int := ss.getD i (0, 0)
theorem spn_clip (lo hi : Int) (ss : List (Int × Int)) (i : Nat) (h : i < ss.length) : spn (clip lo hi ss) i = (max (spn ss i).1 lo, min (spn ss i).2 hi) := by
  unfold spn clip; simp [h]
theorem drop_cons (ss : List (Int × Int)) (i : Nat) (h : i < ss.length) : ss.drop i = spn ss i :: ss.drop (i + 1) := by
  rw [List.drop_eq_getElem_cons h]; unfold spn; simp [h]
theorem clip_drop (lo hi : Int) (ss : List (Int × Int)) (i : Nat) : clip lo hi (ss.drop i) = (clip lo hi ss).drop i := by unfold clip; rw [List.map_drop]

/-! ### the fewest changes up to each height -/
def frTo (sl : Int) (s : Int × Int) (now : Int → Int) (n : Int) : Nat → Int
  | 0 => 1000
  | k + 1 => if now k < 1000 ∧ max s.1 ((k : Int) - sl) ≤ n ∧ n ≤ min s.2 ((k : Int) + sl) then min (frTo sl s now n k) (now k + cost k n) else frTo sl s now n k
theorem frTo_le {sl : Int} {s : Int × Int} {now : Int → Int} {n : Int} : ∀ (k j : Nat), j < k → now j < 1000 → max s.1 ((j : Int) - sl) ≤ n → n ≤ min s.2 ((j : Int) + sl) → frTo sl s now n k ≤ now j + cost j n := by
  intro k
  induction k with
  | zero => intro j h; omega
  | succ k ih =>
    intro j hj h1 h2 h3
    simp only [frTo]
    rcases Nat.lt_or_ge j k with h | h
    · have := ih j h h1 h2 h3
      split <;> omega
    · obtain rfl : j = k := by omega
      rw [if_pos ⟨h1, h2, h3⟩]; omega
theorem frTo_at (sl : Int) (s : Int × Int) (now : Int → Int) (n : Int) : ∀ k, frTo sl s now n k = 1000 ∨ ∃ j : Nat, j < k ∧ now j < 1000 ∧ (max s.1 ((j : Int) - sl) ≤ n ∧ n ≤ min s.2 ((j : Int) + sl)) ∧ frTo sl s now n k = now j + cost j n := by
  intro k
  induction k with
  | zero => exact .inl rfl
  | succ k ih =>
    simp only [frTo]
    split
    · rename_i hc
      rcases Int.le_total (frTo sl s now n k) (now k + cost k n) with h | h
      · rw [show min (frTo sl s now n k) (now k + cost k n) = frTo sl s now n k by omega]
        rcases ih with h' | ⟨j, h1, h2⟩
        · exact .inl h'
        · exact .inr ⟨j, by omega, h2⟩
      · exact .inr ⟨k, by omega, hc.1, hc.2, by omega⟩
    · rcases ih with h' | ⟨j, h1, h2⟩
      · exact .inl h'
      · exact .inr ⟨j, by omega, h2⟩
theorem frTo_range {sl : Int} {s : Int × Int} {now : Int → Int} (h0 : ∀ j, 0 ≤ now j) (n : Int) : ∀ k, 0 ≤ frTo sl s now n k ∧ frTo sl s now n k ≤ 1000 := by
  intro k
  induction k with
  | zero => simp [frTo]
  | succ k ih =>
    simp only [frTo]
    split
    · have := h0 k; have := cost_range k n; omega
    · exact ih

def nowF (sl f : Int) (cs : List (Int × Int)) : Nat → Int → Int
  | 0, h => if h = f then 0 else 1000
  | i + 1, h => frTo sl (spn cs (i + 1)) (nowF sl f cs i) h 31
theorem nowF_range (sl f : Int) (cs : List (Int × Int)) : ∀ i h, 0 ≤ nowF sl f cs i h ∧ nowF sl f cs i h ≤ 1000 := by
  intro i
  induction i with
  | zero => intro h; simp only [nowF]; split <;> omega
  | succ i ih => intro h; exact frTo_range (fun j => (ih j).1) h 31
/-- where a height can be come to, it is one of the step -/
theorem nowF_in (sl f : Int) (cs : List (Int × Int)) (i : Nat) (h : Int) (hn : nowF sl f cs (i + 1) h < 1000) : (spn cs (i + 1)).1 ≤ h ∧ h ≤ (spn cs (i + 1)).2 := by
  simp only [nowF] at hn
  rcases frTo_at sl (spn cs (i + 1)) (nowF sl f cs i) h 31 with e | ⟨j, h1, h2, h3, h4⟩
  · omega
  · omega

/-- the references' -/
def befF (lo hi sl f : Int) (ss : List (Int × Int)) : Nat → Int → Int
  | 0, h => if insB lo hi (spn ss 0) h = true ∧ h = f then 0 else 1000
  | i + 1, h => if insB lo hi (spn ss (i + 1)) h = true then (rng 0 30).foldl (fun acc x => min acc (befF lo hi sl f ss i x + chgd sl x h)) 1000 else 1000
theorem befF_range (lo hi sl f : Int) (ss : List (Int × Int)) : ∀ i h, 0 ≤ befF lo hi sl f ss i h ∧ befF lo hi sl f ss i h ≤ 1000 := by
  intro i
  induction i with
  | zero => intro h; simp only [befF]; split <;> omega
  | succ i ih =>
    intro h
    simp only [befF]
    split
    · refine ⟨?_, (foldl_min_le _ _ _).1⟩
      rcases foldl_min_attained (fun x => befF lo hi sl f ss i x + chgd sl x h) (rng 0 30) 1000 with h' | ⟨x, _, h'⟩
      · omega
      · rw [h']; have := ih x; have := chgd_range sl x h; omega
    · omega
theorem befF_in {lo hi sl f : Int} {ss : List (Int × Int)} {i : Nat} {h : Int} (hb : befF lo hi sl f ss i h < 1000) : insB lo hi (spn ss i) h = true ∧ (i = 0 → h = f) := by
  cases i with
  | zero => simp only [befF] at hb; split at hb
            · rename_i hc; exact ⟨hc.1, fun _ => hc.2⟩
            · omega
  | succ i => simp only [befF] at hb; split at hb
              · rename_i hc; exact ⟨hc, fun h => by omega⟩
              · omega

theorem now_bef {lo hi sl f : Int} (hsl : 0 ≤ sl) (hlo : 0 ≤ lo) (hhi : hi ≤ 30) {ss : List (Int × Int)} (hf : insB lo hi (spn ss 0) f = true) : ∀ i, i < ss.length → ∀ h, nowF sl f (clip lo hi ss) i h = befF lo hi sl f ss i h := by
  intro i
  induction i with
  | zero =>
    intro _ h
    simp only [nowF, befF]
    by_cases e : h = f
    · subst e; rw [if_pos rfl, if_pos ⟨hf, rfl⟩]
    · rw [if_neg e, if_neg (fun hh => e hh.2)]
  | succ i ih =>
    intro hi' h
    have ih := ih (by omega)
    simp only [nowF, befF]
    rw [spn_clip lo hi ss (i + 1) hi']
    by_cases ht : insB lo hi (spn ss (i + 1)) h = true
    · rw [if_pos ht]
      have ht' := insB_iff.1 ht
      apply Int.le_antisymm
      · rcases foldl_min_attained (fun x => befF lo hi sl f ss i x + chgd sl x h) (rng 0 30) 1000 with h' | ⟨x, hx, h'⟩
        · rw [h']; exact (frTo_range (fun j => (nowF_range _ _ _ i j).1) h 31).2
        · rw [h', ← ih x]
          rw [mem_rng] at hx
          obtain ⟨j, rfl⟩ : ∃ j : Nat, x = j := ⟨x.toNat, by omega⟩
          have hr := frTo_range (sl := sl) (s := (max (spn ss (i + 1)).1 lo, min (spn ss (i + 1)).2 hi)) (fun j => (nowF_range sl f (clip lo hi ss) i j).1) h 31
          have hn := nowF_range sl f (clip lo hi ss) i j
          have hc := chgd_range sl j h
          by_cases e : (j : Int) - h > sl ∨ h - (j : Int) > sl
          · rw [chgd_far hsl e]; omega
          · by_cases e2 : nowF sl f (clip lo hi ss) i j < 1000
            · rw [chgd_near (by omega) (by omega)]
              exact frTo_le 31 j (by omega) e2 (by simp only; omega) (by simp only; omega)
            · omega
      · rcases frTo_at sl (max (spn ss (i + 1)).1 lo, min (spn ss (i + 1)).2 hi) (nowF sl f (clip lo hi ss) i) h 31 with h' | ⟨j, h1, h2, h3, h4⟩
        · rw [h']; exact (foldl_min_le _ _ _).1
        · rw [h4, ih j]
          refine Int.le_trans ((foldl_min_le (fun x => befF lo hi sl f ss i x + chgd sl x h) (rng 0 30) 1000).2 j (mem_rng.2 ⟨by omega, by omega⟩)) ?_
          simp only at h3 ⊢
          rw [chgd_near (by omega) (by omega)]; omega
    · rw [if_neg ht]
      rcases frTo_at sl (max (spn ss (i + 1)).1 lo, min (spn ss (i + 1)).2 hi) (nowF sl f (clip lo hi ss) i) h 31 with h' | ⟨j, h1, h2, h3, h4⟩
      · exact h'
      · exact absurd (insB_iff.2 (by simp only at h3; omega)) ht

theorem bef_out {lo hi sl f : Int} {ss : List (Int × Int)} (hf : insB lo hi (spn ss 0) f = false) : ∀ i h, befF lo hi sl f ss i h = 1000 := by
  intro i
  induction i with
  | zero =>
    intro h
    simp only [befF]
    by_cases e : h = f
    · subst e; rw [if_neg (by rw [hf]; simp)]
    · rw [if_neg (fun hh => e hh.2)]
  | succ i ih =>
    intro h
    simp only [befF]
    split
    · rcases foldl_min_attained (fun x => befF lo hi sl f ss i x + chgd sl x h) (rng 0 30) 1000 with h' | ⟨x, hx, h'⟩
      · exact h'
      · have h1 := (foldl_min_le (fun x => befF lo hi sl f ss i x + chgd sl x h) (rng 0 30) 1000).1
        have := ih x; have := chgd_range sl x h
        omega
    · rfl

/-! ### whether a height of a step belongs to a cam, with some first height -/
def goodF (sl ch : Int) (cs : List (Int × Int)) (f : Int) (i : Nat) (h : Int) : Bool := decide (nowF sl f cs i h < 1000) && decide (nowF sl f cs i h + restF sl (cs.drop (i + 1)) h f ≤ ch)
def aft0 (lo hi sl f : Int) (ss : List (Int × Int)) (i : Nat) (h : Int) : Int := if i = 0 ∧ h ≠ f then 1000 else aftF lo hi sl f (ss.drop i) h
def goodR (lo hi sl ch : Int) (ss : List (Int × Int)) (f : Int) (i : Nat) (h : Int) : Bool := decide (befF lo hi sl f ss i h + aft0 lo hi sl f ss i h ≤ ch)

theorem good_eq {lo hi sl ch f : Int} (hsl : 0 ≤ sl) (hlo : 0 ≤ lo) (hhi : hi ≤ 30) (hch : ch < 1000) {ss : List (Int × Int)} (hf : insB lo hi (spn ss 0) f = true) (i : Nat) (hi' : i < ss.length) (h : Int) :
    goodF sl ch (clip lo hi ss) f i h = goodR lo hi sl ch ss f i h := by
  unfold goodF goodR
  rw [now_bef hsl hlo hhi hf i hi' h]
  have h0 : 0 ≤ aft0 lo hi sl f ss i h := by unfold aft0; split
                                             · omega
                                             · exact (aftF_range _ _ _ _ _ _).1
  by_cases hb : befF lo hi sl f ss i h < 1000
  · obtain ⟨h1, h2⟩ := befF_in hb
    have e : aft0 lo hi sl f ss i h = restF sl ((clip lo hi ss).drop (i + 1)) h f := by
      unfold aft0
      rw [if_neg (fun hh => hh.2 (h2 hh.1)), drop_cons ss i hi', aft_rest f hsl hlo hhi _ _ _ h1, clip_drop]
    rw [e]; simp [hb]
  · rw [decide_eq_false hb, Bool.false_and]
    exact (decide_eq_false (by omega)).symm
theorem goodR_out {lo hi sl ch f : Int} (hch : ch < 1000) {ss : List (Int × Int)} (hf : insB lo hi (spn ss 0) f = false) (i : Nat) (h : Int) : goodR lo hi sl ch ss f i h = false := by
  unfold goodR
  rw [bef_out hf]
  have h0 : 0 ≤ aft0 lo hi sl f ss i h := by unfold aft0; split
                                             · omega
                                             · exact (aftF_range _ _ _ _ _ _).1
  exact decide_eq_false (by omega)

/-- from one step to the next one -/
theorem good_next {sl ch f : Int} (hch : ch < 1000) {cs : List (Int × Int)} (hcs : ∀ i, i < cs.length → 0 ≤ (spn cs i).1 ∧ (spn cs i).2 ≤ 30) {i : Nat} (hi : i + 1 < cs.length) {h : Int} (h0 : 0 ≤ h ∧ h ≤ 30) (hg : goodF sl ch cs f i h = true) :
    ∃ h', (0 ≤ h' ∧ h' ≤ 30) ∧ goodF sl ch cs f (i + 1) h' = true := by
  unfold goodF at hg
  simp only [Bool.and_eq_true, decide_eq_true_eq] at hg
  rw [drop_cons cs (i + 1) hi] at hg
  obtain ⟨h1, h2⟩ := hg
  have hn0 := nowF_range sl f cs i h
  have hsp := hcs (i + 1) hi
  obtain ⟨l, u, hs⟩ : ∃ l u, spn cs (i + 1) = (l, u) := ⟨_, _, rfl⟩
  rw [hs] at h2 hsp
  simp only [restF] at h2
  rcases foldl_min_attained (fun n => restF sl (cs.drop (i + 1 + 1)) n f + cost h n) (rng (max l (h - sl)) (min u (h + sl))) 1000 with h' | ⟨x, hx, h'⟩
  · omega
  · rw [h'] at h2
    rw [mem_rng] at hx
    obtain ⟨j, rfl⟩ : ∃ j : Nat, h = j := ⟨h.toNat, by omega⟩
    have hle : nowF sl f cs (i + 1) x ≤ nowF sl f cs i j + cost j x := by
      simp only [nowF]
      exact frTo_le 31 j (by omega) h1 (by rw [hs]; exact hx.1) (by rw [hs]; exact hx.2)
    have hr := restF_range sl (cs.drop (i + 1 + 1)) x f
    simp only at hsp
    refine ⟨x, by omega, ?_⟩
    unfold goodF
    simp only [Bool.and_eq_true, decide_eq_true_eq]
    omega

/-! ### bounds -/
def updR (a : Int × Int) (h : Int) : Int × Int := (min a.1 h, max a.2 h)
def updF (a : Int × Int) (h : Int) : Int × Int := if a.1 > a.2 then (h, h) else (min a.1 h, max a.2 h)
def bndH (upd : Int × Int → Int → Int × Int) (good : Int → Bool) (a : Int × Int) (hs : List Int) : Int × Int := hs.foldl (fun acc h => if good h = true then upd acc h else acc) a
def bnd (upd : Int × Int → Int → Int × Int) (good : Int → Int → Bool) (a : Int × Int) (fs : List Int) : Int × Int := fs.foldl (fun acc f => bndH upd (good f) acc (rng 0 30)) a

def Seen (ini : Int × Int) (S : Int → Prop) (a : Int × Int) : Prop := (a = ini ∧ ∀ x, ¬ S x) ∨ (a.1 ≤ a.2 ∧ S a.1 ∧ S a.2 ∧ ∀ x, S x → a.1 ≤ x ∧ x ≤ a.2)
structure Upd (ini : Int × Int) (upd : Int × Int → Int → Int × Int) : Prop where
  first : ∀ h, 0 ≤ h → h ≤ 30 → upd ini h = (h, h)
  next : ∀ a h, a.1 ≤ a.2 → upd a h = (min a.1 h, max a.2 h)
theorem updR_ok : Upd (31, -1) updR := ⟨fun h h1 h2 => by unfold updR; simp only [Prod.mk.injEq]; omega, fun a h _ => rfl⟩
theorem updF_ok : Upd (1, 0) updF := ⟨fun h _ _ => by simp [updF], fun a h ha => by unfold updF; rw [if_neg (by omega)]⟩
theorem Seen.congr {ini : Int × Int} {S T : Int → Prop} {a : Int × Int} (h : Seen ini S a) (e : ∀ x, S x ↔ T x) : Seen ini T a := by
  have : S = T := funext fun x => propext (e x)
  rw [← this]; exact h
theorem seen_step {ini : Int × Int} {upd : Int × Int → Int → Int × Int} (hu : Upd ini upd) {S : Int → Prop} {a : Int × Int} (ha : Seen ini S a) {h : Int} (h1 : 0 ≤ h) (h2 : h ≤ 30) : Seen ini (fun x => S x ∨ x = h) (upd a h) := by
  rcases ha with ⟨rfl, hn⟩ | ⟨hab, ha1, ha2, hall⟩
  · rw [hu.first h h1 h2]
    exact .inr ⟨Int.le_refl _, .inr rfl, .inr rfl, fun x hx => by rcases hx with hx | rfl; exact absurd hx (hn x); exact ⟨Int.le_refl _, Int.le_refl _⟩⟩
  · rw [hu.next a h hab]
    refine .inr ⟨by simp only; omega, ?_, ?_, ?_⟩
    · rcases Int.le_total a.1 h with e | e
      · left; simp only; rw [show min a.1 h = a.1 by omega]; exact ha1
      · right; simp only; omega
    · rcases Int.le_total a.2 h with e | e
      · right; simp only; omega
      · left; simp only; rw [show max a.2 h = a.2 by omega]; exact ha2
    · intro x hx
      rcases hx with hx | rfl
      · have := hall x hx; simp only; omega
      · simp only; omega
theorem seen_H {ini : Int × Int} {upd : Int × Int → Int → Int × Int} (hu : Upd ini upd) {good : Int → Bool} (hs : List Int) : ∀ (S : Int → Prop) (a : Int × Int), Seen ini S a → (∀ h ∈ hs, 0 ≤ h ∧ h ≤ 30) → Seen ini (fun x => S x ∨ (x ∈ hs ∧ good x = true)) (bndH upd good a hs) := by
  induction hs with
  | nil => intro S a h _; exact h.congr fun x => by simp
  | cons h hs ih =>
    intro S a ha hr
    have hr0 := hr h (by simp)
    simp only [bndH, List.foldl_cons]
    cases hg : good h with
    | true =>
      rw [if_pos rfl]
      refine (ih _ _ (seen_step hu ha hr0.1 hr0.2) (fun x hx => hr x (by simp [hx]))).congr fun x => ?_
      simp only [List.mem_cons]
      constructor
      · rintro ((h1 | rfl) | h1)
        · exact .inl h1
        · exact .inr ⟨.inl rfl, hg⟩
        · exact .inr ⟨.inr h1.1, h1.2⟩
      · rintro (h1 | ⟨rfl | h1, h2⟩)
        · exact .inl (.inl h1)
        · exact .inl (.inr rfl)
        · exact .inr ⟨h1, h2⟩
    | false =>
      rw [if_neg (by simp)]
      refine (ih _ _ ha (fun x hx => hr x (by simp [hx]))).congr fun x => ?_
      simp only [List.mem_cons]
      constructor
      · rintro (h1 | h1)
        · exact .inl h1
        · exact .inr ⟨.inr h1.1, h1.2⟩
      · rintro (h1 | ⟨rfl | h1, h2⟩)
        · exact .inl h1
        · rw [hg] at h2; cases h2
        · exact .inr ⟨h1, h2⟩
theorem seen_bnd {ini : Int × Int} {upd : Int × Int → Int → Int × Int} (hu : Upd ini upd) {good : Int → Int → Bool} (fs : List Int) : ∀ (S : Int → Prop) (a : Int × Int), Seen ini S a → Seen ini (fun x => S x ∨ ((0 ≤ x ∧ x ≤ 30) ∧ ∃ f ∈ fs, good f x = true)) (bnd upd good a fs) := by
  induction fs with
  | nil => intro S a h; exact h.congr fun x => by simp
  | cons f fs ih =>
    intro S a ha
    simp only [bnd, List.foldl_cons]
    refine (ih _ _ (seen_H hu (good := good f) (rng 0 30) S a ha (fun h hh => mem_rng.1 hh))).congr fun x => ?_
    simp only [List.mem_cons, mem_rng]
    constructor
    · rintro ((h | ⟨h1, h2⟩) | ⟨h1, g, h2, h3⟩)
      · exact .inl h
      · exact .inr ⟨h1, f, .inl rfl, h2⟩
      · exact .inr ⟨h1, g, .inr h2, h3⟩
    · rintro (h | ⟨h1, g, rfl | h2, h3⟩)
      · exact .inl (.inl h)
      · exact .inl (.inr ⟨h1, h3⟩)
      · exact .inr ⟨h1, g, h2, h3⟩
theorem seen_unique {ini ini' : Int × Int} {S : Int → Prop} {a b : Int × Int} (ha : Seen ini S a) (hb : Seen ini' S b) (hs : ∃ x, S x) : a = b := by
  obtain ⟨x, hx⟩ := hs
  rcases ha with ⟨_, h⟩ | ⟨h1, h2, h3, h4⟩
  · exact absurd hx (h x)
  rcases hb with ⟨_, h⟩ | ⟨k1, k2, k3, k4⟩
  · exact absurd hx (h x)
  have e1 := h4 _ k2
  have e2 := h4 _ k3
  have e3 := k4 _ h2
  have e4 := k4 _ h3
  exact Prod.ext (by omega) (by omega)

/-- the program's bounds of a step, and the references' -/
def boundF (sl ch : Int) (cs : List (Int × Int)) (i : Nat) : Int × Int := bnd updF (fun f h => goodF sl ch cs f i h) (1, 0) (rng (spn cs 0).1 (spn cs 0).2)
def boundR (lo hi sl ch : Int) (ss : List (Int × Int)) (i : Nat) : Int × Int := bnd updR (fun f h => goodR lo hi sl ch ss f i h) (31, -1) (rng lo hi)
/-- a height belongs to a cam at some step -/
def Is (sl ch : Int) (cs : List (Int × Int)) (i : Nat) (h : Int) : Prop := (0 ≤ h ∧ h ≤ 30) ∧ ∃ f, ((spn cs 0).1 ≤ f ∧ f ≤ (spn cs 0).2) ∧ goodF sl ch cs f i h = true
theorem seen_F (sl ch : Int) (cs : List (Int × Int)) (i : Nat) : Seen (1, 0) (Is sl ch cs i) (boundF sl ch cs i) := by
  refine (seen_bnd updF_ok (good := fun f h => goodF sl ch cs f i h) _ (fun _ => False) (1, 0) (.inl ⟨rfl, fun _ h => h⟩)).congr fun x => ?_
  unfold Is
  simp only [false_or, mem_rng]
theorem seen_R {lo hi sl ch : Int} (hsl : 0 ≤ sl) (hlo : 0 ≤ lo) (hhi : hi ≤ 30) (hch : ch < 1000) (ss : List (Int × Int)) (i : Nat) (hi' : i < ss.length) : Seen (31, -1) (Is sl ch (clip lo hi ss) i) (boundR lo hi sl ch ss i) := by
  refine (seen_bnd updR_ok (good := fun f h => goodR lo hi sl ch ss f i h) _ (fun _ => False) (31, -1) (.inl ⟨rfl, fun _ h => h⟩)).congr fun x => ?_
  unfold Is
  simp only [false_or, mem_rng]
  rw [spn_clip lo hi ss 0 (by omega)]
  constructor
  · rintro ⟨h, f, hf, hg⟩
    cases ht : insB lo hi (spn ss 0) f with
    | false => rw [goodR_out hch ht] at hg; cases hg
    | true => exact ⟨h, f, by have := insB_iff.1 ht; simp only; omega, by rw [good_eq hsl hlo hhi hch ht i hi']; exact hg⟩
  · rintro ⟨h, f, hf, hg⟩
    simp only at hf
    have ht : insB lo hi (spn ss 0) f = true := insB_iff.2 (by omega)
    exact ⟨h, f, by omega, by rw [← good_eq hsl hlo hhi hch ht i hi']; exact hg⟩
/-- if the step 0 has a height, so has each step -/
theorem is_all {sl ch : Int} (hch : ch < 1000) {cs : List (Int × Int)} (hcs : ∀ i, i < cs.length → 0 ≤ (spn cs i).1 ∧ (spn cs i).2 ≤ 30) (h0 : ∃ h, Is sl ch cs 0 h) : ∀ i, i < cs.length → ∃ h, Is sl ch cs i h := by
  obtain ⟨h, hh, f, hf, hg⟩ := h0
  intro i
  suffices hx : i < cs.length → ∃ h, (0 ≤ h ∧ h ≤ 30) ∧ goodF sl ch cs f i h = true by
    intro hi; obtain ⟨h, h1, h2⟩ := hx hi; exact ⟨h, h1, f, hf, h2⟩
  induction i with
  | zero => intro _; exact ⟨h, hh, hg⟩
  | succ i ih =>
    intro hi
    obtain ⟨h, h1, h2⟩ := ih (by omega)
    exact good_next hch hcs hi h1 h2
theorem clip_in {lo hi : Int} (hlo : 0 ≤ lo) (hhi : hi ≤ 30) (ss : List (Int × Int)) : ∀ i, i < (clip lo hi ss).length → 0 ≤ (spn (clip lo hi ss) i).1 ∧ (spn (clip lo hi ss) i).2 ≤ 30 := by
  intro i h
  rw [spn_clip lo hi ss i (by simpa [clip] using h)]
  simp only; omega
/-- both say the same -/
theorem bound_eq {lo hi sl ch : Int} (hsl : 0 ≤ sl) (hlo : 0 ≤ lo) (hhi : hi ≤ 30) (hch : ch < 1000) (ss : List (Int × Int)) (h0 : 0 < ss.length) :
    ((boundF sl ch (clip lo hi ss) 0).1 > (boundF sl ch (clip lo hi ss) 0).2 ↔ ¬ (boundR lo hi sl ch ss 0).2 ≥ 0) ∧
    ((boundR lo hi sl ch ss 0).2 ≥ 0 → ∀ i, i < ss.length → boundF sl ch (clip lo hi ss) i = boundR lo hi sl ch ss i) := by
  have hF := seen_F sl ch (clip lo hi ss) 0
  have hR := seen_R hsl hlo hhi hch ss 0 h0
  constructor
  · rcases hF with ⟨e, hn⟩ | ⟨h1, h2, h3, h4⟩
    · rw [e]
      rcases hR with ⟨e2, _⟩ | ⟨k1, k2, _⟩
      · rw [e2]; simp
      · exact absurd k2 (hn _)
    · rcases hR with ⟨e2, hn⟩ | ⟨k1, k2, k3, k4⟩
      · exact absurd h2 (hn _)
      · have := k3.1
        constructor
        · intro h; omega
        · intro h; omega
  · intro h i hi'
    have hex : ∃ h, Is sl ch (clip lo hi ss) 0 h := by
      rcases hR with ⟨e2, _⟩ | ⟨k1, k2, _⟩
      · rw [e2] at h; simp at h
      · exact ⟨_, k2⟩
    exact seen_unique (seen_F sl ch (clip lo hi ss) i) (seen_R hsl hlo hhi hch ss i hi') (is_all hch (clip_in hlo hhi ss) hex i (by simpa [clip] using hi'))
end Go.Proofs.YtncfgkhbenmpoaaGreatDoor
end

section
namespace Go.Proofs.YtncfgkhbenmpoaaGreatDoor
set_option linter.unusedVariables false

/-- how many of the first k steps are changes -/
def chP (xs : List Int) : Nat → Int
  | 0 => 0
  | k + 1 => chP xs k + cost (gi xs k) (gi xs ((k + 1) % xs.length))
theorem chP_le (xs : List Int) (k : Nat) : 0 ≤ chP xs k ∧ chP xs k ≤ k := by
  induction k with
  | zero => simp [chP]
  | succ k ih => simp only [chP]; have := cost_range (gi xs k) (gi xs ((k + 1) % xs.length)); omega

/-- a cam within spans, whose neighbors are near, with few enough changes -/
structure FitS (sl ch : Int) (cs : List (Int × Int)) (xs : List Int) : Prop where
  len : xs.length = cs.length
  ins : ∀ i, i < xs.length → (spn cs i).1 ≤ gi xs i ∧ gi xs i ≤ (spn cs i).2
  near : ∀ i, i < xs.length → gi xs i - gi xs ((i + 1) % xs.length) ≤ sl ∧ gi xs ((i + 1) % xs.length) - gi xs i ≤ sl
  few : chP xs xs.length ≤ ch

theorem fit_now {sl ch : Int} {cs : List (Int × Int)} {xs : List Int} (h : FitS sl ch cs xs) (h24 : xs.length < 900) (hr : ∀ i, i < xs.length → 0 ≤ gi xs i ∧ gi xs i ≤ 30) : ∀ i, i < xs.length → nowF sl (gi xs 0) cs i (gi xs i) ≤ chP xs i := by
  intro i
  induction i with
  | zero => intro _; simp [nowF, chP]
  | succ i ih =>
    intro hi
    have ih := ih (by omega)
    have hn := h.near i (by omega)
    have hs := h.ins (i + 1) hi
    have hc := chP_le xs i
    have hr0 := hr i (by omega)
    simp only [chP]
    rw [Nat.mod_eq_of_lt hi] at hn ⊢
    obtain ⟨j, hj⟩ : ∃ j : Nat, gi xs i = j := ⟨(gi xs i).toNat, by omega⟩
    have := frTo_le (sl := sl) (s := spn cs (i + 1)) (now := nowF sl (gi xs 0) cs i) (n := gi xs (i + 1)) 31 j (by omega) (by rw [← hj]; omega) (by rw [← hj]; omega) (by rw [← hj]; omega)
    simp only [nowF]
    rw [← hj] at this
    omega

theorem fit_rest {sl ch : Int} {cs : List (Int × Int)} {xs : List Int} (h : FitS sl ch cs xs) : ∀ k i, i + 1 + k = xs.length → restF sl (cs.drop (i + 1)) (gi xs i) (gi xs 0) ≤ chP xs xs.length - chP xs i := by
  intro k
  induction k with
  | zero =>
    intro i hi
    have hn := h.near i (by omega)
    have e : (i + 1) % xs.length = 0 := by rw [show i + 1 = xs.length by omega, Nat.mod_self]
    rw [e] at hn
    rw [List.drop_eq_nil_of_le (by have := h.len; omega)]
    simp only [restF]
    rw [if_neg (by omega), ← hi]
    simp only [chP]
    rw [show (i + 1) % xs.length = 0 from e]; omega
  | succ k ih =>
    intro i hi
    have ih := ih (i + 1) (by omega)
    have hn := h.near i (by omega)
    have hs := h.ins (i + 1) (by omega)
    rw [Nat.mod_eq_of_lt (show i + 1 < xs.length by omega)] at hn
    rw [drop_cons cs (i + 1) (by have := h.len; omega)]
    obtain ⟨l, u, e⟩ : ∃ l u, spn cs (i + 1) = (l, u) := ⟨_, _, rfl⟩
    rw [e] at hs ⊢
    simp only at hs
    simp only [restF]
    refine Int.le_trans ((foldl_min_le (fun n => restF sl (cs.drop (i + 1 + 1)) n (gi xs 0) + cost (gi xs i) n) (rng (max l (gi xs i - sl)) (min u (gi xs i + sl))) 1000).2 (gi xs (i + 1)) (mem_rng.2 ⟨by omega, by omega⟩)) ?_
    simp only [chP] at ih
    have e2 : (i + 1) % xs.length = i + 1 := Nat.mod_eq_of_lt (by omega)
    rw [e2] at ih
    omega

/-! ### ways -/
/-- heights of the steps that follow, up to the first one again -/
def Way (sl f : Int) : List (Int × Int) → Int → List Int → Prop
  | [], h, ns => ns = [] ∧ (h - f ≤ sl ∧ f - h ≤ sl)
  | s :: ss, h, ns => ∃ n r, ns = n :: r ∧ (s.1 ≤ n ∧ n ≤ s.2) ∧ (h - n ≤ sl ∧ n - h ≤ sl) ∧ Way sl f ss n r
def cyc (f : Int) : Int → List Int → Int
  | h, [] => cost h f
  | h, n :: r => cost h n + cyc f n r
theorem cyc_nonneg (f : Int) (ns : List Int) : ∀ h, 0 ≤ cyc f h ns := by
  induction ns with
  | nil => intro h; have := cost_range h f; simp only [cyc]; omega
  | cons n r ih => intro h; have := cost_range h n; have := ih n; simp only [cyc]; omega
theorem Way.length {sl f : Int} : ∀ {ss : List (Int × Int)} {h : Int} {ns : List Int}, Way sl f ss h ns → ns.length = ss.length := by
  intro ss
  induction ss with
  | nil => rintro h ns ⟨rfl, _⟩; rfl
  | cons s ss ih => rintro h ns ⟨n, r, rfl, _, _, hw⟩; simp [ih hw]

theorem rest_way {sl f : Int} : ∀ {ss : List (Int × Int)} {h : Int}, restF sl ss h f < 1000 → ∃ ns, Way sl f ss h ns ∧ cyc f h ns = restF sl ss h f := by
  intro ss
  induction ss with
  | nil =>
    intro h hr
    simp only [restF] at hr ⊢
    split at hr
    · omega
    · rename_i hc; exact ⟨[], ⟨rfl, by omega⟩, by rw [if_neg hc]; rfl⟩
  | cons s ss ih =>
    intro h hr
    obtain ⟨l, u⟩ := s
    simp only [restF] at hr ⊢
    rcases foldl_min_attained (fun n => restF sl ss n f + cost h n) (rng (max l (h - sl)) (min u (h + sl))) 1000 with h' | ⟨x, hx, h'⟩
    · omega
    · rw [h'] at hr ⊢
      rw [mem_rng] at hx
      have hc := cost_range h x
      obtain ⟨ns, hw, hcy⟩ := ih (h := x) (by omega)
      exact ⟨x :: ns, ⟨x, ns, rfl, by simp only; omega, by omega, hw⟩, by simp only [cyc]; omega⟩
theorem way_rest {sl f : Int} : ∀ {ss : List (Int × Int)} {h : Int} {ns : List Int}, Way sl f ss h ns → restF sl ss h f ≤ cyc f h ns := by
  intro ss
  induction ss with
  | nil => rintro h ns ⟨rfl, hn⟩; simp only [restF, cyc]; rw [if_neg (by omega)]; omega
  | cons s ss ih =>
    rintro h ns ⟨n, r, rfl, hs, hn, hw⟩
    obtain ⟨l, u⟩ := s
    simp only at hs
    simp only [restF, cyc]
    have := ih hw
    refine Int.le_trans ((foldl_min_le (fun n => restF sl ss n f + cost h n) (rng (max l (h - sl)) (min u (h + sl))) 1000).2 n (mem_rng.2 ⟨by omega, by omega⟩)) (by omega)

/-- not after, in lexicographic order (of lists as long) -/
def lexLe : List Int → List Int → Prop
  | a :: as, b :: bs => a < b ∨ a = b ∧ lexLe as bs
  | _, _ => True
theorem lexLe_refl : ∀ xs : List Int, lexLe xs xs
  | [] => trivial
  | x :: xs => .inr ⟨rfl, lexLe_refl xs⟩

theorem findSome_rng {α : Type} {g : Int → Option α} {v : α} (k : Nat) : ∀ (a b : Int), (b - a + 1).toNat = k → (rng a b).findSome? g = some v → ∃ h, a ≤ h ∧ h ≤ b ∧ g h = some v ∧ ∀ x, a ≤ x → x < h → g x = none := by
  induction k with
  | zero => intro a b hk h; rw [rng_nil (by omega)] at h; simp at h
  | succ k ih =>
    intro a b hk h
    rw [rng_cons (by omega), List.findSome?_cons] at h
    cases hg : g a with
    | some u => rw [hg] at h; exact ⟨a, by omega, by omega, by rw [hg]; exact h, fun x h1 h2 => by omega⟩
    | none =>
      rw [hg] at h
      obtain ⟨n, h1, h2, h3, h4⟩ := ih (a + 1) b (by omega) h
      refine ⟨n, by omega, h2, h3, fun x h5 h6 => ?_⟩
      by_cases e : x = a
      · subst e; exact hg
      · exact h4 x (by omega) h6

/-- what the search goes on with is a way, and no other one comes before it -/
theorem walk_way {sl f : Int} : ∀ {ss : List (Int × Int)} {h left : Int} {ns : List Int}, left < 1000 → restF sl ss h f ≤ left → walkF sl f ss h left = some ns →
    (Way sl f ss h ns ∧ cyc f h ns ≤ left) ∧ ∀ ms, Way sl f ss h ms → cyc f h ms ≤ left → lexLe ns ms := by
  intro ss
  induction ss with
  | nil =>
    intro h left ns hl hr hw
    simp only [walkF, Option.some.injEq] at hw
    subst hw
    simp only [restF] at hr
    split at hr
    · omega
    · rename_i hc
      exact ⟨⟨⟨rfl, by omega⟩, by simp only [cyc]; omega⟩, fun ms _ _ => by cases ms <;> trivial⟩
  | cons s ss ih =>
    intro h left ns hl hr hw
    obtain ⟨l, u⟩ := s
    simp only [walkF] at hw
    obtain ⟨n, h1, h2, h3, h4⟩ := findSome_rng _ _ _ rfl hw
    by_cases hgt : restF sl ss n f + cost h n > left
    · rw [if_pos hgt] at h3; cases h3
    · rw [if_neg hgt] at h3
      have hc := cost_range h n
      cases hwn : walkF sl f ss n (left - cost h n) with
      | none => rw [hwn] at h3; cases h3
      | some r =>
        rw [hwn] at h3
        simp only [Option.map_some, Option.some.injEq] at h3
        subst h3
        obtain ⟨⟨hw1, hw2⟩, hfirst⟩ := ih (by omega) (by omega) hwn
        refine ⟨⟨⟨n, r, rfl, by simp only; omega, by omega, hw1⟩, by simp only [cyc]; omega⟩, ?_⟩
        rintro ms ⟨m, q, rfl, hm1, hm2, hm3⟩ hcm
        simp only at hm1
        simp only [cyc] at hcm
        have hcm' := cost_range h m
        have hrm := way_rest hm3
        rcases Int.lt_or_le m n with hlt | hge
        · have := h4 m (by omega) hlt
          rw [if_neg (by omega)] at this
          obtain ⟨t, ht⟩ := walkF_some sl f ss m (left - cost h m) (by omega) (by omega)
          rw [ht] at this; cases this
        · rcases Int.lt_or_le n m with hlt | hle
          · exact .inl hlt
          · obtain rfl : m = n := by omega
            exact .inr ⟨rfl, hfirst q hm3 (by omega)⟩

/-- a way, by its steps -/
theorem way_at {sl f : Int} : ∀ {ss : List (Int × Int)} {h : Int} {ns : List Int}, Way sl f ss h ns ↔ ns.length = ss.length ∧ (∀ i, i < ns.length → (spn ss i).1 ≤ gi ns i ∧ gi ns i ≤ (spn ss i).2) ∧
    (∀ i, i < ns.length → gi (h :: ns) i - gi ns i ≤ sl ∧ gi ns i - gi (h :: ns) i ≤ sl) ∧ (gi (h :: ns) ns.length - f ≤ sl ∧ f - gi (h :: ns) ns.length ≤ sl) := by
  intro ss
  induction ss with
  | nil =>
    intro h ns
    constructor
    · rintro ⟨rfl, hn⟩; exact ⟨rfl, fun i hi => by simp at hi, fun i hi => by simp at hi, by simpa [gi] using hn⟩
    · rintro ⟨hl, _, _, hn⟩
      obtain rfl : ns = [] := List.length_eq_zero_iff.1 hl
      exact ⟨rfl, by simpa [gi] using hn⟩
  | cons s ss ih =>
    intro h ns
    constructor
    · rintro ⟨n, r, rfl, hs, hn, hw⟩
      obtain ⟨h1, h2, h3, h4⟩ := ih.1 hw
      refine ⟨by simp [h1], ?_, ?_, ?_⟩
      · intro i hi
        cases i with
        | zero => simpa [spn, gi] using hs
        | succ i => have := h2 i (by simpa using hi); simpa [spn, gi] using this
      · intro i hi
        cases i with
        | zero => simpa [gi] using hn
        | succ i => have := h3 i (by simpa using hi); simpa [gi] using this
      · simpa [gi] using h4
    · rintro ⟨hl, h2, h3, h4⟩
      cases ns with
      | nil => simp at hl
      | cons n r =>
        refine ⟨n, r, rfl, by have := h2 0 (by simp); simpa [spn, gi] using this, by have := h3 0 (by simp); simpa [gi] using this, ih.2 ⟨by simpa using hl, ?_, ?_, ?_⟩⟩
        · intro i hi; have := h2 (i + 1) (by simpa using hi); simpa [spn, gi] using this
        · intro i hi; have := h3 (i + 1) (by simpa using hi); simpa [gi] using this
        · simpa [gi] using h4
theorem cyc_at (f : Int) (xs : List Int) (hf : f = gi xs 0) : ∀ k i, i + 1 + k = xs.length → cyc f (gi xs i) (xs.drop (i + 1)) = chP xs xs.length - chP xs i := by
  intro k
  induction k with
  | zero =>
    intro i hi
    rw [List.drop_eq_nil_of_le (by omega)]
    have e : (i + 1) % xs.length = 0 := by rw [show i + 1 = xs.length by omega, Nat.mod_self]
    simp only [cyc]
    rw [← hi]
    simp only [chP]
    rw [show (i + 1) % xs.length = 0 from e, hf]; omega
  | succ k ih =>
    intro i hi
    rw [List.drop_eq_getElem_cons (show i + 1 < xs.length by omega)]
    have e : xs[i + 1]'(by omega) = gi xs (i + 1) := by unfold gi; simp [show i + 1 < xs.length by omega]
    have ih := ih (i + 1) (by omega)
    simp only [cyc]
    rw [e, ih]
    simp only [chP]
    rw [Nat.mod_eq_of_lt (show i + 1 < xs.length by omega)]; omega
/-- a cam that fits, as a way -/
theorem fit_way {sl ch : Int} {s : Int × Int} {ss : List (Int × Int)} {f : Int} {ns : List Int} : FitS sl ch (s :: ss) (f :: ns) ↔ (s.1 ≤ f ∧ f ≤ s.2) ∧ Way sl f ss f ns ∧ cyc f f ns ≤ ch := by
  have hc := cyc_at f (f :: ns) rfl ns.length 0 (by simp; omega)
  simp only [List.drop_succ_cons, List.drop_zero, show gi (f :: ns) 0 = f from rfl, chP] at hc
  have hm : ∀ i, i < ns.length → (i + 1) % (f :: ns).length = i + 1 := fun i hi => Nat.mod_eq_of_lt (by simp; omega)
  have hz : (ns.length + 1) % (f :: ns).length = 0 := by simp
  constructor
  · rintro ⟨h1, h2, h3, h4⟩
    refine ⟨by have := h2 0 (by simp); simpa [spn, gi] using this, way_at.2 ⟨by simpa using h1, ?_, ?_, ?_⟩, by rw [hc]; simpa using h4⟩
    · intro i hi; have := h2 (i + 1) (by simpa using hi); simpa [spn, gi] using this
    · intro i hi
      have := h3 i (by simp; omega)
      rw [hm i hi] at this
      simpa [gi] using this
    · have := h3 ns.length (by simp)
      rw [hz] at this
      simpa [gi] using this
  · rintro ⟨h1, hw, h2⟩
    obtain ⟨a1, a2, a3, a4⟩ := way_at.1 hw
    refine ⟨by simp [a1], ?_, ?_, by rw [hc] at h2; simpa using h2⟩
    · intro i hi
      cases i with
      | zero => simpa [spn, gi] using h1
      | succ i => have := a2 i (by simpa using hi); simpa [spn, gi] using this
    · intro i hi
      simp only [List.length_cons] at hi
      rcases Nat.lt_or_ge i ns.length with h | h
      · have := a3 i h
        rw [hm i h]
        simpa [gi] using this
      · obtain rfl : i = ns.length := by omega
        rw [hz]
        simpa [gi] using a4

/-- the search finds the first cam that fits -/
theorem cam_fits {sl ch : Int} (hch : ch < 1000) {s : Int × Int} {ss : List (Int × Int)} {xs : List Int} (h : camF sl ch (s :: ss) = some xs) :
    FitS sl ch (s :: ss) xs ∧ ∀ ys, FitS sl ch (s :: ss) ys → lexLe xs ys := by
  obtain ⟨l, u⟩ := s
  simp only [camF] at h
  obtain ⟨n, h1, h2, h3, h4⟩ := findSome_rng _ _ _ rfl h
  by_cases hgt : restF sl ss n n > ch
  · rw [if_pos hgt] at h3; cases h3
  · rw [if_neg hgt] at h3
    cases hwn : walkF sl n ss n ch with
    | none => rw [hwn] at h3; cases h3
    | some r =>
      rw [hwn] at h3
      simp only [Option.map_some, Option.some.injEq] at h3
      subst h3
      obtain ⟨⟨hw1, hw2⟩, hfirst⟩ := walk_way hch (by omega) hwn
      refine ⟨fit_way.2 ⟨⟨h1, h2⟩, hw1, hw2⟩, ?_⟩
      intro ys hy
      cases ys with
      | nil => have := hy.len; simp at this
      | cons m q =>
        obtain ⟨k1, k2, k3⟩ := fit_way.1 hy
        have hrm := way_rest k2
        rcases Int.lt_or_le m n with hlt | hge
        · have := h4 m k1.1 hlt
          rw [if_neg (by omega)] at this
          obtain ⟨t, ht⟩ := walkF_some sl m ss m ch hch (by omega)
          rw [ht] at this; cases this
        · rcases Int.lt_or_le n m with hlt | hle
          · exact .inl hlt
          · obtain rfl : m = n := by omega
            exact .inr ⟨rfl, hfirst q k2 k3⟩
theorem cam_some {sl ch : Int} (hch : ch < 1000) {s : Int × Int} {ss : List (Int × Int)} {ys : List Int} (h : FitS sl ch (s :: ss) ys) : (camF sl ch (s :: ss)).isSome = true := by
  obtain ⟨l, u⟩ := s
  cases ys with
  | nil => have := h.len; simp at this
  | cons m q =>
    obtain ⟨k1, k2, k3⟩ := fit_way.1 h
    exact (camF_some_iff sl ch l u ss hch).2 ⟨m, k1.1, k1.2, by have := way_rest k2; omega⟩

/-! ### which heights belong to a step -/
/-- the way to a height -/
theorem now_way {sl f : Int} {cs : List (Int × Int)} : ∀ (i : Nat) (h : Int), i < cs.length → nowF sl f cs i h < 1000 → ∃ ns : List Int, ns.length = i ∧ gi (f :: ns) i = h ∧
    ∀ r, Way sl f (cs.drop (i + 1)) h r → Way sl f (cs.drop 1) f (ns ++ r) ∧ cyc f f (ns ++ r) = nowF sl f cs i h + cyc f h r := by
  intro i
  induction i with
  | zero =>
    intro h _ hn
    simp only [nowF] at hn ⊢
    by_cases e : h = f
    · subst e; exact ⟨[], rfl, rfl, fun r hr => ⟨hr, by simp⟩⟩
    · rw [if_neg e] at hn; omega
  | succ i ih =>
    intro h hi hn
    simp only [nowF] at hn ⊢
    rcases frTo_at sl (spn cs (i + 1)) (nowF sl f cs i) h 31 with h' | ⟨j, h1, h2, h3, h4⟩
    · omega
    · obtain ⟨ns, e1, e2, e3⟩ := ih j (by omega) h2
      refine ⟨ns ++ [h], by simp [e1], ?_, ?_⟩
      · unfold gi; rw [← List.cons_append]; simp [e1]
      · intro r hr
        have hw : Way sl f (cs.drop (i + 1)) j (h :: r) := by
          rw [drop_cons cs (i + 1) hi]
          exact ⟨h, r, rfl, by omega, by omega, hr⟩
        obtain ⟨k1, k2⟩ := e3 _ hw
        rw [List.append_assoc, List.singleton_append]
        refine ⟨k1, ?_⟩
        rw [k2, h4]; simp only [cyc]; omega
theorem is_fit {sl ch : Int} (hch : ch < 1000) {cs : List (Int × Int)} (hcs : ∀ i, i < cs.length → 0 ≤ (spn cs i).1 ∧ (spn cs i).2 ≤ 30) (hl : cs.length < 900) {i : Nat} (hi : i < cs.length) (h : Int) :
    Is sl ch cs i h ↔ ∃ xs, FitS sl ch cs xs ∧ gi xs i = h := by
  constructor
  · rintro ⟨h0, f, hf, hg⟩
    unfold goodF at hg
    simp only [Bool.and_eq_true, decide_eq_true_eq] at hg
    have hr := restF_range sl (cs.drop (i + 1)) h f
    have hn := nowF_range sl f cs i h
    obtain ⟨r, hw, hc⟩ := rest_way (sl := sl) (f := f) (ss := cs.drop (i + 1)) (h := h) (by omega)
    obtain ⟨ns, e1, e2, e3⟩ := now_way i h hi hg.1
    obtain ⟨k1, k2⟩ := e3 r hw
    refine ⟨f :: (ns ++ r), ?_, ?_⟩
    · have := drop_cons cs 0 (by omega)
      rw [List.drop_zero] at this
      rw [this]
      exact fit_way.2 ⟨hf, k1, by rw [k2, hc]; omega⟩
    · rw [← e2]; unfold gi; rw [← List.cons_append, List.getD_eq_getElem?_getD, List.getD_eq_getElem?_getD, List.getElem?_append_left (by simp [e1])]
  · rintro ⟨xs, hf, rfl⟩
    have hl' := hf.len
    have hin : ∀ j, j < xs.length → 0 ≤ gi xs j ∧ gi xs j ≤ 30 := fun j hj => by have := hf.ins j hj; have := hcs j (by omega); omega
    have h1 := fit_now hf (by omega) hin i (by omega)
    have h2 := fit_rest hf (xs.length - i - 1) i (by omega)
    have h3 := chP_le xs i
    have h4 := hf.few
    refine ⟨hin i (by omega), gi xs 0, hf.ins 0 (by omega), ?_⟩
    unfold goodF
    simp only [Bool.and_eq_true, decide_eq_true_eq]
    omega
end Go.Proofs.YtncfgkhbenmpoaaGreatDoor
end
