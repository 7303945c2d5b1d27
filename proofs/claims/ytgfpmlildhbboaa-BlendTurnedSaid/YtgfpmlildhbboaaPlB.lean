/- Three lists lined up: what is told, shown of the conditions. Plain theorems. -/
import Derived.Test.YtgfpmlildhbboaaPlA
import Derived.Test.YtgfpmlildhbboaaVcB
import Derived.Test.YtgfpmlildhbboaaViTwo
set_option linter.unnecessarySimpa false
set_option linter.unusedVariables false
set_option linter.unusedSectionVars false
set_option linter.unusedSimpArgs false
set_option autoImplicit false
open Go Vi

namespace Sp
theorem sub_len {α : Type} {l : List α} {i j : Int} (h1 : 0 ≤ i) (h2 : i ≤ j) (h3 : j ≤ (l.length : Int)) : ((sub l i j).length : Int) = j - i := by
  unfold sub; rw [List.length_drop, List.length_take]; omega
theorem sub_le {α : Type} (l : List α) (i j : Int) : (sub l i j).length ≤ l.length := by
  unfold sub; rw [List.length_drop, List.length_take]; omega
theorem sub_cat {α : Type} {l : List α} {i j k : Int} (h1 : 0 ≤ i) (h2 : i ≤ j) (h3 : j ≤ k) (h4 : k ≤ (l.length : Int)) : sub l i j ++ sub l j k = sub l i k := by
  obtain ⟨i, rfl⟩ : ∃ n : Nat, i = n := ⟨i.toNat, by omega⟩
  obtain ⟨j, rfl⟩ : ∃ n : Nat, j = n := ⟨j.toNat, by omega⟩
  obtain ⟨k, rfl⟩ : ∃ n : Nat, k = n := ⟨k.toNat, by omega⟩
  unfold sub
  simp only [Int.toNat_natCast]
  have e : l.take k = l.take j ++ (l.take k).drop j := by
    have := List.take_append_drop j (l.take k)
    rw [List.take_take, Nat.min_eq_left (by omega)] at this
    exact this.symm
  conv => rhs; rw [e]
  rw [List.drop_append_of_le_length (by rw [List.length_take]; omega)]
theorem sub_self {α : Type} (l : List α) {i : Int} : sub l i i = [] := by
  unfold sub; exact List.drop_eq_nil_of_le (by rw [List.length_take]; omega)
theorem sub_all {α : Type} (l : List α) : sub l 0 (l.length : Int) = l := by simp [sub]
theorem sub_one {α : Type} {l : List α} {i : Int} (d : α) (h1 : 0 ≤ i) (h2 : i < (l.length : Int)) : sub l i (i + 1) = [nth l i d] := by
  obtain ⟨i, rfl⟩ : ∃ n : Nat, i = n := ⟨i.toNat, by omega⟩
  have h2' : i < l.length := by omega
  unfold sub
  rw [show ((i : Int) + 1).toNat = i + 1 from by omega, Int.toNat_natCast, take_succ (d := d) h2', List.drop_append_of_le_length (by rw [List.length_take]; omega), List.drop_eq_nil_of_le (by rw [List.length_take]; omega)]
  rfl
theorem sub_empty {α : Type} {l : List α} {i j : Int} (h1 : 0 ≤ i) (h2 : i ≤ j) (h3 : j ≤ (l.length : Int)) : (sub l i j).isEmpty = true ↔ i = j := by
  rw [List.isEmpty_iff, ← List.length_eq_zero_iff]
  have := sub_len h1 h2 h3
  omega

/-- Pairs that rise are bounded, and their fellows rise. -/
def Up (n m : Nat) (f : Int → Int) : Prop := (∀ x, 0 ≤ f x → 0 ≤ x ∧ x < n ∧ f x < m) ∧ ∀ x y, x < y → 0 ≤ f x → 0 ≤ f y → f x < f y
theorem rises_bound (n m : Nat) : ∀ (l : List Pair) (i j : Nat), Rises n m i j l → ∀ x, 0 ≤ fellow l x → (i : Int) ≤ x ∧ x < n ∧ (j : Int) ≤ fellow l x ∧ fellow l x < m
  | [], _, _, _, x, hx => by simp [fellow] at hx
  | p :: l, i, j, h, x, hx => by
    obtain ⟨h1, h2, h3, h4, h5⟩ := h
    rw [fellow] at hx ⊢
    split
    · omega
    · rename_i hne
      rw [if_neg hne] at hx
      have := rises_bound n m l _ _ h5 x hx
      omega
theorem rises_up (n m : Nat) : ∀ (l : List Pair) (i j : Nat), Rises n m i j l → Up n m (fellow l)
  | [], _, _, _ => ⟨fun x hx => by simp [fellow] at hx, fun x y _ hx => by simp [fellow] at hx⟩
  | p :: l, i, j, h => by
    obtain ⟨h1, h2, h3, h4, h5⟩ := h
    have ih := rises_up n m l _ _ h5
    have b := rises_bound n m l _ _ h5
    constructor
    · intro x hx
      rw [fellow] at hx ⊢
      split
      · omega
      · rename_i hne
        rw [if_neg hne] at hx
        exact ih.1 x hx
    · intro x y hxy hx hy
      rw [fellow] at hx hy ⊢
      rw [fellow]
      by_cases hpx : p.1 = x
      · rw [if_pos hpx] at hx ⊢
        rw [if_neg (by omega)] at hy ⊢
        have := b y hy
        omega
      · rw [if_neg hpx] at hx ⊢
        by_cases hpy : p.1 = y
        · have := b x hx
          omega
        · rw [if_neg hpy] at hy ⊢
          exact ih.2 x y hxy hx hy

theorem chain_lines (a b : List Str) : ∀ (n i j : Nat), a.length + b.length ≤ n + i + j → i ≤ a.length → j ≤ b.length → Chain a b i j (linesAt i j (a.drop i) (b.drop j)) := by
  intro n
  induction n with
  | zero => intro i j h hi hj; rw [drop_end (by omega), linesAt_nil]; trivial
  | succ n ih =>
    intro i j h hi hj
    by_cases h1 : i < a.length
    · by_cases h2 : j < b.length
      · rw [drop_cons (d := []) h1, drop_cons (d := []) h2, linesAt]
        split
        · rename_i he
          exact ⟨Int.le_refl _, by simpa using h1, Int.le_refl _, by simpa using h2, he, by simpa using ih (i + 1) (j + 1) (by omega) (by omega) (by omega)⟩
        · rw [← drop_cons h1, ← drop_cons h2]
          split
          · have := ih (i + 1) j (by omega) (by omega) (by omega)
            exact chain_mono a b _ this (by omega) (by omega)
          · have := ih i (j + 1) (by omega) (by omega) (by omega)
            exact chain_mono a b _ this (by omega) (by omega)
      · rw [drop_end (l := b) (by omega), linesAt_nil2]; trivial
    · rw [drop_end (by omega), linesAt_nil]; trivial
where
  chain_mono (a b : List Str) : ∀ (l : List Pair) {i j i' j' : Nat}, Chain a b i' j' l → i ≤ i' → j ≤ j' → Chain a b i j l
    | [], _, _, _, _, _, _, _ => trivial
    | x :: l, i, j, i', j', h, h1, h2 => by
      obtain ⟨a1, a2, a3, a4, a5, a6⟩ := h
      exact ⟨by omega, a2, by omega, a4, a5, a6⟩
theorem chain_rises (a b : List Str) : ∀ (l : List Pair) (i j : Nat), Chain a b i j l → Rises a.length b.length i j l
  | [], _, _, _ => trivial
  | x :: l, i, j, h => by
    obtain ⟨a1, a2, a3, a4, _, a6⟩ := h
    exact ⟨a1, a2, a3, a4, chain_rises a b l _ _ a6⟩
theorem chain_eq (a b : List Str) : ∀ (l : List Pair) (i j : Nat), Chain a b i j l → ∀ x, 0 ≤ fellow l x → nth a x [] = nth b (fellow l x) []
  | [], _, _, _, x, hx => by simp [fellow] at hx
  | p :: l, i, j, h, x, hx => by
    obtain ⟨_, _, _, _, a5, a6⟩ := h
    rw [fellow] at hx ⊢
    split
    · rename_i he; rw [← he]; exact a5
    · rename_i hne
      rw [if_neg hne] at hx
      exact chain_eq a b l _ _ a6 x hx
theorem lines_chain (a b : List Str) : Chain a b 0 0 (lines a b) := by
  exact chain_lines a b (a.length + b.length) 0 0 (by omega) (by omega) (by omega)
theorem lines_rises (a b : List Str) : Rises a.length b.length 0 0 (lines a b) := chain_rises a b _ _ _ (lines_chain a b)
theorem lines_up (a b : List Str) : Up a.length b.length (fellow (lines a b)) := rises_up _ _ _ _ _ (lines_rises a b)
theorem lines_eq (a b : List Str) (x : Int) (h : 0 ≤ fellow (lines a b) x) : nth a x [] = nth b (fellow (lines a b) x) [] := chain_eq a b _ _ _ (lines_chain a b) x h
theorem fellow_same : ∀ (a : List Str) (i x : Int), i ≤ x → x < i + a.length → fellow (linesAt i i a a) x = x
  | [], i, x, h1, h2 => by simp at h2; omega
  | s :: a, i, x, h1, h2 => by
    rw [linesAt, if_pos rfl, fellow]
    split
    · assumption
    · rename_i hne
      simp only [List.length_cons] at h2
      exact fellow_same a (i + 1) x (by simp at hne; omega) (by omega)

def Le3 (f t : Tri) : Prop := f.1 ≤ t.1 ∧ f.2.1 ≤ t.2.1 ∧ f.2.2 ≤ t.2.2
def Asc : Tri → List Tri → Tri → Prop
  | f, [], e => Le3 f e
  | f, t :: r, e => Le3 f t ∧ Asc (next t) r e
theorem Asc.le : ∀ {f : Tri} {ts : List Tri} {e : Tri}, Asc f ts e → Le3 f e
  | _, [], _, h => h
  | f, t :: r, e, ⟨h1, h2⟩ => by
    have := Asc.le h2
    unfold Le3 next at *
    simp only at *
    omega
theorem asc_triAt {n m m' : Nat} {ours theirs : List Pair} (h1 : Up n m (fellow ours)) (h2 : Up n m' (fellow theirs)) : ∀ (k : Nat) (i : Int) (f : Tri), i + k = n → f.1 ≤ i → f.2.1 ≤ m → f.2.2 ≤ m' →
    (∀ y, i ≤ y → 0 ≤ fellow ours y → f.2.1 ≤ fellow ours y) → (∀ y, i ≤ y → 0 ≤ fellow theirs y → f.2.2 ≤ fellow theirs y) → Asc f (triAt ours theirs k i) (n, m, m')
  | 0, i, f, hi, g1, g2, g3, _, _ => ⟨by simp; omega, g2, g3⟩
  | k + 1, i, f, hi, g1, g2, g3, g4, g5 => by
    rw [triAt]
    split
    · rename_i hc
      have b1 := h1.1 i hc.1
      have b2 := h2.1 i hc.2
      refine ⟨⟨g1, g4 i (Int.le_refl _) hc.1, g5 i (Int.le_refl _) hc.2⟩, ?_⟩
      refine asc_triAt h1 h2 k (i + 1) _ (by omega) (Int.le_refl _) (by simp [next]; omega) (by simp [next]; omega) (fun y hy h0 => ?_) (fun y hy h0 => ?_)
      · have := h1.2 i y (by omega) hc.1 h0
        simp [next]; omega
      · have := h2.2 i y (by omega) hc.2 h0
        simp [next]; omega
    · exact asc_triAt h1 h2 k (i + 1) f (by omega) (by omega) g2 g3 (fun y hy h0 => g4 y (by omega) h0) (fun y hy h0 => g5 y (by omega) h0)
theorem asc_all {n m m' : Nat} {ours theirs : List Pair} (h1 : Up n m (fellow ours)) (h2 : Up n m' (fellow theirs)) : Asc (0, 0, 0) (triAt ours theirs n 0) (n, m, m') :=
  asc_triAt h1 h2 n 0 _ (by simp) (Int.le_refl _) (by simp) (by simp) (fun _ _ h => h) (fun _ _ h => h)
theorem triAt_len (ours theirs : List Pair) : ∀ (k : Nat) (i : Int), (triAt ours theirs k i).length ≤ k
  | 0, i => Nat.le_refl _
  | k + 1, i => by
    rw [triAt]
    have := triAt_len ours theirs k (i + 1)
    split
    · simp; omega
    · omega

theorem kindOf_ne {α : Type} (same : List α → List α → Bool) (x y z : List α) : 2 ≤ kindOf same x y z ∧ kindOf same x y z ≤ 5 := by
  unfold kindOf
  cases same x y <;> cases same x z <;> cases same y z <;> simp
theorem kind0_zero {α : Type} (same : List α → List α → Bool) (x y z : List α) : kind0 same x y z = 0 ↔ x.isEmpty = true ∧ y.isEmpty = true ∧ z.isEmpty = true := by
  unfold kind0
  have := kindOf_ne same x y z
  cases x.isEmpty <;> cases y.isEmpty <;> cases z.isEmpty <;> simp <;> omega
theorem kind0_or {α : Type} (same : List α → List α → Bool) (x y z : List α) : kind0 same x y z = 0 ∨ kind0 same x y z = kindOf same x y z := by
  unfold kind0
  cases x.isEmpty <;> cases y.isEmpty <;> cases z.isEmpty <;> simp
theorem kd_range (o a b : List Str) (f t : Tri) : kdT o a b f t = 0 ∨ (2 ≤ kdT o a b f t ∧ kdT o a b f t ≤ 5) := by
  unfold kdT
  rcases kind0_or eqL (sub o f.1 t.1) (sub a f.2.1 t.2.1) (sub b f.2.2 t.2.2) with h | h
  · exact .inl h
  · rw [h]; exact .inr (kindOf_ne _ _ _ _)
/-- Places that a piece may have. -/
def In (o a b : List Str) (f t : Tri) : Prop := Le3 (0, 0, 0) f ∧ Le3 f t ∧ Le3 t (ends o a b)
theorem kd_zero {o a b : List Str} {f t : Tri} (h : In o a b f t) : kdT o a b f t = 0 ↔ f = t := by
  unfold kdT
  obtain ⟨⟨h1, h2, h3⟩, ⟨h4, h5, h6⟩, h7, h8, h9⟩ := h
  unfold ends at h7 h8 h9
  rw [kind0_zero, sub_empty h1 h4 h7, sub_empty h2 h5 h8, sub_empty h3 h6 h9]
  constructor
  · rintro ⟨e1, e2, e3⟩; exact Prod.ext e1 (Prod.ext e2 e3)
  · rintro rfl; exact ⟨rfl, rfl, rfl⟩
end Sp

namespace Sp
/-- A chain of pieces: each starts where the last ended. -/
def Pc (o a b : List Str) (p : PartA) : Prop := (p.1 = 1 ∧ p.2.2 = next p.2.1 ∧ p.2.1.1 < o.length ∧ p.2.1.2.1 < a.length ∧ p.2.1.2.2 < b.length) ∨ (p.1 = kdT o a b p.2.1 p.2.2 ∧ 2 ≤ p.1 ∧ p.1 ≤ 5)
def Chn (o a b : List Str) : Tri → List PartA → Prop
  | f, [] => f = ends o a b
  | f, p :: r => p.2.1 = f ∧ Le3 f p.2.2 ∧ p.2.2 ≠ f ∧ Pc o a b p ∧ Chn o a b p.2.2 r
theorem Chn.le {o a b : List Str} : ∀ {l : List PartA} {f : Tri}, Chn o a b f l → Le3 f (ends o a b)
  | [], _, h => by cases h; exact ⟨Int.le_refl _, Int.le_refl _, Int.le_refl _⟩
  | p :: r, f, ⟨_, h2, _, _, h5⟩ => by
    have := Chn.le h5
    unfold Le3 at *
    omega
theorem Le3.trans {f g h : Tri} (h1 : Le3 f g) (h2 : Le3 g h) : Le3 f h := by unfold Le3 at *; omega
theorem le_next (t : Tri) : Le3 t (next t) := by unfold Le3 next; simp only; omega
theorem next_ne (t : Tri) : next t ≠ t := fun e => by
  have := congrArg (fun x : Tri => x.1) e
  simp only [next] at this
  omega

theorem seg_chn {o a b : List Str} {f t : Tri} (h : In o a b f t) {l : List PartA} (hl : Chn o a b t l) : Chn o a b f (segA (kdT o a b) f t ++ l) := by
  unfold segA
  have hz := kd_zero h
  split
  · rename_i h0
    cases hz.1 h0
    exact hl
  · rename_i h0
    refine ⟨rfl, h.2.1, fun e => h0 (hz.2 e.symm), .inr ⟨rfl, ?_⟩, hl⟩
    rcases kd_range o a b f t with h' | h'
    · exact absurd h' h0
    · exact h'
theorem pts_chn {o a b : List Str} : ∀ {ts : List Tri} {f : Tri}, Le3 (0, 0, 0) f → Asc f ts (ends o a b) → Chn o a b f (pts (kdT o a b) f ts (ends o a b))
  | [], f, h0, h => by
    have := seg_chn (o := o) (a := a) (b := b) (l := []) ⟨h0, h, ⟨Int.le_refl _, Int.le_refl _, Int.le_refl _⟩⟩ rfl
    rw [List.append_nil] at this
    exact this
  | t :: r, f, h0, ⟨h1, h2⟩ => by
    have l2 := h2.le
    have n2 : Le3 t (ends o a b) := (le_next t).trans l2
    refine seg_chn ⟨h0, h1, n2⟩ ⟨rfl, le_next t, next_ne t, .inl ⟨rfl, rfl, ?_⟩, pts_chn ((h0.trans h1).trans (le_next t)) h2⟩
    unfold Le3 next ends at l2
    simp only at l2
    show t.1 < (o.length : Int) ∧ t.2.1 < (a.length : Int) ∧ t.2.2 < (b.length : Int)
    omega
theorem chn_nth {o a b : List Str} {d : PartA} : ∀ {l : List PartA} {f : Tri}, Le3 (0, 0, 0) f → Chn o a b f l → ∀ p, p < l.length → In o a b (nth l (p : Int) d).2.1 (nth l (p : Int) d).2.2 ∧ Pc o a b (nth l (p : Int) d)
  | [], _, _, _, p, hp => by simp at hp
  | x :: l, f, h0, ⟨h1, h2, h3, h4, h5⟩, 0, _ => by
    cases h1
    exact ⟨⟨h0, h2, Chn.le h5⟩, h4⟩
  | x :: l, f, h0, ⟨h1, h2, h3, h4, h5⟩, p + 1, hp => chn_nth (h0.trans h2) h5 p (by simpa using hp)
theorem seg_len (kd : Tri → Tri → Int) (f t : Tri) : (segA kd f t).length ≤ 1 := by unfold segA; split <;> simp
theorem pts_len (kd : Tri → Tri → Int) (e : Tri) : ∀ (ts : List Tri) (f : Tri), (pts kd f ts e).length ≤ 2 * ts.length + 1
  | [], f => seg_len kd f e
  | t :: r, f => by
    have := pts_len kd e r (next t)
    have := seg_len kd f t
    rw [pts]
    simp only [List.length_append, List.length_cons]
    omega
theorem partsA_len (o a b : List Str) (ours theirs : List Pair) : (partsA o a b ours theirs).length ≤ 2 * o.length + 1 := by
  have := pts_len (kdT o a b) (ends o a b) (triAt ours theirs o.length 0) (0, 0, 0)
  have := triAt_len ours theirs o.length 0
  unfold partsA
  omega
theorem blend_asc (o a b : List Str) : Asc (0, 0, 0) (triAt (lines o a) (lines o b) o.length 0) (ends o a b) := asc_all (lines_up o a) (lines_up o b)
theorem le0 : Le3 (0, 0, 0) (0, 0, 0) := ⟨Int.le_refl _, Int.le_refl _, Int.le_refl _⟩
theorem blend_chn (o a b : List Str) : Chn o a b (0, 0, 0) (blendA o a b) := pts_chn le0 (blend_asc o a b)
theorem nth_map {α β : Type} (g : α → β) (l : List α) (p : Nat) (d : α) (d' : β) (h : p < l.length) : nth (l.map g) (p : Int) d' = g (nth l (p : Int) d) := by
  rw [nth_lt (by simpa using h), nth_lt h, List.getElem_map]

theorem idx_le {α : Type} (f : α → Bool) : ∀ (l : List α) (i : Int), idxFrom f i l = -1 ∨ (i ≤ idxFrom f i l ∧ idxFrom f i l < i + l.length)
  | [], i => .inl rfl
  | x :: l, i => by
    rw [idxFrom]
    cases f x with
    | true => right; simp; omega
    | false =>
      rcases idx_le f l (i + 1) with h | h
      · left; simpa using h
      · right; simp only [cond_false, List.length_cons]; omega
theorem idx_fellow : ∀ (l : List Pair) (pre : List Pair) (x : Int), (idxFrom (fun p => isA p x) pre.length l = -1 ∧ fellow l x = -1) ∨
    (0 ≤ idxFrom (fun p => isA p x) pre.length l ∧ idxFrom (fun p => isA p x) pre.length l < ((pre ++ l).length : Int) ∧ (nth (pre ++ l) (idxFrom (fun p => isA p x) pre.length l) (0, 0, false)).2.1 = fellow l x)
  | [], _, _ => .inl ⟨rfl, rfl⟩
  | p :: l, pre, x => by
    rw [idxFrom, fellow, isA, Bool.cond_decide]
    by_cases h : p.1 = x
    · right
      rw [if_pos h, if_pos h]
      exact ⟨by omega, by simp; omega, by rw [nth_mid _ _ _ _ rfl]⟩
    · rw [if_neg h, if_neg h]
      have := idx_fellow l (pre ++ [p]) x
      rw [List.append_assoc] at this
      simpa using this
theorem idx_any {α : Type} (f : α → Bool) : ∀ (l : List α) (i : Int), 0 ≤ i → decide (0 ≤ idxFrom f i l) = l.any f
  | [], i, _ => by simp [idxFrom]
  | x :: l, i, h => by
    rw [idxFrom, List.any_cons, ← idx_any f l (i + 1) (by omega)]
    cases f x <;> simp [h]
end Sp

theorem blend_of_string.ok (R : List (List UInt8) → Prop) (l : List Str) (r : Int × Int) (h : Sp.ofS.pre l r) (hR : R (Sp.ofS l r)) : blend_of_string.vc R l r := ⟨h, hR⟩

theorem slices_Equal_string_string.ok (R : Bool → Prop) (a b : List Str) (h : Sp.eqL.pre a b) (hR : R (Sp.eqL a b)) : slices_Equal_string_string.vc R a b := by
  unfold slices_Equal_string_string.vc
  unfold Sp.eqL.pre at h
  unfold Sp.eqL at hR
  have ne (hne : a ≠ b) : R false := by rw [decide_eq_false hne] at hR; exact hR
  rw [cond_ndec]
  split
  case isFalse h1 => exact ne fun e => h1 (by rw [e])
  rename_i hl
  refine Lp_rule (fun v => ∃ p : Nat, v = (a, b, (a.length : Int), (p : Int), ()) ∧ p ≤ a.length ∧ a.take p = b.take p) (fun v => a.length - v.2.2.2.1.toNat) ?_ ⟨0, rfl, Nat.zero_le _, rfl⟩
  rintro _ K ⟨p, rfl, hp, ht⟩ hK
  simp only [slices_Equal_string_string.L0, cond_dec, cond_ndec, rg64, ix_iff]
  split
  · rename_i h1
    have h1' : p < a.length := by omega
    have h2' : p < b.length := by omega
    refine ⟨by omega, by omega, ?_⟩
    split
    · rename_i e1
      refine ⟨by omega, hK _ ⟨p + 1, rfl, by omega, ?_⟩ (by simp; omega)⟩
      rw [take_succ (d := []) h1', take_succ (d := []) h2', ht, e1]
    · rename_i e1; exact ne fun e => e1 (by rw [e])
  · have : p = a.length := by omega
    subst this
    rw [List.take_length, List.take_of_length_le (by omega)] at ht
    rw [decide_eq_true ht] at hR
    exact hR

theorem blend_kind_string.ok (R : Int → Prop) (o a b : List Str) (p : Int × (Int × Int) × (Int × Int) × Int × Int) (h : Sp.kindT.pre o a b p) (hR : R (Sp.kindT o a b p)) : blend_kind_string.vc R o a b p := by
  obtain ⟨h1, h2, h3, h4, h5, h6⟩ := h
  unfold blend_kind_string.vc
  have e1 : Sp.eqL.pre (Sp.ofS o (p.2.1.1, p.2.1.2)) (Sp.ofS a (p.2.2.1.1, p.2.2.1.2)) := by
    have := Sp.sub_le o p.2.1.1 p.2.1.2; unfold Sp.eqL.pre Sp.ofS; simp only; omega
  have e2 : Sp.eqL.pre (Sp.ofS o (p.2.1.1, p.2.1.2)) (Sp.ofS b (p.2.2.2.1, p.2.2.2.2)) := e1
  have e3 : Sp.eqL.pre (Sp.ofS a (p.2.2.1.1, p.2.2.1.2)) (Sp.ofS b (p.2.2.2.1, p.2.2.2.2)) := by
    have := Sp.sub_le a p.2.2.1.1 p.2.2.1.2; unfold Sp.eqL.pre Sp.ofS; simp only; omega
  refine ⟨h1, h2, h3, ?_⟩
  have hR' : R (Sp.kind0 Sp.eqL (Sp.ofS o (p.2.1.1, p.2.1.2)) (Sp.ofS a (p.2.2.1.1, p.2.2.1.2)) (Sp.ofS b (p.2.2.2.1, p.2.2.2.2))) := hR
  clear hR h1 h2 h3
  generalize Sp.ofS o (p.2.1.1, p.2.1.2) = x at *
  generalize Sp.ofS a (p.2.2.1.1, p.2.2.1.2) = y at *
  generalize Sp.ofS b (p.2.2.2.1, p.2.2.2.2) = z at *
  have em (l : List Str) : decide ((l.length : Int) = 0) = l.isEmpty := by cases l <;> simp; omega
  rw [em, em, em]
  unfold Sp.kind0 Sp.kindOf at hR'
  have e1' := eq_true e1
  have e2' := eq_true e2
  have e3' := eq_true e3
  simp only [e1', e2', e3', true_and]
  revert hR'
  cases x.isEmpty <;> cases y.isEmpty <;> cases z.isEmpty <;> cases Sp.eqL x y <;> cases Sp.eqL x z <;> cases Sp.eqL y z <;> exact id

theorem blend_fellow_1.ok (R : Bool → Int → Prop) (p : Int × Int × Bool) (at_ : Int) (hR : R (Sp.isA p at_) at_) : blend_fellow_1.vc R p at_ := hR

theorem slices_IndexFunc_match_Pair_match_Pair.ok (R : Int → Int → Prop) (l : List (Int × Int × Bool)) (at_ : Int) (h : Sp.idxA.pre l) (hR : R (Sp.idxA l at_) at_) : slices_IndexFunc_match_Pair_match_Pair.vc R l at_ := by
  unfold Sp.idxA.pre at h
  refine Lp_rule (fun v => ∃ p : Nat, v = (l, (l.length : Int), (p : Int), at_, ()) ∧ p ≤ l.length ∧ Sp.idxFrom (fun q => Sp.isA q at_) p (l.drop p) = Sp.idxA l at_) (fun v => l.length - v.2.2.1.toNat) ?_ ⟨0, rfl, Nat.zero_le _, rfl⟩
  rintro _ K ⟨p, rfl, hp, ht⟩ hK
  simp only [slices_IndexFunc_match_Pair_match_Pair.L0, rg64, ix_iff]
  rw [cond_dec]
  split
  · rename_i h1
    have h1' : p < l.length := by omega
    refine ⟨by omega, ?_⟩
    rw [drop_cons (d := (0, 0, false)) h1', Sp.idxFrom] at ht
    cases hc : Sp.isA (nth l (p : Int) (0, 0, false)) at_ with
    | true => rw [hc] at ht; rw [← ht] at hR; exact hR
    | false =>
      rw [hc] at ht
      exact ⟨by omega, hK _ ⟨p + 1, rfl, by omega, ht⟩ (by simp; omega)⟩
  · rw [drop_end (by omega)] at ht
    rw [← ht] at hR
    exact hR

theorem blend_fellow.ok (R : Int → Prop) (l : List (Int × Int × Bool)) (at_ : Int) (h : Sp.fellow.pre l at_) (hR : R (Sp.fellow l at_)) : blend_fellow.vc R l at_ := by
  refine ⟨h, ?_⟩
  rw [cond_dec]
  have e : Sp.idxA l at_ = Sp.idxFrom (fun p => Sp.isA p at_) ((([] : List Sp.Pair).length : Nat) : Int) l := rfl
  rcases Sp.idx_fellow l [] at_ with ⟨h1, h2⟩ | ⟨h1, h2, h3⟩
  · rw [e, h1, if_neg (by decide), ← h2]; exact hR
  · rw [← e] at h1 h2 h3
    rw [if_pos h1, ix_iff]
    simp only [List.nil_append] at h2 h3
    rw [h3]
    exact ⟨⟨h1, h2⟩, hR⟩

theorem blend_parts_string_1.ok (R : Int → Int → Int → Int → Int → Int → Int → List (List UInt8) → List (List UInt8) → List (List UInt8) → List (Int × (Int × Int) × (Int × Int) × Int × Int) → Prop) (x y z f0 f1 f2 f3 f4 f5 f6 : Int) (o a b : List Str) (out : List (Int × (Int × Int) × (Int × Int) × Int × Int))
    (h : Sp.upTo.pre x y z f1 f3 f5 o a b out) (hR : R f0 f1 f2 f3 f4 f5 f6 o a b (Sp.upTo x y z f1 f3 f5 o a b out)) : blend_parts_string_1.vc R x y z f0 f1 f2 f3 f4 f5 f6 o a b out := by
  obtain ⟨h1, h2, h3, h4, h5, h6, h7⟩ := h
  refine ⟨⟨h1, h2, h3, h4, h5, h6⟩, ?_⟩
  have e : Sp.kindT o a b (0, (f1, x), (f3, y), f5, z) = Sp.kdT o a b (f1, f3, f5) (x, y, z) := rfl
  rw [e, cond_ndec]
  unfold Sp.upTo Sp.segA at hR
  split
  · rename_i h0
    rw [if_pos h0] at hR
    simpa using hR
  · rename_i h0
    rw [if_neg h0] at hR
    exact ⟨by rw [gr_iff]; omega, hR⟩

theorem blend_parts_string.ok (R : List (Int × (Int × Int) × (Int × Int) × Int × Int) → Prop) (o a b : List Str) (ours theirs : List (Int × Int × Bool)) (h : Sp.parts.pre o a b ours theirs) (hR : R (Sp.parts o a b ours theirs)) : blend_parts_string.vc R o a b ours theirs := by
  obtain ⟨h1, h2, h3, h4, h5, h6, h7⟩ := h
  have u1 := Sp.rises_up _ _ _ _ _ h6
  have u2 := Sp.rises_up _ _ _ _ _ h7
  refine Lp_rule (fun v => ∃ (i : Nat) (out : List Sp.Part) (g0 g2 g4 g6 : Int) (f : Sp.Tri), v = (ours, theirs, (o.length : Int), (i : Int), o, a, b, out, g0, f.1, g2, f.2.1, g4, f.2.2, g6, ()) ∧ i ≤ o.length ∧ Sp.Le3 (0, 0, 0) f ∧ f.1 ≤ i ∧
      Sp.Asc f (Sp.triAt ours theirs (o.length - i) i) (Sp.ends o a b) ∧ out.length ≤ 2 * i ∧ out ++ (Sp.pts (Sp.kdT o a b) f (Sp.triAt ours theirs (o.length - i) i) (Sp.ends o a b)).map Sp.toP = Sp.parts o a b ours theirs)
    (fun v => o.length - v.2.2.2.1.toNat) ?_ ⟨0, [], 0, 0, 0, 0, (0, 0, 0), rfl, Nat.zero_le _, Sp.le0, Int.le_refl _, Sp.asc_all u1 u2, Nat.zero_le _, rfl⟩
  rintro _ K ⟨i, out, g0, g2, g4, g6, f, rfl, hi, hf, hfi, ha, ho, hp⟩ hK
  simp only [blend_parts_string.L0, cond_dec, rg64, gr_iff]
  have hpre (t : Sp.Tri) (hin : Sp.In o a b f t) : Sp.upTo.pre t.1 t.2.1 t.2.2 f.1 f.2.1 f.2.2 o a b out := by
    obtain ⟨⟨a1, a2, a3⟩, ⟨a4, a5, a6⟩, a7, a8, a9⟩ := hin
    unfold Sp.ends at a7 a8 a9
    simp only at a1 a2 a3 a7 a8 a9
    exact ⟨⟨a1, a4, a7⟩, ⟨a2, a5, a8⟩, ⟨a3, a6, a9⟩, h1, h2, h3, by omega⟩
  split
  · rename_i c1
    have c1' : i < o.length := by omega
    rw [show o.length - i = (o.length - (i + 1)) + 1 from by omega, Sp.triAt] at ha hp
    refine ⟨by unfold Sp.fellow.pre; omega, by unfold Sp.fellow.pre; omega, ?_⟩
    have skip (hn : ¬ (0 ≤ Sp.fellow ours i ∧ 0 ≤ Sp.fellow theirs i)) : K (ours, theirs, (o.length : Int), (i : Int) + 1, o, a, b, out, g0, f.1, g2, f.2.1, g4, f.2.2, g6, ()) := by
      rw [if_neg hn] at ha hp
      exact hK _ ⟨i + 1, out, g0, g2, g4, g6, f, rfl, by omega, hf, by omega, ha, by omega, hp⟩ (by simp; omega)
    split
    · exact ⟨by omega, skip (by omega)⟩
    split
    · exact ⟨by omega, skip (by omega)⟩
    rename_i c2 c3
    rw [if_pos (by omega)] at ha hp
    obtain ⟨a1, a2⟩ := ha
    have a3 := a2.le
    have hin : Sp.In o a b f (i, Sp.fellow ours i, Sp.fellow theirs i) := ⟨hf, a1, (Sp.le_next _).trans a3⟩
    have hl : (Sp.upTo i (Sp.fellow ours i) (Sp.fellow theirs i) f.1 f.2.1 f.2.2 o a b out).length ≤ out.length + 1 := by
      have := Sp.seg_len (Sp.kdT o a b) (f.1, f.2.1, f.2.2) (i, Sp.fellow ours i, Sp.fellow theirs i)
      unfold Sp.upTo; rw [List.length_append, List.length_map]; omega
    unfold Sp.Le3 Sp.next Sp.ends at a3
    simp only at a3
    refine ⟨hpre _ hin, by omega, by omega, by omega, by omega, by omega, by omega, by omega, by omega, ?_⟩
    refine hK _ ⟨i + 1, _, 0, 0, 0, 0, (i + 1, Sp.fellow ours i + 1, Sp.fellow theirs i + 1), rfl, by omega, (hf.trans a1).trans (Sp.le_next _), Int.le_refl _, a2, ?_, ?_⟩ (by simp; omega)
    · rw [List.length_append, List.length_singleton]; omega
    · rw [← hp, Sp.pts, List.map_append, List.map_cons]
      unfold Sp.upTo
      simp only [List.append_assoc, List.singleton_append]
      rfl
  · rename_i c1
    have : i = o.length := by omega
    subst this
    rw [Nat.sub_self, Sp.triAt] at ha hp
    exact ⟨hpre (Sp.ends o a b) ⟨hf, ha, ⟨Int.le_refl _, Int.le_refl _, Int.le_refl _⟩⟩, by rw [← hp] at hR; exact hR⟩

theorem blend_Texts.ok (R : List (Int × (Int × Int) × (Int × Int) × Int × Int) → Prop) (o a b : List Str) (h : Sp.blendT.pre o a b) (hR : R (Sp.blendT o a b)) : blend_Texts.vc R o a b := by
  obtain ⟨h1, h2, h3⟩ := h
  have l1 := Sp.lines_size o a
  have l2 := Sp.lines_size o b
  exact ⟨⟨h1, h2⟩, ⟨h1, h3⟩, ⟨h1, h2, h3, by omega, by omega, Sp.lines_rises o a, Sp.lines_rises o b⟩, hR⟩

namespace Sp
abbrev d0 : PartA := (0, (0, 0, 0), (0, 0, 0))
theorem joinOne_len (o a b : List Str) (p : PartA) (h1 : o.length ≤ 1000000) (h2 : a.length ≤ 1000000) (h3 : b.length ≤ 1000000) : (joinOne o a b p).length ≤ 2000000 := by
  have := sub_le o p.2.1.1 p.2.2.1
  have := sub_le a p.2.1.2.1 p.2.2.2.1
  have := sub_le b p.2.1.2.2 p.2.2.2.2
  unfold joinOne
  split
  · omega
  split
  · omega
  split
  · rw [List.length_append]; omega
  · omega
end Sp

theorem blend_Join.ok (R : List (List UInt8) → Int → Prop) (o a b : List Str) (h : Sp.joinP.pre o a b) (hR : R (Sp.joinP o a b).1 (Sp.joinP o a b).2) : blend_Join.vc R o a b := by
  obtain ⟨h1, h2, h3⟩ := h
  have hlen := Sp.partsA_len o a b (Sp.lines o a) (Sp.lines o b)
  have hch := Sp.blend_chn o a b
  have hT : (Sp.blendT o a b).length = (Sp.blendA o a b).length := by unfold Sp.blendT; rw [List.length_map]
  have hA : (Sp.blendA o a b).length ≤ 2 * o.length + 1 := hlen
  refine ⟨⟨h1, h2, h3⟩, ?_⟩
  refine Lp_rule (fun v => ∃ (p : Nat) (out : List Str) (c : Int), v = (o, a, b, c, Sp.blendT o a b, ((Sp.blendT o a b).length : Int), (p : Int), out, ()) ∧ p ≤ (Sp.blendA o a b).length ∧ out.length ≤ 2000000 * p ∧ 0 ≤ c ∧ c ≤ p ∧
      out ++ Sp.joinL o a b ((Sp.blendA o a b).drop p) = (Sp.joinP o a b).1 ∧ c + Sp.clashes ((Sp.blendA o a b).drop p) = (Sp.joinP o a b).2)
    (fun v => (Sp.blendA o a b).length - v.2.2.2.2.2.2.1.toNat) ?_ ⟨0, [], 0, rfl, Nat.zero_le _, Nat.zero_le _, Int.le_refl _, Int.le_refl _, rfl, by rw [List.drop_zero, Int.zero_add]; rfl⟩
  rintro _ K ⟨p, out, c, rfl, hp, ho, hc0, hcp, hj, hc⟩ hK
  simp only [blend_Join.L0, cond_dec, rg64, ix_iff, gr_iff]
  split
  · rename_i c1
    have hp' : p < (Sp.blendA o a b).length := by omega
    rcases hx : nth (Sp.blendA o a b) (p : Int) Sp.d0 with ⟨k, f, t⟩
    have e : nth (Sp.blendT o a b) (p : Int) (0, (0, 0), (0, 0), 0, 0) = (k, (f.1, t.1), (f.2.1, t.2.1), f.2.2, t.2.2) := (Sp.nth_map Sp.toP _ p Sp.d0 _ hp').trans (by rw [hx]; rfl)
    have hin := (Sp.chn_nth (d := Sp.d0) Sp.le0 hch p hp').1
    rw [drop_cons (d := Sp.d0) hp', Sp.joinL] at hj
    rw [drop_cons (d := Sp.d0) hp', Sp.clashes] at hc
    have jl := Sp.joinOne_len o a b (nth (Sp.blendA o a b) (p : Int) Sp.d0) h1 h2 h3
    rw [hx] at hin hj hc jl
    simp only [e]
    obtain ⟨⟨a1, a2, a3⟩, ⟨a4, a5, a6⟩, a7, a8, a9⟩ := hin
    unfold Sp.ends at a7 a8 a9
    simp only at a1 a2 a3 a4 a5 a6 a7 a8 a9
    have po : Sp.ofS.pre o (f.1, t.1) := ⟨a1, a4, a7⟩
    have pa : Sp.ofS.pre a (f.2.1, t.2.1) := ⟨a2, a5, a8⟩
    have pb : Sp.ofS.pre b (f.2.2, t.2.2) := ⟨a3, a6, a9⟩
    have so := Sp.sub_le o f.1 t.1
    have sa := Sp.sub_le a f.2.1 t.2.1
    have sb := Sp.sub_le b f.2.2 t.2.2
    have eo : Sp.ofS o (f.1, t.1) = sub o f.1 t.1 := rfl
    have ea : Sp.ofS a (f.2.1, t.2.1) = sub a f.2.1 t.2.1 := rfl
    have eb : Sp.ofS b (f.2.2, t.2.2) = sub b f.2.2 t.2.2 := rfl
    rw [eo, ea, eb]
    have next (c' : Int) (s : List Str) (hs : s = Sp.joinOne o a b (k, f, t)) (hc' : c' = c + if k = 5 then 1 else 0) : K (o, a, b, c', Sp.blendT o a b, ((Sp.blendT o a b).length : Int), (p : Int) + 1, out ++ s, ()) := by
      subst hs
      refine hK _ ⟨p + 1, _, c', rfl, by omega, by rw [List.length_append]; omega, by split at hc' <;> omega, by split at hc' <;> omega, by rw [List.append_assoc]; exact hj, by rw [← hc, hc']; simp only; omega⟩ (by simp; omega)
    unfold Sp.joinOne at next
    simp only at next
    have hol : out.length ≤ 2000000 * 2000001 := by omega
    refine ⟨by omega, ?_⟩
    by_cases k1 : k = 1
    · rw [if_pos k1]
      subst k1
      exact ⟨po, by omega, by omega, next _ _ (by simp) (by simp)⟩
    rw [if_neg k1]
    by_cases k2 : k = 2
    · rw [if_pos k2]
      subst k2
      exact ⟨pb, by omega, by omega, next _ _ (by simp) (by simp)⟩
    rw [if_neg k2]
    by_cases k5 : k = 5
    · rw [if_pos k5]
      subst k5
      rw [List.append_assoc, List.length_append]
      exact ⟨by omega, pa, by omega, pb, by omega, by omega, next _ _ (by simp) (by simp)⟩
    · rw [if_neg k5]
      exact ⟨pa, by omega, by omega, next _ _ (by simp [k1, k2, k5]) (by simp [k5])⟩
  · rw [drop_end (by omega), Sp.joinL, List.append_nil] at hj
    rw [drop_end (by omega), Sp.clashes, Int.add_zero] at hc
    rw [hj, hc]
    exact hR

theorem blend_Clean_1.ok (R : Bool → Prop) (p : Int × (Int × Int) × (Int × Int) × Int × Int) (hR : R (Sp.isClash p)) : blend_Clean_1.vc R p := hR

theorem slices_IndexFunc_blend_Part_blend_Part.ok (R : Int → Prop) (l : List (Int × (Int × Int) × (Int × Int) × Int × Int)) (h : Sp.idxClash.pre l) (hR : R (Sp.idxClash l)) : slices_IndexFunc_blend_Part_blend_Part.vc R l := by
  unfold Sp.idxClash.pre at h
  refine Lp_rule (fun v => ∃ p : Nat, v = (l, (l.length : Int), (p : Int), ()) ∧ p ≤ l.length ∧ Sp.idxFrom Sp.isClash p (l.drop p) = Sp.idxClash l) (fun v => l.length - v.2.2.1.toNat) ?_ ⟨0, rfl, Nat.zero_le _, rfl⟩
  rintro _ K ⟨p, rfl, hp, ht⟩ hK
  simp only [slices_IndexFunc_blend_Part_blend_Part.L0, rg64, ix_iff]
  rw [cond_dec]
  split
  · rename_i h1
    have h1' : p < l.length := by omega
    refine ⟨by omega, ?_⟩
    rw [drop_cons (d := (0, (0, 0), (0, 0), 0, 0)) h1', Sp.idxFrom] at ht
    cases hc : Sp.isClash (nth l (p : Int) (0, (0, 0), (0, 0), 0, 0)) with
    | true => rw [hc] at ht; rw [← ht] at hR; exact hR
    | false =>
      rw [hc] at ht
      exact ⟨by omega, hK _ ⟨p + 1, rfl, by omega, ht⟩ (by simp; omega)⟩
  · rw [drop_end (by omega)] at ht
    rw [← ht] at hR
    exact hR

theorem slices_ContainsFunc_blend_Part_blend_Part.ok (R : Bool → Prop) (l : List (Int × (Int × Int) × (Int × Int) × Int × Int)) (h : Sp.idxClash.pre l) (hR : R (Sp.hasClash l)) : slices_ContainsFunc_blend_Part_blend_Part.vc R l := by
  refine ⟨h, ?_⟩
  unfold Sp.idxClash
  rw [Sp.idx_any _ _ _ (Int.le_refl 0)]
  exact hR

theorem blend_Clean.ok (R : Bool → Prop) (l : List (Int × (Int × Int) × (Int × Int) × Int × Int)) (h : Sp.cleanP.pre l) (hR : R (Sp.cleanP l)) : blend_Clean.vc R l := ⟨h, hR⟩

theorem rectoref25_fellow.ok (R : Int → Prop) (l : List (Int × Int × Bool)) (at_ : Int) (h : Sp.fellow.pre l at_) (hR : R (Sp.fellow l at_)) : rectoref25_fellow.vc R l at_ := by
  unfold Sp.fellow.pre at h
  refine Lp_rule (fun v => ∃ p : Nat, v = (at_, l, (l.length : Int), (p : Int), ()) ∧ p ≤ l.length ∧ Sp.fellow (l.drop p) at_ = Sp.fellow l at_) (fun v => l.length - v.2.2.2.1.toNat) ?_ ⟨0, rfl, Nat.zero_le _, rfl⟩
  rintro _ K ⟨p, rfl, hp, ht⟩ hK
  simp only [rectoref25_fellow.L0, rg64, ix_iff, cond_dec]
  split
  · rename_i h1
    have h1' : p < l.length := by omega
    refine ⟨by omega, ?_⟩
    rw [drop_cons (d := (0, 0, false)) h1', Sp.fellow] at ht
    split
    · rename_i hc
      rw [if_pos hc] at ht; rw [ht]; exact hR
    · rename_i hc
      rw [if_neg hc] at ht
      exact ⟨by omega, hK _ ⟨p + 1, rfl, by omega, ht⟩ (by simp; omega)⟩
  · rw [drop_end (by omega)] at ht
    rw [← ht] at hR
    exact hR

theorem rectoref25_Triples.ok (R : List (List Int) → Prop) (ours theirs : List (Int × Int × Bool)) (e : List Int) (h : Sp.triplesR.pre ours theirs e) (hR : R (Sp.triplesR ours theirs e)) : rectoref25_Triples.vc R ours theirs e := by
  obtain ⟨h1, h2, h3, h4, h5⟩ := h
  unfold Sp.triplesR at hR
  obtain ⟨n, hn⟩ : ∃ n : Nat, nth e 0 0 = n := ⟨(nth e 0 0).toNat, by omega⟩
  rw [hn, Int.toNat_natCast] at hR
  refine Lp_rule (fun v => ∃ (i : Nat) (out : List (List Int)), v = (ours, theirs, (i : Int), e, out, ()) ∧ i ≤ n ∧ out.length ≤ i ∧ out ++ (Sp.triAt ours theirs (n - i) i).map Sp.triL = (Sp.triAt ours theirs n 0).map Sp.triL) (fun v => n - v.2.2.1.toNat) ?_ ⟨0, [], rfl, Nat.zero_le _, Nat.zero_le _, rfl⟩
  rintro _ K ⟨i, out, rfl, hi, ho, hp⟩ hK
  simp only [rectoref25_Triples.L0, rg64, ix_iff, cond_dec, ln_iff, gr_iff, hn, h1]
  refine ⟨trivial, by omega, by omega, ?_⟩
  split
  · rename_i c1
    refine ⟨by unfold Sp.fellow.pre; omega, by unfold Sp.fellow.pre; omega, ?_⟩
    rw [show n - i = (n - (i + 1)) + 1 from by omega, Sp.triAt] at hp
    split
    · rename_i c2
      split
      · rename_i c3
        rw [if_pos ⟨c2, c3⟩] at hp
        exact ⟨by omega, by omega, hK _ ⟨i + 1, _, rfl, by omega, by rw [List.length_append, List.length_singleton]; omega, by rw [← hp]; simp; rfl⟩ (by simp; omega)⟩
      · rename_i c3
        rw [if_neg (fun hh => c3 hh.2)] at hp
        exact ⟨by omega, hK _ ⟨i + 1, _, rfl, by omega, by omega, hp⟩ (by simp; omega)⟩
    · rename_i c2
      rw [if_neg (fun hh => c2 hh.1)] at hp
      exact ⟨by omega, hK _ ⟨i + 1, _, rfl, by omega, by omega, hp⟩ (by simp; omega)⟩
  · have : i = n := by omega
    subst this
    rw [Nat.sub_self, Sp.triAt, List.map_nil, List.append_nil] at hp
    rw [hp]
    exact ⟨trivial, by rw [← hp]; omega, hR⟩

theorem rectoref25_kind.ok (R : Int → Prop) (oa ob ab : Bool) (hR : R (Sp.kindR oa ob ab)) : rectoref25_kind.vc R oa ob ab := by
  revert hR
  cases oa <;> cases ob <;> cases ab <;> exact id
theorem rectoref25_empty.ok (R : Bool → Prop) (p : Int × List Int × List Int) (hR : R (Sp.emptyR p)) : rectoref25_empty.vc R p := hR

theorem rectoplain_Texts.ok (R : Bool → Prop) (a b : List Str) (h : Sp.eqL.pre a b) (hR : R (Sp.eqL a b)) : rectoplain_Texts.vc R a b := by
  unfold Sp.eqL.pre at h
  unfold Sp.eqL at hR
  have ne (hne : a ≠ b) : R false := by rw [decide_eq_false hne] at hR; exact hR
  refine Lp_rule (fun v => ∃ p : Nat, v = (a, b, (a.length : Int), (p : Int), ()) ∧ p ≤ a.length ∧ p ≤ b.length ∧ a.take p = b.take p) (fun v => a.length - v.2.2.2.1.toNat) ?_ ⟨0, rfl, Nat.zero_le _, Nat.zero_le _, rfl⟩
  rintro _ K ⟨p, rfl, hp, hq, ht⟩ hK
  simp only [rectoplain_Texts.L0, cond_dec, cond_ndec, rg64, ix_iff]
  split
  · rename_i h1
    have h1' : p < a.length := by omega
    split
    · rename_i h2; exact ne fun e => by rw [e] at h1'; omega
    have h2' : p < b.length := by omega
    refine ⟨by omega, by omega, ?_⟩
    split
    · rename_i e1
      refine ⟨by omega, hK _ ⟨p + 1, rfl, by omega, by omega, ?_⟩ (by simp; omega)⟩
      rw [take_succ (d := []) h1', take_succ (d := []) h2', ht, e1]
    · rename_i e1; exact ne fun e => e1 (by rw [e])
  · have : p = a.length := by omega
    subst this
    rw [List.take_length] at ht
    have : decide ((a.length : Int) = b.length) = decide (a = b) := by
      apply decide_eq_decide.2
      constructor
      · intro e; rw [ht, List.take_of_length_le (by omega)]
      · intro e; rw [e]
    rw [this]
    exact hR

namespace Sp
theorem segR {o a b : List Str} {f t : Tri} (h : In o a b f t) : (segA (kdT o a b) f t).map toR = if f = t then [] else
    [(kindR (eqL (sub o f.1 t.1) (sub a f.2.1 t.2.1)) (eqL (sub o f.1 t.1) (sub b f.2.2 t.2.2)) (eqL (sub a f.2.1 t.2.1) (sub b f.2.2 t.2.2)), [f.1, f.2.1, f.2.2], [t.1, t.2.1, t.2.2])] := by
  unfold segA
  have hz := kd_zero h
  by_cases hf : f = t
  · rw [if_pos (hz.2 hf), if_pos hf]; rfl
  · have hk : kdT o a b f t ≠ 0 := fun e => hf (hz.1 e)
    rw [if_neg hk, if_neg hf]
    have : kdT o a b f t = kindOf eqL (sub o f.1 t.1) (sub a f.2.1 t.2.1) (sub b f.2.2 t.2.2) := by
      rcases kind0_or eqL (sub o f.1 t.1) (sub a f.2.1 t.2.1) (sub b f.2.2 t.2.2) with h | h
      · exact absurd h hk
      · exact h
    rw [this]
    rfl
theorem emptyR_eq (k : Int) (f t : Tri) : emptyR (k, [f.1, f.2.1, f.2.2], [t.1, t.2.1, t.2.2]) = decide (f = t) := by
  obtain ⟨f1, f2, f3⟩ := f
  obtain ⟨t1, t2, t3⟩ := t
  simp [emptyR, eqI, Prod.ext_iff]
theorem nth_app_lt {α : Type} {l m : List α} {p : Nat} {d : α} (h : p < l.length) : nth (l ++ m) (p : Int) d = nth l (p : Int) d := by
  rw [nth_lt (by simp; omega), nth_lt h, List.getElem_append_left h]
end Sp

theorem rectoref25_Texts.ok (R : List (Int × List Int × List Int) → Prop) (o a b : List Str) (h : Sp.blendR.pre o a b) (hR : R (Sp.blendR o a b)) : rectoref25_Texts.vc R o a b := by
  obtain ⟨h1, h2, h3⟩ := h
  have l1 := Sp.lines_size o a
  have l2 := Sp.lines_size o b
  have hasc := Sp.blend_asc o a b
  have hn0 : nth [(o.length : Int), (a.length : Int), (b.length : Int)] 0 0 = o.length := rfl
  refine ⟨rfl, ⟨h1, h2⟩, ⟨h1, h3⟩, ⟨rfl, by rw [hn0]; omega, by rw [hn0]; omega, by omega, by omega⟩, ?_⟩
  have hB : Sp.blendR o a b = (Sp.pts (Sp.kdT o a b) (0, 0, 0) (Sp.triAt (Sp.lines o a) (Sp.lines o b) o.length 0) (Sp.ends o a b)).map Sp.toR := rfl
  unfold Sp.triplesR
  rw [hn0, Int.toNat_natCast]
  have htl := Sp.triAt_len (Sp.lines o a) (Sp.lines o b) o.length 0
  generalize Sp.triAt (Sp.lines o a) (Sp.lines o b) o.length 0 = ts at *
  have hL : (ts.map Sp.triL ++ [[(o.length : Int), (a.length : Int), (b.length : Int)]]).length = ts.length + 1 := by simp
  rw [hL]
  refine Lp_rule (fun v => ∃ (p : Nat) (out : List Sp.PartR) (f : Sp.Tri), v = (o, a, b, ts.map Sp.triL ++ [[(o.length : Int), (a.length : Int), (b.length : Int)]], ts.map Sp.triL ++ [[(o.length : Int), (a.length : Int), (b.length : Int)]], ((ts.length + 1 : Nat) : Int), (p : Int), out, [f.1, f.2.1, f.2.2], ()) ∧
      out.length ≤ 2 * p ∧ ((p ≤ ts.length ∧ Sp.Le3 (0, 0, 0) f ∧ Sp.Asc f (ts.drop p) (Sp.ends o a b) ∧ out ++ (Sp.pts (Sp.kdT o a b) f (ts.drop p) (Sp.ends o a b)).map Sp.toR = Sp.blendR o a b) ∨ (p = ts.length + 1 ∧ out = Sp.blendR o a b)))
    (fun v => ts.length + 1 - v.2.2.2.2.2.2.1.toNat) ?_ ⟨0, [], (0, 0, 0), rfl, Nat.zero_le _, .inl ⟨Nat.zero_le _, Sp.le0, hasc, hB.symm⟩⟩
  rintro _ K ⟨p, out, f, rfl, ho, hI⟩ hK
  simp only [rectoref25_Texts.L0]
  rw [cond_dec]
  split
  · rename_i c1
    rcases hI with ⟨hp, h0, ha, hout⟩ | ⟨hp, _⟩
    case inr => omega
    have fin (t : Sp.Tri) (r : List Sp.PartR) (hin : Sp.In o a b f t) (ht : nth (ts.map Sp.triL ++ [[(o.length : Int), (a.length : Int), (b.length : Int)]]) (p : Int) (List.replicate 3 0) = [t.1, t.2.1, t.2.2])
        (h1 : p < ts.length → out ++ ((Sp.segA (Sp.kdT o a b) f t).map Sp.toR ++ (1, [t.1, t.2.1, t.2.2], [t.1 + 1, t.2.1 + 1, t.2.2 + 1]) :: (Sp.pts (Sp.kdT o a b) (Sp.next t) (ts.drop (p + 1)) (Sp.ends o a b)).map Sp.toR) = Sp.blendR o a b ∧ Sp.Asc (Sp.next t) (ts.drop (p + 1)) (Sp.ends o a b))
        (h2 : p = ts.length → out ++ (Sp.segA (Sp.kdT o a b) f t).map Sp.toR = Sp.blendR o a b) : rectoref25_Texts.L0 R o a b (ts.map Sp.triL ++ [[(o.length : Int), (a.length : Int), (b.length : Int)]]) (ts.map Sp.triL ++ [[(o.length : Int), (a.length : Int), (b.length : Int)]]) ((ts.length + 1 : Nat) : Int) (p : Int) out [f.1, f.2.1, f.2.2] K := by
      simp only [rectoref25_Texts.L0]
      rw [cond_dec, if_pos c1]
      rw [Sp.segR hin] at h1 h2
      simp only [ht]
      have n0 (x y z : Int) : nth [x, y, z] 0 0 = x := rfl
      have n1 (x y z : Int) : nth [x, y, z] 1 0 = y := rfl
      have n2 (x y z : Int) : nth [x, y, z] 2 0 = z := rfl
      simp only [n0, n1, n2, List.headD_cons, List.tail_cons, Sp.emptyR_eq, cond_ndec, hL]
      rw [cond_dec, cond_dec]
      have i0 : Ix 0 3 := ⟨by decide, by decide⟩
      have i1 : Ix 1 3 := ⟨by decide, by decide⟩
      have i2 : Ix 2 3 := ⟨by decide, by decide⟩
      obtain ⟨⟨a1, a2, a3⟩, ⟨a4, a5, a6⟩, a7, a8, a9⟩ := hin
      unfold Sp.ends at a7 a8 a9
      simp only at a1 a2 a3 a7 a8 a9
      have so := Sp.sub_le o f.1 t.1
      have sa := Sp.sub_le a f.2.1 t.2.1
      have r1 : Rg .i64 (t.1 + 1) := by rw [rg64]; omega
      have r2 : Rg .i64 (t.2.1 + 1) := by rw [rg64]; omega
      have r3 : Rg .i64 (t.2.2 + 1) := by rw [rg64]; omega
      have r4 : Rg .i64 (((ts.length + 1 : Nat) : Int) - 1) := by rw [rg64]; omega
      have r5 : Rg .i64 ((p : Int) + 1) := by rw [rg64]; omega
      refine ⟨by rw [ix_iff]; omega, rfl, rfl, i0, i0, rfl, i0, i0, ⟨a1, a4, a7⟩, rfl, i1, i1, rfl, i1, i1, ⟨a2, a5, a8⟩, rfl, i2, i2, rfl, i2, i2, ⟨a3, a6, a9⟩,
        by unfold Sp.eqL.pre; omega, by unfold Sp.eqL.pre; omega, by unfold Sp.eqL.pre; omega, rfl, rfl, ?_⟩
      have g1 : Gr out.length 1 56 := by rw [gr_iff]; omega
      have last (out' : List Sp.PartR) (h : p = ts.length) (ho : out' = Sp.blendR o a b) (hl : out'.length ≤ 2 * p + 2) : K (o, a, b, ts.map Sp.triL ++ [[(o.length : Int), (a.length : Int), (b.length : Int)]], ts.map Sp.triL ++ [[(o.length : Int), (a.length : Int), (b.length : Int)]], ((ts.length + 1 : Nat) : Int), (p : Int) + 1, out', [t.1 + 1, t.2.1 + 1, t.2.2 + 1], ()) :=
        hK _ ⟨p + 1, out', Sp.next t, rfl, by omega, .inr ⟨by omega, ho⟩⟩ (by simp; omega)
      have mid (out' : List Sp.PartR) (h : p < ts.length) (ho : out' ++ (Sp.pts (Sp.kdT o a b) (Sp.next t) (ts.drop (p + 1)) (Sp.ends o a b)).map Sp.toR = Sp.blendR o a b) (hl : out'.length ≤ 2 * p + 2) : K (o, a, b, ts.map Sp.triL ++ [[(o.length : Int), (a.length : Int), (b.length : Int)]], ts.map Sp.triL ++ [[(o.length : Int), (a.length : Int), (b.length : Int)]], ((ts.length + 1 : Nat) : Int), (p : Int) + 1, out', [t.1 + 1, t.2.1 + 1, t.2.2 + 1], ()) :=
        hK _ ⟨p + 1, out', Sp.next t, rfl, by omega, .inl ⟨by omega, (Sp.Le3.trans ⟨a1, a2, a3⟩ ⟨a4, a5, a6⟩).trans (Sp.le_next t), (h1 h).2, ho⟩⟩ (by simp; omega)
      by_cases hf : f = t
      · rw [if_pos hf]
        rw [if_pos hf] at h1 h2
        refine ⟨rfl, i0, i0, r1, rfl, i1, i1, r2, rfl, i2, i2, r3, rfl, r4, ?_⟩
        split
        · exact ⟨rfl, rfl, g1, r5, mid _ (by omega) (by rw [List.append_assoc]; exact (h1 (by omega)).1) (by simp; omega)⟩
        · exact ⟨r5, last _ (by omega) (by simpa using h2 (by omega)) (by omega)⟩
      · rw [if_neg hf]
        rw [if_neg hf] at h1 h2
        refine ⟨g1, rfl, i0, i0, r1, rfl, i1, i1, r2, rfl, i2, i2, r3, rfl, r4, ?_⟩
        split
        · exact ⟨rfl, rfl, by rw [gr_iff, List.length_append, List.length_singleton]; omega, r5, mid _ (by omega) (by rw [List.append_assoc, List.append_assoc]; exact (h1 (by omega)).1) (by simp; omega)⟩
        · exact ⟨r5, last _ (by omega) (h2 (by omega)) (by simp; omega)⟩
    have fin' := fin
    simp only [rectoref25_Texts.L0] at fin'
    rw [cond_dec, if_pos c1] at fin'
    by_cases hlt : p < ts.length
    · rw [drop_cons (d := (0, 0, 0)) hlt] at ha hout
      have e : nth (ts.map Sp.triL ++ [[(o.length : Int), (a.length : Int), (b.length : Int)]]) (p : Int) (List.replicate 3 0) = Sp.triL (nth ts (p : Int) (0, 0, 0)) := by
        rw [Sp.nth_app_lt (by simpa using hlt), Sp.nth_map Sp.triL _ _ (0, 0, 0) _ hlt]
      generalize nth ts (p : Int) (0, 0, 0) = t at *
      obtain ⟨b1, b2⟩ := ha
      refine fin' t out ⟨h0, b1, (Sp.le_next t).trans b2.le⟩ e (fun _ => ⟨?_, b2⟩) (fun h => by omega)
      rw [← hout, Sp.pts, List.map_append, List.map_cons]
      rfl
    · have hp' : p = ts.length := by omega
      rw [drop_end (by omega)] at ha hout
      have e : nth (ts.map Sp.triL ++ [[(o.length : Int), (a.length : Int), (b.length : Int)]]) (p : Int) (List.replicate 3 0) = [(Sp.ends o a b).1, (Sp.ends o a b).2.1, (Sp.ends o a b).2.2] := by
        rw [nth_mid _ _ _ _ (by simp; omega)]; rfl
      refine fin' (Sp.ends o a b) out ⟨h0, ha, ⟨Int.le_refl _, Int.le_refl _, Int.le_refl _⟩⟩ e (fun h => by omega) (fun _ => hout)
  · rcases hI with ⟨hp, h0, ha, hout⟩ | ⟨hp, he⟩
    · omega
    · rw [he]; exact hR

theorem rectoref25_Join.ok (R : List (List UInt8) × Int → Prop) (o a b : List Str) (h : Sp.joinR.pre o a b) (hR : R (Sp.joinR o a b)) : rectoref25_Join.vc R o a b := by
  obtain ⟨h1, h2, h3⟩ := h
  have hR' : R ((Sp.joinP o a b).1, (Sp.joinP o a b).2) := hR
  have hlen := Sp.partsA_len o a b (Sp.lines o a) (Sp.lines o b)
  have hch := Sp.blend_chn o a b
  have hT : (Sp.blendR o a b).length = (Sp.blendA o a b).length := by unfold Sp.blendR; rw [List.length_map]
  have hA : (Sp.blendA o a b).length ≤ 2 * o.length + 1 := hlen
  refine ⟨⟨h1, h2, h3⟩, ?_⟩
  refine Lp_rule (fun v => ∃ (p : Nat) (out : List Str) (c : Int), v = (o, a, b, Sp.blendR o a b, ((Sp.blendR o a b).length : Int), (p : Int), 0, [], c, out, ()) ∧ p ≤ (Sp.blendA o a b).length ∧ out.length ≤ 2000000 * p ∧ 0 ≤ c ∧ c ≤ p ∧
      out ++ Sp.joinL o a b ((Sp.blendA o a b).drop p) = (Sp.joinP o a b).1 ∧ c + Sp.clashes ((Sp.blendA o a b).drop p) = (Sp.joinP o a b).2)
    (fun v => (Sp.blendA o a b).length - v.2.2.2.2.2.1.toNat) ?_ ⟨0, [], 0, rfl, Nat.zero_le _, Nat.zero_le _, Int.le_refl _, Int.le_refl _, rfl, by rw [List.drop_zero, Int.zero_add]; rfl⟩
  rintro _ K ⟨p, out, c, rfl, hp, ho, hc0, hcp, hj, hc⟩ hK
  simp only [rectoref25_Join.L0, cond_dec, rg64, ix_iff, gr_iff, sb_iff]
  split
  · rename_i c1
    have hp' : p < (Sp.blendA o a b).length := by omega
    rcases hx : nth (Sp.blendA o a b) (p : Int) Sp.d0 with ⟨k, f, t⟩
    have e : nth (Sp.blendR o a b) (p : Int) (0, List.replicate 3 0, List.replicate 3 0) = (k, [f.1, f.2.1, f.2.2], [t.1, t.2.1, t.2.2]) := (Sp.nth_map Sp.toR _ p Sp.d0 _ hp').trans (by rw [hx]; rfl)
    obtain ⟨hin, hpc⟩ := Sp.chn_nth (d := Sp.d0) Sp.le0 hch p hp'
    rw [drop_cons (d := Sp.d0) hp', Sp.joinL] at hj
    rw [drop_cons (d := Sp.d0) hp', Sp.clashes] at hc
    have jl := Sp.joinOne_len o a b (nth (Sp.blendA o a b) (p : Int) Sp.d0) h1 h2 h3
    rw [hx] at hin hj hc jl hpc
    simp only [e, List.headD_cons, List.tail_cons]
    obtain ⟨⟨a1, a2, a3⟩, ⟨a4, a5, a6⟩, a7, a8, a9⟩ := hin
    unfold Sp.ends at a7 a8 a9
    simp only at a1 a2 a3 a4 a5 a6 a7 a8 a9
    have so := Sp.sub_le o f.1 t.1
    have sa := Sp.sub_le a f.2.1 t.2.1
    have sb := Sp.sub_le b f.2.2 t.2.2
    have next (c' : Int) (s : List Str) (hs : s = Sp.joinOne o a b (k, f, t)) (hc' : c' = c + if k = 5 then 1 else 0) : K (o, a, b, Sp.blendR o a b, ((Sp.blendR o a b).length : Int), (p : Int) + 1, 0, [], c', out ++ s, ()) := by
      subst hs
      refine hK _ ⟨p + 1, _, c', rfl, by omega, by rw [List.length_append]; omega, by split at hc' <;> omega, by split at hc' <;> omega, by rw [List.append_assoc]; exact hj, by rw [← hc, hc']; simp only; omega⟩ (by simp; omega)
    unfold Sp.joinOne at next
    simp only at next
    have hol : out.length ≤ 2000000 * 2000001 := by omega
    refine ⟨by omega, by omega, by omega, by omega, by omega, by omega, by omega, ?_⟩
    by_cases k1 : k = 1
    · rw [if_pos k1]
      subst k1
      rcases hpc with ⟨_, hn, g1, _, _⟩ | ⟨_, g2, _⟩
      · simp only at hn g1
        refine ⟨by omega, by omega, by omega, by omega, ?_⟩
        rw [← Sp.sub_one [] a1 g1]
        exact next _ _ (by rw [hn]; simp [Sp.next]) (by simp)
      · simp at g2
    rw [if_neg k1]
    by_cases k2 : k = 2
    · rw [if_pos k2]
      subst k2
      exact ⟨by omega, by omega, next _ _ (by simp) (by simp)⟩
    rw [if_neg k2]
    by_cases k3 : k = 3
    · rw [if_pos k3, if_pos k3]
      subst k3
      exact ⟨by omega, by omega, next _ _ (by simp) (by simp)⟩
    rw [if_neg k3]
    by_cases k4 : k = 4
    · rw [if_pos k4]
      subst k4
      exact ⟨by omega, by omega, next _ _ (by simp) (by simp)⟩
    rw [if_neg k4]
    by_cases k5 : k = 5
    · rw [if_pos k5]
      subst k5
      rw [List.append_assoc, List.length_append]
      exact ⟨by omega, by omega, by omega, by omega, next _ _ (by simp) (by simp)⟩
    · rcases hpc with ⟨g, _⟩ | ⟨_, g2, g3⟩
      · exact absurd g k1
      · simp only at g2 g3; omega
  · rw [drop_end (by omega), Sp.joinL, List.append_nil] at hj
    rw [drop_end (by omega), Sp.clashes, Int.add_zero] at hc
    rw [hj, hc]
    exact hR'

theorem rectolaw25_long.ok (R : Bool → Prop) (l : List Str) (hR : R (Sp.long40 l)) : rectolaw25_long.vc R l := hR

namespace Sp
theorem same25_len : ∀ (a : List Part) (b : List PartR), a.length ≠ b.length → same25 a b = false
  | [], [], h => absurd rfl h
  | [], _ :: _, _ => rfl
  | _ :: _, [], _ => rfl
  | p :: a, q :: b, h => by
    rw [same25, same25_len a b (by simpa using h), Bool.and_false]
theorem same25_nth : ∀ (a : List Part) (b : List PartR) (p : Nat) (da : Part) (db : PartR), p < a.length → p < b.length → samePR (nth a (p : Int) da) (nth b (p : Int) db) = false → same25 a b = false
  | x :: a, y :: b, 0, da, db, _, _, h => by
    have h' : samePR x y = false := h
    rw [same25, h', Bool.false_and]
  | x :: a, y :: b, p + 1, da, db, h1, h2, h => by
    rw [same25, same25_nth a b p da db (by simpa using h1) (by simpa using h2) h, Bool.and_false]
theorem same25_all (a : List Part) (b : List PartR) (da : Part) (db : PartR) : a.length = b.length → (∀ p, p < a.length → samePR (nth a (p : Int) da) (nth b (p : Int) db) = true) → same25 a b = true := by
  induction a generalizing b with
  | nil => intro h _; cases b with | nil => rfl | cons _ _ => simp at h
  | cons x a ih =>
    intro h hp
    cases b with
    | nil => simp at h
    | cons y b =>
      have h0 : samePR x y = true := hp 0 (by simp)
      rw [same25, h0, Bool.true_and]
      exact ih b (by simpa using h) fun p hl => hp (p + 1) (by simpa using hl)
end Sp

theorem rectolaw25_same.ok (R : Bool → Prop) (a : List (Int × (Int × Int) × (Int × Int) × Int × Int)) (b : List (Int × List Int × List Int)) (h : Sp.same25.pre a b) (hR : R (Sp.same25 a b)) : rectolaw25_same.vc R a b := by
  unfold Sp.same25.pre at h
  refine Lp_rule (fun v => ∃ p : Nat, v = (a, b, a, (a.length : Int), (p : Int), ()) ∧ p ≤ a.length ∧ p ≤ b.length ∧ ∀ q, q < p → Sp.samePR (nth a (q : Int) (0, (0, 0), (0, 0), 0, 0)) (nth b (q : Int) (0, List.replicate 3 0, List.replicate 3 0)) = true) (fun v => a.length - v.2.2.2.2.1.toNat) ?_ ⟨0, rfl, Nat.zero_le _, Nat.zero_le _, fun q hq => absurd hq (Nat.not_lt_zero _)⟩
  rintro _ K ⟨p, rfl, hp, hq, ht⟩ hK
  simp only [rectolaw25_same.L0]
  rw [cond_dec]
  split
  · rename_i h1
    have h1' : p < a.length := by omega
    rw [cond_dec]
    refine ⟨by rw [ix_iff]; omega, ?_⟩
    split
    · rename_i h2
      rw [Sp.same25_len a b (by omega)] at hR
      exact hR
    rename_i h2
    have h2' : p < b.length := by omega
    have ix : Ix (p : Int) b.length := by rw [ix_iff]; omega
    refine ⟨ix, ?_⟩
    have no (hne : Sp.samePR (nth a (p : Int) (0, (0, 0), (0, 0), 0, 0)) (nth b (p : Int) (0, List.replicate 3 0, List.replicate 3 0)) = false) : R false := by
      rw [Sp.same25_nth a b p _ _ h1' h2' hne] at hR; exact hR
    have nx := ht
    generalize hx : nth a (p : Int) (0, (0, 0), (0, 0), 0, 0) = x at *
    generalize hy : nth b (p : Int) (0, List.replicate 3 0, List.replicate 3 0) = y at *
    have ek : eqI x.1 y.1 = decide (x.1 = y.1) := rfl
    unfold Sp.samePR at no
    rw [← ek]
    cases e1 : eqI x.1 y.1 with
    | false => exact no (by rw [e1, Bool.false_and])
    | true =>
      refine ⟨ix, ?_⟩
      rw [e1, Bool.true_and] at no
      have e2' : ((List.zipWith (fun x x_1 => eqI x x_1) [x.2.1.1, x.2.2.1.1, x.2.2.2.1] y.2.1).all fun a => a) = (List.zipWith eqI [x.2.1.1, x.2.2.1.1, x.2.2.2.1] y.2.1).all id := rfl
      have e3' : ((List.zipWith (fun x x_1 => eqI x x_1) [x.2.1.2, x.2.2.1.2, x.2.2.2.2] y.2.2).all fun a => a) = (List.zipWith eqI [x.2.1.2, x.2.2.1.2, x.2.2.2.2] y.2.2).all id := rfl
      rw [e2', e3']
      cases e2 : (List.zipWith eqI [x.2.1.1, x.2.2.1.1, x.2.2.2.1] y.2.1).all id with
      | false => exact no (by rw [e2, Bool.false_and])
      | true =>
        rw [e2, Bool.true_and] at no
        refine ⟨ix, ?_⟩
        cases e3 : (List.zipWith eqI [x.2.1.2, x.2.2.1.2, x.2.2.2.2] y.2.2).all id with
        | false => exact no e3
        | true =>
          refine ⟨by rw [rg64]; omega, hK _ ⟨p + 1, rfl, by omega, by omega, fun q hq => ?_⟩ (by simp; omega)⟩
          by_cases hqp : q = p
          · subst hqp
            rw [hx, hy]
            unfold Sp.samePR
            rw [e1, e2, e3]; rfl
          · exact ht q (by omega)
  · have : p = a.length := by omega
    subst this
    by_cases hl : a.length = b.length
    · rw [Sp.same25_all a b _ _ hl ht] at hR
      rw [decide_eq_true (by omega)]; exact hR
    · rw [Sp.same25_len a b hl] at hR
      rw [decide_eq_false (by omega)]; exact hR

theorem rectolaw25_turned.ok (R : Int → Prop) (kind : Int) (hR : R (Sp.turned kind)) : rectolaw25_turned.vc R kind := by
  unfold rectolaw25_turned.vc
  unfold Sp.turned at hR
  simp only [cond_dec]
  split
  · rename_i h; rw [if_pos h] at hR; exact hR
  · rename_i h
    rw [if_neg h] at hR
    split
    · rename_i h; rw [if_pos h] at hR; exact hR
    · rename_i h; rw [if_neg h] at hR; exact hR


namespace Sp
theorem joinL_len {o a b : List Str} : ∀ {l : List PartA} {f : Tri}, Le3 (0, 0, 0) f → Chn o a b f l → ((joinL o a b l).length : Int) ≤ (o.length - f.1) + (a.length - f.2.1) + (b.length - f.2.2)
  | [], f, _, h => by cases h; simp [joinL, ends]
  | p :: r, f, h0, ⟨h1, h2, h3, h4, h5⟩ => by
    have ih := joinL_len (h0.trans h2) h5
    have hl := Chn.le h5
    rw [joinL, List.length_append]
    cases h1
    obtain ⟨k, f, t⟩ := p
    simp only at *
    obtain ⟨a1, a2, a3⟩ := h0
    obtain ⟨a4, a5, a6⟩ := h2
    obtain ⟨a7, a8, a9⟩ := hl
    unfold ends at a7 a8 a9
    simp only at *
    have s1 := sub_len a1 a4 a7
    have s2 := sub_len a2 a5 a8
    have s3 := sub_len a3 a6 a9
    have : ((joinOne o a b (k, f, t)).length : Int) ≤ (t.1 - f.1) + (t.2.1 - f.2.1) + (t.2.2 - f.2.2) := by
      unfold joinOne
      simp only
      split
      · omega
      split
      · omega
      split
      · rw [List.length_append]; omega
      · omega
    omega
theorem joinP_len (o a b : List Str) : (joinP o a b).1.length ≤ o.length + a.length + b.length := by
  have := joinL_len le0 (blend_chn o a b)
  unfold joinP
  simp only at *
  omega
theorem blendT_len (o a b : List Str) : (blendT o a b).length ≤ 2 * o.length + 1 := by
  unfold blendT; rw [List.length_map]; exact partsA_len o a b _ _
theorem same_maps : ∀ l : List PartA, same25 (l.map toP) (l.map toR) = true
  | [] => rfl
  | p :: l => by
    rw [List.map_cons, List.map_cons, same25, same_maps l, Bool.and_true]
    simp [samePR, toP, toR, eqI]
theorem clash_any : ∀ l : List PartA, 0 ≤ clashes l ∧ ((!(l.map toP).any isClash) = decide (clashes l = 0))
  | [] => ⟨Int.le_refl _, rfl⟩
  | p :: l => by
    obtain ⟨h1, h2⟩ := clash_any l
    rw [clashes, List.map_cons, List.any_cons, Bool.not_or, h2]
    have e : isClash (toP p) = decide (p.1 = 5) := rfl
    rw [e]
    by_cases h : p.1 = 5
    · rw [if_pos h, decide_eq_true h]
      refine ⟨by omega, ?_⟩
      rw [decide_eq_false (by omega : ¬ (1 + clashes l = 0))]; rfl
    · rw [if_neg h, decide_eq_false h, Int.zero_add]
      exact ⟨h1, rfl⟩
end Sp

theorem rectolaw25_four.ok (R : Bool → Prop) (hR : R Sp.tt) : rectolaw25_four.vc R := by
  refine ⟨?_, ?_, ?_, ⟨by decide, by decide⟩, ?_, ?_, hR⟩
  · exact ⟨by decide, by decide, by decide⟩
  · exact ⟨by decide, by decide, by decide⟩
  · have := Sp.joinP_len [[97], [98], [99]] [[97], [120], [99]] [[97], [98], [99], [100]]
    simp only [List.length_cons, List.length_nil] at this
    unfold Sp.eqL.pre; omega
  · have := Sp.blendT_len [[97]] [[98]] [[99]]
    simp only [List.length_cons, List.length_nil] at this
    unfold Sp.cleanP.pre; omega
  · unfold Sp.cleanP.pre; decide

theorem rectolaw25_BlendTexts.ok (R : Bool → Prop) (o a b : List Str) (_ : Sz (.sl .str) o ∧ Sz (.sl .str) a ∧ Sz (.sl .str) b) (hR : R Sp.tt) : rectolaw25_BlendTexts.vc R o a b := by
  unfold rectolaw25_BlendTexts.vc Sp.long40
  rw [cond_dec, cond_dec, cond_dec]
  split
  · exact hR
  split
  · exact hR
  split
  · exact hR
  have l1 := Sp.joinP_len o a b
  have l2 := Sp.blendT_len o a b
  have e0 : Sp.joinR o a b = Sp.joinP o a b := rfl
  have e1 : Sp.same25 (Sp.blendT o a b) (Sp.blendR o a b) = true := Sp.same_maps _
  have e2 (x : List Str) : Sp.eqL x x = true := decide_eq_true rfl
  have e3 : Sp.cleanP (Sp.blendT o a b) = decide ((Sp.joinP o a b).2 = 0) := (Sp.clash_any _).2
  have e4 (x : Bool) : eqB x x = true := by cases x <;> rfl
  rw [e0, e1, e2, e3, e4, decide_eq_true rfl]
  exact ⟨⟨by omega, by omega, by omega⟩, ⟨by omega, by omega, by omega⟩, ⟨by omega, by omega, by omega⟩, ⟨by omega, by omega, by omega⟩, by unfold Sp.same25.pre; omega, by unfold Sp.eqL.pre; omega, by unfold Sp.cleanP.pre; omega, hR⟩

theorem rectolaw25_BlendGoes.ok (R : Bool → Prop) (o a b : List Str) (_ : Sz (.sl .str) o ∧ Sz (.sl .str) a ∧ Sz (.sl .str) b) (hR : R Sp.tt) : rectolaw25_BlendGoes.vc R o a b := by
  unfold rectolaw25_BlendGoes.vc Sp.long40
  rw [cond_dec, cond_dec, cond_dec]
  split
  · exact hR
  split
  · exact hR
  split
  · exact hR
  have l2 := Sp.blendT_len o a b
  have hT : (Sp.blendT o a b).length = (Sp.blendA o a b).length := by unfold Sp.blendT; rw [List.length_map]
  refine ⟨⟨by omega, by omega, by omega⟩, ?_⟩
  refine Lp_rule (fun v => ∃ (p : Nat) (f : Sp.Tri), v = (o, a, b, f.1, f.2.1, f.2.2, Sp.blendT o a b, ((Sp.blendT o a b).length : Int), (p : Int), ()) ∧ p ≤ (Sp.blendA o a b).length ∧ Sp.Chn o a b f ((Sp.blendA o a b).drop p))
    (fun v => (Sp.blendA o a b).length - v.2.2.2.2.2.2.2.2.1.toNat) ?_ ⟨0, (0, 0, 0), rfl, Nat.zero_le _, Sp.blend_chn o a b⟩
  rintro _ K ⟨p, f, rfl, hp, hc⟩ hK
  dsimp only
  unfold rectolaw25_BlendGoes.L0
  rw [cond_dec]
  split
  · rename_i c1
    have hp' : p < (Sp.blendA o a b).length := by omega
    rw [drop_cons (d := Sp.d0) hp'] at hc
    rcases hx : nth (Sp.blendA o a b) (p : Int) Sp.d0 with ⟨k, g, t⟩
    have e : nth (Sp.blendT o a b) (p : Int) (0, (0, 0), (0, 0), 0, 0) = (k, (g.1, t.1), (g.2.1, t.2.1), g.2.2, t.2.2) := (Sp.nth_map Sp.toP _ p Sp.d0 _ hp').trans (by rw [hx]; rfl)
    rw [hx] at hc
    obtain ⟨g1, ⟨g2, g3, g4⟩, g5, g6, g7⟩ := hc
    simp only at g1 g2 g3 g4 g5 g6 g7
    subst g1
    have hk : 1 ≤ k ∧ k ≤ 5 := by
      rcases g6 with ⟨h, _⟩ | ⟨_, h, h'⟩
      · simp only at h; omega
      · simp only at h h'; omega
    have nx : K (o, a, b, t.1, t.2.1, t.2.2, Sp.blendT o a b, ((Sp.blendT o a b).length : Int), (p : Int) + 1, ()) := hK _ ⟨p + 1, t, rfl, by omega, g7⟩ (by simp; omega)
    rw [e]
    refine ⟨by rw [ix_iff]; omega, ?_⟩
    simp only [cond_dec, cond_ndec, rg64]
    rw [if_pos trivial, if_pos trivial, if_pos trivial, if_neg (by omega), if_neg (by omega), if_neg (by omega), if_neg (by omega), if_neg (by omega)]
    split
    · split
      · split
        · exact absurd (Prod.ext (by assumption) (Prod.ext (by assumption) (by assumption))) g5
        · exact ⟨by omega, nx⟩
      · exact ⟨by omega, nx⟩
    · exact ⟨by omega, nx⟩
  · rw [drop_end (by omega)] at hc
    cases hc
    simp only [Sp.ends, cond_dec]
    rw [if_pos trivial, if_pos trivial, if_pos trivial]
    exact hR

namespace Sp
/-- Each piece of a chain: a place of its own, or a seam between places. -/
theorem pts_all {o a b : List Str} (Q : Tri → Prop) (hn : ∀ t, Q t → Q (next t)) : ∀ {ts : List Tri} {f e : Tri}, Q f → (∀ t ∈ ts, Q t) → Q e →
    ∀ p ∈ pts (kdT o a b) f ts e, Q p.2.1 ∧ Q p.2.2 ∧ ((p.1 = 1 ∧ p.2.1 ∈ ts ∧ p.2.2 = next p.2.1) ∨ (p.1 ≠ 0 ∧ p.1 = kdT o a b p.2.1 p.2.2))
  | [], f, e, h1, _, h3, p, hp => by
    rw [pts, segA] at hp
    split at hp
    · cases hp
    · rename_i h0
      cases List.mem_singleton.1 hp
      exact ⟨h1, h3, .inr ⟨h0, rfl⟩⟩
  | t :: ts, f, e, h1, h2, h3, p, hp => by
    rw [pts, List.mem_append, List.mem_cons] at hp
    rcases hp with hp | rfl | hp
    · rw [segA] at hp
      split at hp
      · cases hp
      · rename_i h0
        cases List.mem_singleton.1 hp
        exact ⟨h1, h2 t List.mem_cons_self, .inr ⟨h0, rfl⟩⟩
    · exact ⟨h2 t List.mem_cons_self, hn t (h2 t List.mem_cons_self), .inl ⟨rfl, List.mem_cons_self, rfl⟩⟩
    · have := pts_all Q hn (hn t (h2 t List.mem_cons_self)) (fun x hx => h2 x (List.mem_cons_of_mem _ hx)) h3 p hp
      obtain ⟨r1, r2, r3⟩ := this
      refine ⟨r1, r2, ?_⟩
      rcases r3 with ⟨r4, r5, r6⟩ | r3
      · exact .inl ⟨r4, List.mem_cons_of_mem _ r5, r6⟩
      · exact .inr r3
theorem triAt_mem (ours theirs : List Pair) : ∀ (k : Nat) (i : Int) (t : Tri), t ∈ triAt ours theirs k i → i ≤ t.1 ∧ t.1 < i + k ∧ t.2.1 = fellow ours t.1 ∧ t.2.2 = fellow theirs t.1 ∧ 0 ≤ t.2.1 ∧ 0 ≤ t.2.2
  | 0, i, t, h => by rw [triAt] at h; cases h
  | k + 1, i, t, h => by
    rw [triAt] at h
    split at h
    · rename_i hc
      rcases List.mem_cons.1 h with rfl | h
      · exact ⟨Int.le_refl _, by simp only; omega, rfl, rfl, hc.1, hc.2⟩
      · have := triAt_mem ours theirs k (i + 1) t h
        exact ⟨by omega, by omega, this.2.2⟩
    · have := triAt_mem ours theirs k (i + 1) t h
      exact ⟨by omega, by omega, this.2.2⟩
/-- Pieces whose lines are one list's own, joined. -/
theorem one_join {o a b : List Str} (l' : List Str) (w : Tri → Int) (hw : ∀ f t, Le3 f t → w f ≤ w t) (hw0 : ∀ f, Le3 (0, 0, 0) f → 0 ≤ w f) (he : w (ends o a b) = l'.length) : ∀ {l : List PartA} {f : Tri}, Le3 (0, 0, 0) f → Chn o a b f l →
    (∀ p ∈ l, Le3 (0, 0, 0) p.2.1 → Le3 p.2.1 p.2.2 → Le3 p.2.2 (ends o a b) → joinOne o a b p = sub l' (w p.2.1) (w p.2.2) ∧ p.1 ≠ 5) → joinL o a b l = sub l' (w f) l'.length ∧ clashes l = 0
  | [], f, _, h, _ => by cases h; rw [he, sub_self]; exact ⟨rfl, rfl⟩
  | p :: r, f, h0, ⟨h1, h2, h3, h4, h5⟩, hp => by
    cases h1
    have hl := Chn.le h5
    obtain ⟨r1, r2⟩ := one_join l' w hw hw0 he (h0.trans h2) h5 fun q hq => hp q (List.mem_cons_of_mem _ hq)
    obtain ⟨s1, s2⟩ := hp p List.mem_cons_self h0 h2 hl
    rw [joinL, clashes, r1, r2, s1, if_neg s2]
    refine ⟨sub_cat (hw0 _ h0) (hw _ _ h2) ?_ (Int.le_refl _), rfl⟩
    rw [← he]; exact hw _ _ hl
theorem eqL_refl (x : List Str) : eqL x x = true := decide_eq_true rfl
theorem kd_of {o a b : List Str} {f t : Tri} (h : kdT o a b f t ≠ 0) : kdT o a b f t = kindOf eqL (sub o f.1 t.1) (sub a f.2.1 t.2.1) (sub b f.2.2 t.2.2) := by
  rcases kind0_or eqL (sub o f.1 t.1) (sub a f.2.1 t.2.1) (sub b f.2.2 t.2.2) with e | e
  · exact absurd e h
  · exact e
theorem blend_all (o a b : List Str) (Q : Tri → Prop) (hn : ∀ t, Q t → Q (next t)) (h0 : Q (0, 0, 0)) (ht : ∀ t ∈ triAt (lines o a) (lines o b) o.length 0, Q t) (he : Q (ends o a b)) :
    ∀ p ∈ blendA o a b, Q p.2.1 ∧ Q p.2.2 ∧ ((p.1 = 1 ∧ p.2.1 ∈ triAt (lines o a) (lines o b) o.length 0 ∧ p.2.2 = next p.2.1) ∨ (p.1 ≠ 0 ∧ p.1 = kdT o a b p.2.1 p.2.2)) := pts_all Q hn h0 ht he
theorem le_a {f t : Tri} (h : Le3 f t) : f.2.1 ≤ t.2.1 := h.2.1
theorem le_b {f t : Tri} (h : Le3 f t) : f.2.2 ≤ t.2.2 := h.2.2
/-- One side alone changed. -/
theorem one_theirs (o a : List Str) : joinP o o a = (a, 0) := by
  have key : joinL o o a (blendA o o a) = sub a 0 a.length ∧ clashes (blendA o o a) = 0 := by
    refine one_join a (fun t => t.2.2) (fun _ _ => le_b) (fun _ => le_b) rfl le0 (blend_chn o o a) fun p hp g0 g1 g2 => ?_
    have hq := blend_all o o a (fun t => t.1 = t.2.1) (fun t h => by simp only [next]; omega) rfl (fun t ht => by
      obtain ⟨m1, m2, m3, _⟩ := triAt_mem _ _ _ _ _ ht
      rw [m3]
      exact (fellow_same o 0 t.1 m1 m2).symm) rfl p hp
    obtain ⟨k, f, t⟩ := p
    obtain ⟨q1, q2, q3⟩ := hq
    simp only at *
    unfold joinOne
    simp only
    rcases q3 with ⟨rfl, q4, rfl⟩ | ⟨q3, q4⟩
    · rw [if_pos rfl]
      obtain ⟨m1, m2, m3, m4, m5, m6⟩ := triAt_mem _ _ _ _ _ q4
      unfold Le3 ends next at g2
      simp only [next] at *
      rw [sub_one [] m1 (by omega), sub_one [] m6 (by omega), m4, lines_eq o a f.1 (by omega)]
      exact ⟨rfl, by decide⟩
    · have := kd_of (q4 ▸ q3)
      rw [← q4, q1, q2, kindOf, eqL_refl, cond_true] at this
      subst this
      exact ⟨rfl, by decide⟩
  unfold joinP
  rw [key.1, key.2, sub_all]
theorem one_ours (o a : List Str) : joinP o a o = (a, 0) := by
  have key : joinL o a o (blendA o a o) = sub a 0 a.length ∧ clashes (blendA o a o) = 0 := by
    refine one_join a (fun t => t.2.1) (fun _ _ => le_a) (fun _ => le_a) rfl le0 (blend_chn o a o) fun p hp g0 g1 g2 => ?_
    have hq := blend_all o a o (fun t => t.1 = t.2.2) (fun t h => by simp only [next]; omega) rfl (fun t ht => by
      obtain ⟨m1, m2, _, m3, _⟩ := triAt_mem _ _ _ _ _ ht
      rw [m3]
      exact (fellow_same o 0 t.1 m1 m2).symm) rfl p hp
    obtain ⟨k, f, t⟩ := p
    obtain ⟨q1, q2, q3⟩ := hq
    simp only at *
    unfold joinOne
    simp only
    rcases q3 with ⟨rfl, q4, rfl⟩ | ⟨q3, q4⟩
    · rw [if_pos rfl]
      obtain ⟨m1, m2, m3, m4, m5, m6⟩ := triAt_mem _ _ _ _ _ q4
      unfold Le3 ends next at g2
      simp only [next] at *
      rw [sub_one [] m1 (by omega), sub_one [] m5 (by omega), m3, lines_eq o a f.1 (by omega)]
      exact ⟨rfl, by decide⟩
    · have := kd_of (q4 ▸ q3)
      rw [← q4, ← q1, ← q2, kindOf, eqL_refl, cond_true] at this
      cases he : eqL (sub o f.1 t.1) (sub a f.2.1 t.2.1) with
      | true =>
        rw [he] at this
        have hk : k = 2 := this
        subst hk
        rw [← q1, ← q2, of_decide_eq_true he]
        exact ⟨rfl, by decide⟩
      | false =>
        rw [he] at this
        have hk : k = 3 := this
        subst hk
        exact ⟨rfl, by decide⟩
  unfold joinP
  rw [key.1, key.2, sub_all]
theorem triAt_same (l : List Pair) (n : Nat) : ∀ t ∈ triAt l l n 0, t.2.1 = t.2.2 := fun t ht => by
  obtain ⟨_, _, m1, m2, _⟩ := triAt_mem _ _ _ _ _ ht
  rw [m1, m2]
theorem one_both (o a : List Str) : joinP o a a = (a, 0) := by
  have key : joinL o a a (blendA o a a) = sub a 0 a.length ∧ clashes (blendA o a a) = 0 := by
    refine one_join a (fun t => t.2.1) (fun _ _ => le_a) (fun _ => le_a) rfl le0 (blend_chn o a a) fun p hp g0 g1 g2 => ?_
    have hq := blend_all o a a (fun t => t.2.1 = t.2.2) (fun t h => by simp only [next]; omega) rfl (triAt_same _ _) rfl p hp
    obtain ⟨k, f, t⟩ := p
    obtain ⟨q1, q2, q3⟩ := hq
    simp only at *
    unfold joinOne
    simp only
    rcases q3 with ⟨rfl, q4, rfl⟩ | ⟨q3, q4⟩
    · rw [if_pos rfl]
      obtain ⟨m1, m2, m3, m4, m5, m6⟩ := triAt_mem _ _ _ _ _ q4
      unfold Le3 ends next at g2
      simp only [next] at *
      rw [sub_one [] m1 (by omega), sub_one [] m5 (by omega), m3, lines_eq o a f.1 (by omega)]
      exact ⟨rfl, by decide⟩
    · have := kd_of (q4 ▸ q3)
      rw [← q4, ← q1, ← q2, kindOf, eqL_refl, cond_true] at this
      cases he : eqL (sub o f.1 t.1) (sub a f.2.1 t.2.1) with
      | true =>
        rw [he] at this
        have hk : k = 2 := this
        subst hk
        rw [← q1, ← q2]
        exact ⟨rfl, by decide⟩
      | false =>
        rw [he] at this
        have hk : k = 4 := this
        subst hk
        exact ⟨rfl, by decide⟩
  unfold joinP
  rw [key.1, key.2, sub_all]
end Sp

theorem rectolaw25_BlendOne.ok (R : Bool → Prop) (o a : List Str) (_ : Sz (.sl .str) o ∧ Sz (.sl .str) a) (hR : R Sp.tt) : rectolaw25_BlendOne.vc R o a := by
  unfold rectolaw25_BlendOne.vc Sp.long40
  rw [cond_dec, cond_dec]
  split
  · exact hR
  split
  · exact hR
  rw [Sp.one_theirs, Sp.one_ours, Sp.one_both, Sp.eqL_refl]
  have p : Sp.eqL.pre a a := by unfold Sp.eqL.pre; omega
  exact ⟨⟨by omega, by omega, by omega⟩, ⟨by omega, by omega, by omega⟩, ⟨by omega, by omega, by omega⟩, p, p, p, hR⟩

namespace Sp
def swap (t : Tri) : Tri := (t.1, t.2.2, t.2.1)
theorem eqL_comm (x y : List Str) : eqL x y = eqL y x := decide_eq_decide.2 ⟨Eq.symm, Eq.symm⟩
/-- One piece, and the same one turned. -/
def Tw (o a b : List Str) (p q : PartA) : Prop := q.2.1 = swap p.2.1 ∧ q.2.2 = swap p.2.2 ∧ ((p.1 = 1 ∧ q.1 = 1) ∨ (p.1 = kdT o a b p.2.1 p.2.2 ∧ q.1 = kdT o b a q.2.1 q.2.2 ∧ p.1 ≠ 0 ∧ q.1 ≠ 0))
def Tws (o a b : List Str) : List PartA → List PartA → Prop
  | [], [] => True
  | p :: l, q :: m => Tw o a b p q ∧ Tws o a b l m
  | _, _ => False
theorem Tws.len {o a b : List Str} : ∀ {l m : List PartA}, Tws o a b l m → l.length = m.length
  | [], [], _ => rfl
  | _ :: l, _ :: m, h => by rw [List.length_cons, List.length_cons, Tws.len h.2]
theorem Tws.nth {o a b : List Str} {d : PartA} : ∀ {l m : List PartA}, Tws o a b l m → ∀ p, p < l.length → Tw o a b (nth l (p : Int) d) (nth m (p : Int) d)
  | x :: l, y :: m, h, 0, _ => h.1
  | x :: l, y :: m, h, p + 1, hp => Tws.nth h.2 p (by simpa using hp)
theorem kd_swap (o a b : List Str) (f t : Tri) : kdT o a b f t = 0 ↔ kdT o b a (swap f) (swap t) = 0 := by
  unfold kdT swap
  rw [kind0_zero, kind0_zero]
  exact ⟨fun h => ⟨h.1, h.2.2, h.2.1⟩, fun h => ⟨h.1, h.2.2, h.2.1⟩⟩
theorem seg_swap {o a b : List Str} {l m : List PartA} (h : Tws o a b l m) (f t : Tri) : Tws o a b (segA (kdT o a b) f t ++ l) (segA (kdT o b a) (swap f) (swap t) ++ m) := by
  unfold segA
  by_cases hk : kdT o a b f t = 0
  · rw [if_pos hk, if_pos ((kd_swap o a b f t).1 hk)]; exact h
  · have hk' : ¬ kdT o b a (swap f) (swap t) = 0 := fun e => hk ((kd_swap o a b f t).2 e)
    rw [if_neg hk, if_neg hk']
    exact ⟨⟨rfl, rfl, .inr ⟨rfl, rfl, hk, hk'⟩⟩, h⟩
theorem pts_swap (o a b : List Str) : ∀ (ts : List Tri) (f e : Tri), Tws o a b (pts (kdT o a b) f ts e) (pts (kdT o b a) (swap f) (ts.map swap) (swap e))
  | [], f, e => by
    have := seg_swap (o := o) (a := a) (b := b) (l := []) (m := []) trivial f e
    rw [List.append_nil, List.append_nil] at this
    exact this
  | t :: ts, f, e => seg_swap (l := (1, t, next t) :: pts (kdT o a b) (next t) ts e) (m := (1, swap t, next (swap t)) :: pts (kdT o b a) (next (swap t)) (ts.map swap) (swap e)) ⟨⟨rfl, rfl, .inl ⟨rfl, rfl⟩⟩, pts_swap o a b ts (next t) e⟩ f t
theorem triAt_swap (ours theirs : List Pair) : ∀ (k : Nat) (i : Int), triAt theirs ours k i = (triAt ours theirs k i).map swap
  | 0, _ => rfl
  | k + 1, i => by
    rw [triAt, triAt, triAt_swap ours theirs k (i + 1)]
    by_cases h : 0 ≤ fellow ours i ∧ 0 ≤ fellow theirs i
    · rw [if_pos h, if_pos ⟨h.2, h.1⟩]; rfl
    · rw [if_neg h, if_neg (fun h' => h ⟨h'.2, h'.1⟩)]
theorem blend_swap (o a b : List Str) : Tws o a b (blendA o a b) (blendA o b a) := by
  have := pts_swap o a b (triAt (lines o a) (lines o b) o.length 0) (0, 0, 0) (ends o a b)
  rw [← triAt_swap] at this
  exact this
/-- The kinds of a piece and of the same one turned. -/
theorem kind_turned (x y z : List Str) : kindOf eqL x z y = turned (kindOf eqL x y z) ∨ (kindOf eqL x y z = 2 ∧ kindOf eqL x z y = 2 ∧ eqL x y = true ∧ eqL x z = true) := by
  unfold kindOf turned
  rw [eqL_comm z y]
  cases eqL x y <;> cases eqL x z <;> cases eqL y z <;> simp
end Sp

theorem rectolaw25_BlendTurned.ok (R : Bool → Prop) (o a b : List Str) (_ : Sz (.sl .str) o ∧ Sz (.sl .str) a ∧ Sz (.sl .str) b) (hR : R Sp.tt) : rectolaw25_BlendTurned.vc R o a b := by
  unfold rectolaw25_BlendTurned.vc Sp.long40
  rw [cond_dec, cond_dec, cond_dec]
  split
  · exact hR
  split
  · exact hR
  split
  · exact hR
  have l2 := Sp.blendT_len o a b
  have hT : (Sp.blendT o a b).length = (Sp.blendA o a b).length := by unfold Sp.blendT; rw [List.length_map]
  have hT' : (Sp.blendT o b a).length = (Sp.blendA o b a).length := by unfold Sp.blendT; rw [List.length_map]
  have hs := Sp.blend_swap o a b
  have hl := hs.len
  have hch := Sp.blend_chn o a b
  refine ⟨⟨by omega, by omega, by omega⟩, ⟨by omega, by omega, by omega⟩, ?_⟩
  rw [cond_ndec, if_pos (by omega)]
  refine Lp_rule (fun v => ∃ (p : Nat), v = (o, a, b, Sp.blendT o b a, Sp.blendT o a b, ((Sp.blendT o a b).length : Int), (p : Int), ()) ∧ p ≤ (Sp.blendA o a b).length)
    (fun v => (Sp.blendA o a b).length - v.2.2.2.2.2.2.1.toNat) ?_ ⟨0, rfl, Nat.zero_le _⟩
  rintro _ K ⟨p, rfl, hp⟩ hK
  dsimp only
  unfold rectolaw25_BlendTurned.L0
  rw [cond_dec]
  split
  · rename_i c1
    have hp' : p < (Sp.blendA o a b).length := by omega
    have nx : K (o, a, b, Sp.blendT o b a, Sp.blendT o a b, ((Sp.blendT o a b).length : Int), (p : Int) + 1, ()) := hK _ ⟨p + 1, rfl, by omega⟩ (by simp; omega)
    have r1 : Rg .i64 ((p : Int) + 1) := by rw [rg64]; omega
    have tw := hs.nth (d := Sp.d0) p hp'
    obtain ⟨hin, hpc⟩ := Sp.chn_nth (d := Sp.d0) Sp.le0 hch p hp'
    rcases hx : nth (Sp.blendA o a b) (p : Int) Sp.d0 with ⟨k, g, t⟩
    rcases hy : nth (Sp.blendA o b a) (p : Int) Sp.d0 with ⟨k', g', t'⟩
    have e : nth (Sp.blendT o a b) (p : Int) (0, (0, 0), (0, 0), 0, 0) = (k, (g.1, t.1), (g.2.1, t.2.1), g.2.2, t.2.2) := (Sp.nth_map Sp.toP _ p Sp.d0 _ hp').trans (by rw [hx]; rfl)
    have e' : nth (Sp.blendT o b a) (p : Int) (0, (0, 0), (0, 0), 0, 0) = (k', (g'.1, t'.1), (g'.2.1, t'.2.1), g'.2.2, t'.2.2) := (Sp.nth_map Sp.toP _ p Sp.d0 _ (by omega)).trans (by rw [hy]; rfl)
    rw [hx, hy] at tw
    rw [hx] at hin hpc
    obtain ⟨t1, t2, t3⟩ := tw
    simp only at t1 t2 t3
    subst t1 t2
    rw [e, e']
    dsimp only [Sp.swap]
    refine ⟨by rw [ix_iff]; omega, by rw [ix_iff]; omega, ?_⟩
    obtain ⟨⟨a1, a2, a3⟩, ⟨a4, a5, a6⟩, a7, a8, a9⟩ := hin
    unfold Sp.ends at a7 a8 a9
    simp only at a1 a2 a3 a4 a5 a6 a7 a8 a9
    have so := Sp.sub_le o g.1 t.1
    have ep (z : List Str) : Sp.eqL.pre (sub o g.1 t.1) z := by unfold Sp.eqL.pre; omega
    have ii (z : Int) : eqI z z = true := decide_eq_true rfl
    simp only [ii, Bool.true_and, Bool.not_true, cond_false]
    have fin : k' = Sp.turned k ∨ (k = 2 ∧ k' = 2 ∧ Sp.eqL (sub o g.1 t.1) (sub a g.2.1 t.2.1) = true ∧ Sp.eqL (sub o g.1 t.1) (sub b g.2.2 t.2.2) = true) := by
      rcases t3 with ⟨rfl, rfl⟩ | ⟨h1, h2, h3, h4⟩
      · exact .inl rfl
      · rw [h1] at h3 ⊢
        rw [h2] at h4 ⊢
        rw [Sp.kd_of h3, Sp.kd_of h4]
        exact Sp.kind_turned _ _ _
    have gen (P : Prop) (h : k' = Sp.turned k) : bif !decide (k' = Sp.turned k) then P else Rg .i64 ((p : Int) + 1) ∧ K (o, a, b, Sp.blendT o b a, Sp.blendT o a b, ((Sp.blendT o a b).length : Int), (p : Int) + 1, ()) := by
      rw [cond_ndec, if_pos h]; exact ⟨r1, nx⟩
    rcases fin with h | ⟨h1, h2, h3, h4⟩
    · have g0 := gen (R false) h
      rw [cond_dec]
      split
      · rw [cond_dec]
        split
        · refine ⟨⟨a1, a4, a7⟩, ⟨a2, a5, a8⟩, ep _, ?_⟩
          refine condP (fun _ => ⟨⟨a1, a4, a7⟩, ⟨a3, a6, a9⟩, ep _, gen _ h⟩) (fun _ => g0)
        · exact g0
      · exact g0
    · rw [h1, h2, h3, h4]
      refine ⟨⟨a1, a4, a7⟩, ⟨a2, a5, a8⟩, ep _, ⟨a1, a4, a7⟩, ⟨a3, a6, a9⟩, ep _, ?_⟩
      exact ⟨r1, nx⟩
  · exact hR
