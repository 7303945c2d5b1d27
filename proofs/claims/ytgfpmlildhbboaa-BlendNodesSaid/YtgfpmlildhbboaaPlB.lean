/- Three lists lined up: what is told, shown of the conditions. Plain theorems. -/
import Derived.Test.YtgfpmlildhbboaaPlA
import Derived.Test.YtgfpmlildhbboaaVcB
import Derived.Test.YtgfpmlildhbboaaViThree
set_option linter.unnecessarySimpa false
set_option linter.unusedVariables false
set_option linter.unusedSectionVars false
set_option linter.unusedSimpArgs false
set_option autoImplicit false
open Go Vi

namespace Sp
theorem sub_len {α : Type} {l : List α} {i j : Int} (h1 : 0 ≤ i) (h2 : i ≤ j) (h3 : j ≤ (l.length : Int)) : ((sub l i j).length : Int) = j - i := by
  unfold sub; rw [List.length_drop, List.length_take]; omega
theorem sub_le {α : Type} (l : List α) (i j : Int) : (sub l i j).length ≤ l.length := by
  unfold sub; rw [List.length_drop, List.length_take]; omega
theorem sub_self {α : Type} (l : List α) {i : Int} : sub l i i = [] := by
  unfold sub; exact List.drop_eq_nil_of_le (by rw [List.length_take]; omega)
theorem sub_empty {α : Type} {l : List α} {i j : Int} (h1 : 0 ≤ i) (h2 : i ≤ j) (h3 : j ≤ (l.length : Int)) : (sub l i j).isEmpty = true ↔ i = j := by
  rw [List.isEmpty_iff, ← List.length_eq_zero_iff]
  have := sub_len h1 h2 h3
  omega

/-- Pairs that rise are bounded, and their fellows rise. -/
def Up (n m : Nat) (f : Int → Int) : Prop := (∀ x, 0 ≤ f x → 0 ≤ x ∧ x < n ∧ f x < m) ∧ ∀ x y, x < y → 0 ≤ f x → 0 ≤ f y → f x < f y
theorem rises_bound (n m : Nat) : ∀ (l : List Pair) (i j : Nat), Rises n m i j l → ∀ x, 0 ≤ fellow l x → (i : Int) ≤ x ∧ x < n ∧ (j : Int) ≤ fellow l x ∧ fellow l x < m
  | [], _, _, _, x, hx => by simp [fellow] at hx
  | p :: l, i, j, h, x, hx => by
    obtain ⟨h1, h2, h3, h4, h5⟩ := h
    rw [fellow] at hx ⊢
    split
    · omega
    · rename_i hne
      rw [if_neg hne] at hx
      have := rises_bound n m l _ _ h5 x hx
      omega
theorem rises_up (n m : Nat) : ∀ (l : List Pair) (i j : Nat), Rises n m i j l → Up n m (fellow l)
  | [], _, _, _ => ⟨fun x hx => by simp [fellow] at hx, fun x y _ hx => by simp [fellow] at hx⟩
  | p :: l, i, j, h => by
    obtain ⟨h1, h2, h3, h4, h5⟩ := h
    have ih := rises_up n m l _ _ h5
    have b := rises_bound n m l _ _ h5
    constructor
    · intro x hx
      rw [fellow] at hx ⊢
      split
      · omega
      · rename_i hne
        rw [if_neg hne] at hx
        exact ih.1 x hx
    · intro x y hxy hx hy
      rw [fellow] at hx hy ⊢
      rw [fellow]
      by_cases hpx : p.1 = x
      · rw [if_pos hpx] at hx ⊢
        rw [if_neg (by omega)] at hy ⊢
        have := b y hy
        omega
      · rw [if_neg hpx] at hx ⊢
        by_cases hpy : p.1 = y
        · have := b x hx
          omega
        · rw [if_neg hpy] at hy ⊢
          exact ih.2 x y hxy hx hy

theorem chain_lines (a b : List Str) : ∀ (n i j : Nat), a.length + b.length ≤ n + i + j → i ≤ a.length → j ≤ b.length → Chain a b i j (linesAt i j (a.drop i) (b.drop j)) := by
  intro n
  induction n with
  | zero => intro i j h hi hj; rw [drop_end (by omega), linesAt_nil]; trivial
  | succ n ih =>
    intro i j h hi hj
    by_cases h1 : i < a.length
    · by_cases h2 : j < b.length
      · rw [drop_cons (d := []) h1, drop_cons (d := []) h2, linesAt]
        split
        · rename_i he
          exact ⟨Int.le_refl _, by simpa using h1, Int.le_refl _, by simpa using h2, he, by simpa using ih (i + 1) (j + 1) (by omega) (by omega) (by omega)⟩
        · rw [← drop_cons h1, ← drop_cons h2]
          split
          · have := ih (i + 1) j (by omega) (by omega) (by omega)
            exact chain_mono a b _ this (by omega) (by omega)
          · have := ih i (j + 1) (by omega) (by omega) (by omega)
            exact chain_mono a b _ this (by omega) (by omega)
      · rw [drop_end (l := b) (by omega), linesAt_nil2]; trivial
    · rw [drop_end (by omega), linesAt_nil]; trivial
where
  chain_mono (a b : List Str) : ∀ (l : List Pair) {i j i' j' : Nat}, Chain a b i' j' l → i ≤ i' → j ≤ j' → Chain a b i j l
    | [], _, _, _, _, _, _, _ => trivial
    | x :: l, i, j, i', j', h, h1, h2 => by
      obtain ⟨a1, a2, a3, a4, a5, a6⟩ := h
      exact ⟨by omega, a2, by omega, a4, a5, a6⟩
theorem chain_rises (a b : List Str) : ∀ (l : List Pair) (i j : Nat), Chain a b i j l → Rises a.length b.length i j l
  | [], _, _, _ => trivial
  | x :: l, i, j, h => by
    obtain ⟨a1, a2, a3, a4, _, a6⟩ := h
    exact ⟨a1, a2, a3, a4, chain_rises a b l _ _ a6⟩
theorem lines_chain (a b : List Str) : Chain a b 0 0 (lines a b) := by
  exact chain_lines a b (a.length + b.length) 0 0 (by omega) (by omega) (by omega)
theorem lines_rises (a b : List Str) : Rises a.length b.length 0 0 (lines a b) := chain_rises a b _ _ _ (lines_chain a b)
theorem lines_up (a b : List Str) : Up a.length b.length (fellow (lines a b)) := rises_up _ _ _ _ _ (lines_rises a b)
def Le3 (f t : Tri) : Prop := f.1 ≤ t.1 ∧ f.2.1 ≤ t.2.1 ∧ f.2.2 ≤ t.2.2
def Asc : Tri → List Tri → Tri → Prop
  | f, [], e => Le3 f e
  | f, t :: r, e => Le3 f t ∧ Asc (next t) r e
theorem Asc.le : ∀ {f : Tri} {ts : List Tri} {e : Tri}, Asc f ts e → Le3 f e
  | _, [], _, h => h
  | f, t :: r, e, ⟨h1, h2⟩ => by
    have := Asc.le h2
    unfold Le3 next at *
    simp only at *
    omega
theorem asc_triAt {n m m' : Nat} {ours theirs : List Pair} (h1 : Up n m (fellow ours)) (h2 : Up n m' (fellow theirs)) : ∀ (k : Nat) (i : Int) (f : Tri), i + k = n → f.1 ≤ i → f.2.1 ≤ m → f.2.2 ≤ m' →
    (∀ y, i ≤ y → 0 ≤ fellow ours y → f.2.1 ≤ fellow ours y) → (∀ y, i ≤ y → 0 ≤ fellow theirs y → f.2.2 ≤ fellow theirs y) → Asc f (triAt ours theirs k i) (n, m, m')
  | 0, i, f, hi, g1, g2, g3, _, _ => ⟨by simp; omega, g2, g3⟩
  | k + 1, i, f, hi, g1, g2, g3, g4, g5 => by
    rw [triAt]
    split
    · rename_i hc
      have b1 := h1.1 i hc.1
      have b2 := h2.1 i hc.2
      refine ⟨⟨g1, g4 i (Int.le_refl _) hc.1, g5 i (Int.le_refl _) hc.2⟩, ?_⟩
      refine asc_triAt h1 h2 k (i + 1) _ (by omega) (Int.le_refl _) (by simp [next]; omega) (by simp [next]; omega) (fun y hy h0 => ?_) (fun y hy h0 => ?_)
      · have := h1.2 i y (by omega) hc.1 h0
        simp [next]; omega
      · have := h2.2 i y (by omega) hc.2 h0
        simp [next]; omega
    · exact asc_triAt h1 h2 k (i + 1) f (by omega) (by omega) g2 g3 (fun y hy h0 => g4 y (by omega) h0) (fun y hy h0 => g5 y (by omega) h0)
theorem asc_all {n m m' : Nat} {ours theirs : List Pair} (h1 : Up n m (fellow ours)) (h2 : Up n m' (fellow theirs)) : Asc (0, 0, 0) (triAt ours theirs n 0) (n, m, m') :=
  asc_triAt h1 h2 n 0 _ (by simp) (Int.le_refl _) (by simp) (by simp) (fun _ _ h => h) (fun _ _ h => h)
theorem triAt_len (ours theirs : List Pair) : ∀ (k : Nat) (i : Int), (triAt ours theirs k i).length ≤ k
  | 0, i => Nat.le_refl _
  | k + 1, i => by
    rw [triAt]
    have := triAt_len ours theirs k (i + 1)
    split
    · simp; omega
    · omega

theorem kindOf_ne {α : Type} (same : List α → List α → Bool) (x y z : List α) : 2 ≤ kindOf same x y z ∧ kindOf same x y z ≤ 5 := by
  unfold kindOf
  cases same x y <;> cases same x z <;> cases same y z <;> simp
theorem kind0_zero {α : Type} (same : List α → List α → Bool) (x y z : List α) : kind0 same x y z = 0 ↔ x.isEmpty = true ∧ y.isEmpty = true ∧ z.isEmpty = true := by
  unfold kind0
  have := kindOf_ne same x y z
  cases x.isEmpty <;> cases y.isEmpty <;> cases z.isEmpty <;> simp <;> omega
theorem kind0_or {α : Type} (same : List α → List α → Bool) (x y z : List α) : kind0 same x y z = 0 ∨ kind0 same x y z = kindOf same x y z := by
  unfold kind0
  cases x.isEmpty <;> cases y.isEmpty <;> cases z.isEmpty <;> simp
theorem kd_range (o a b : List Str) (f t : Tri) : kdT o a b f t = 0 ∨ (2 ≤ kdT o a b f t ∧ kdT o a b f t ≤ 5) := by
  unfold kdT
  rcases kind0_or eqL (sub o f.1 t.1) (sub a f.2.1 t.2.1) (sub b f.2.2 t.2.2) with h | h
  · exact .inl h
  · rw [h]; exact .inr (kindOf_ne _ _ _ _)
/-- Places that a piece may have. -/
def In (o a b : List Str) (f t : Tri) : Prop := Le3 (0, 0, 0) f ∧ Le3 f t ∧ Le3 t (ends o a b)
theorem kd_zero {o a b : List Str} {f t : Tri} (h : In o a b f t) : kdT o a b f t = 0 ↔ f = t := by
  unfold kdT
  obtain ⟨⟨h1, h2, h3⟩, ⟨h4, h5, h6⟩, h7, h8, h9⟩ := h
  unfold ends at h7 h8 h9
  rw [kind0_zero, sub_empty h1 h4 h7, sub_empty h2 h5 h8, sub_empty h3 h6 h9]
  constructor
  · rintro ⟨e1, e2, e3⟩; exact Prod.ext e1 (Prod.ext e2 e3)
  · rintro rfl; exact ⟨rfl, rfl, rfl⟩
end Sp

namespace Sp
/-- A chain of pieces: each starts where the last ended. -/
def Pc (o a b : List Str) (p : PartA) : Prop := (p.1 = 1 ∧ p.2.2 = next p.2.1 ∧ p.2.1.1 < o.length ∧ p.2.1.2.1 < a.length ∧ p.2.1.2.2 < b.length) ∨ (p.1 = kdT o a b p.2.1 p.2.2 ∧ 2 ≤ p.1 ∧ p.1 ≤ 5)
def Chn (o a b : List Str) : Tri → List PartA → Prop
  | f, [] => f = ends o a b
  | f, p :: r => p.2.1 = f ∧ Le3 f p.2.2 ∧ p.2.2 ≠ f ∧ Pc o a b p ∧ Chn o a b p.2.2 r
theorem Chn.le {o a b : List Str} : ∀ {l : List PartA} {f : Tri}, Chn o a b f l → Le3 f (ends o a b)
  | [], _, h => by cases h; exact ⟨Int.le_refl _, Int.le_refl _, Int.le_refl _⟩
  | p :: r, f, ⟨_, h2, _, _, h5⟩ => by
    have := Chn.le h5
    unfold Le3 at *
    omega
theorem Le3.trans {f g h : Tri} (h1 : Le3 f g) (h2 : Le3 g h) : Le3 f h := by unfold Le3 at *; omega
theorem le_next (t : Tri) : Le3 t (next t) := by unfold Le3 next; simp only; omega
theorem next_ne (t : Tri) : next t ≠ t := fun e => by
  have := congrArg (fun x : Tri => x.1) e
  simp only [next] at this
  omega

theorem seg_chn {o a b : List Str} {f t : Tri} (h : In o a b f t) {l : List PartA} (hl : Chn o a b t l) : Chn o a b f (segA (kdT o a b) f t ++ l) := by
  unfold segA
  have hz := kd_zero h
  split
  · rename_i h0
    cases hz.1 h0
    exact hl
  · rename_i h0
    refine ⟨rfl, h.2.1, fun e => h0 (hz.2 e.symm), .inr ⟨rfl, ?_⟩, hl⟩
    rcases kd_range o a b f t with h' | h'
    · exact absurd h' h0
    · exact h'
theorem pts_chn {o a b : List Str} : ∀ {ts : List Tri} {f : Tri}, Le3 (0, 0, 0) f → Asc f ts (ends o a b) → Chn o a b f (pts (kdT o a b) f ts (ends o a b))
  | [], f, h0, h => by
    have := seg_chn (o := o) (a := a) (b := b) (l := []) ⟨h0, h, ⟨Int.le_refl _, Int.le_refl _, Int.le_refl _⟩⟩ rfl
    rw [List.append_nil] at this
    exact this
  | t :: r, f, h0, ⟨h1, h2⟩ => by
    have l2 := h2.le
    have n2 : Le3 t (ends o a b) := (le_next t).trans l2
    refine seg_chn ⟨h0, h1, n2⟩ ⟨rfl, le_next t, next_ne t, .inl ⟨rfl, rfl, ?_⟩, pts_chn ((h0.trans h1).trans (le_next t)) h2⟩
    unfold Le3 next ends at l2
    simp only at l2
    show t.1 < (o.length : Int) ∧ t.2.1 < (a.length : Int) ∧ t.2.2 < (b.length : Int)
    omega
theorem chn_nth {o a b : List Str} {d : PartA} : ∀ {l : List PartA} {f : Tri}, Le3 (0, 0, 0) f → Chn o a b f l → ∀ p, p < l.length → In o a b (nth l (p : Int) d).2.1 (nth l (p : Int) d).2.2 ∧ Pc o a b (nth l (p : Int) d)
  | [], _, _, _, p, hp => by simp at hp
  | x :: l, f, h0, ⟨h1, h2, h3, h4, h5⟩, 0, _ => by
    cases h1
    exact ⟨⟨h0, h2, Chn.le h5⟩, h4⟩
  | x :: l, f, h0, ⟨h1, h2, h3, h4, h5⟩, p + 1, hp => chn_nth (h0.trans h2) h5 p (by simpa using hp)
theorem seg_len (kd : Tri → Tri → Int) (f t : Tri) : (segA kd f t).length ≤ 1 := by unfold segA; split <;> simp
theorem pts_len (kd : Tri → Tri → Int) (e : Tri) : ∀ (ts : List Tri) (f : Tri), (pts kd f ts e).length ≤ 2 * ts.length + 1
  | [], f => seg_len kd f e
  | t :: r, f => by
    have := pts_len kd e r (next t)
    have := seg_len kd f t
    rw [pts]
    simp only [List.length_append, List.length_cons]
    omega
theorem partsA_len (o a b : List Str) (ours theirs : List Pair) : (partsA o a b ours theirs).length ≤ 2 * o.length + 1 := by
  have := pts_len (kdT o a b) (ends o a b) (triAt ours theirs o.length 0) (0, 0, 0)
  have := triAt_len ours theirs o.length 0
  unfold partsA
  omega
theorem blend_asc (o a b : List Str) : Asc (0, 0, 0) (triAt (lines o a) (lines o b) o.length 0) (ends o a b) := asc_all (lines_up o a) (lines_up o b)
theorem le0 : Le3 (0, 0, 0) (0, 0, 0) := ⟨Int.le_refl _, Int.le_refl _, Int.le_refl _⟩
theorem blend_chn (o a b : List Str) : Chn o a b (0, 0, 0) (blendA o a b) := pts_chn le0 (blend_asc o a b)
theorem nth_map {α β : Type} (g : α → β) (l : List α) (p : Nat) (d : α) (d' : β) (h : p < l.length) : nth (l.map g) (p : Int) d' = g (nth l (p : Int) d) := by
  rw [nth_lt (by simpa using h), nth_lt h, List.getElem_map]

theorem idx_fellow : ∀ (l : List Pair) (pre : List Pair) (x : Int), (idxFrom (fun p => isA p x) pre.length l = -1 ∧ fellow l x = -1) ∨
    (0 ≤ idxFrom (fun p => isA p x) pre.length l ∧ idxFrom (fun p => isA p x) pre.length l < ((pre ++ l).length : Int) ∧ (nth (pre ++ l) (idxFrom (fun p => isA p x) pre.length l) (0, 0, false)).2.1 = fellow l x)
  | [], _, _ => .inl ⟨rfl, rfl⟩
  | p :: l, pre, x => by
    rw [idxFrom, fellow, isA, Bool.cond_decide]
    by_cases h : p.1 = x
    · right
      rw [if_pos h, if_pos h]
      exact ⟨by omega, by simp; omega, by rw [nth_mid _ _ _ _ rfl]⟩
    · rw [if_neg h, if_neg h]
      have := idx_fellow l (pre ++ [p]) x
      rw [List.append_assoc] at this
      simpa using this
theorem idx_any {α : Type} (f : α → Bool) : ∀ (l : List α) (i : Int), 0 ≤ i → decide (0 ≤ idxFrom f i l) = l.any f
  | [], i, _ => by simp [idxFrom]
  | x :: l, i, h => by
    rw [idxFrom, List.any_cons, ← idx_any f l (i + 1) (by omega)]
    cases f x <;> simp [h]
end Sp

theorem blend_of_string.ok (R : List (List UInt8) → Prop) (l : List Str) (r : Int × Int) (h : Sp.ofS.pre l r) (hR : R (Sp.ofS l r)) : blend_of_string.vc R l r := ⟨h, hR⟩

theorem slices_Equal_string_string.ok (R : Bool → Prop) (a b : List Str) (h : Sp.eqL.pre a b) (hR : R (Sp.eqL a b)) : slices_Equal_string_string.vc R a b := by
  unfold slices_Equal_string_string.vc
  unfold Sp.eqL.pre at h
  unfold Sp.eqL at hR
  have ne (hne : a ≠ b) : R false := by rw [decide_eq_false hne] at hR; exact hR
  rw [cond_ndec]
  split
  case isFalse h1 => exact ne fun e => h1 (by rw [e])
  rename_i hl
  refine Lp_rule (fun v => ∃ p : Nat, v = (a, b, (a.length : Int), (p : Int), ()) ∧ p ≤ a.length ∧ a.take p = b.take p) (fun v => a.length - v.2.2.2.1.toNat) ?_ ⟨0, rfl, Nat.zero_le _, rfl⟩
  rintro _ K ⟨p, rfl, hp, ht⟩ hK
  simp only [slices_Equal_string_string.L0, cond_dec, cond_ndec, rg64, ix_iff]
  split
  · rename_i h1
    have h1' : p < a.length := by omega
    have h2' : p < b.length := by omega
    refine ⟨by omega, by omega, ?_⟩
    split
    · rename_i e1
      refine ⟨by omega, hK _ ⟨p + 1, rfl, by omega, ?_⟩ (by simp; omega)⟩
      rw [take_succ (d := []) h1', take_succ (d := []) h2', ht, e1]
    · rename_i e1; exact ne fun e => e1 (by rw [e])
  · have : p = a.length := by omega
    subst this
    rw [List.take_length, List.take_of_length_le (by omega)] at ht
    rw [decide_eq_true ht] at hR
    exact hR

theorem blend_kind_string.ok (R : Int → Prop) (o a b : List Str) (p : Int × (Int × Int) × (Int × Int) × Int × Int) (h : Sp.kindT.pre o a b p) (hR : R (Sp.kindT o a b p)) : blend_kind_string.vc R o a b p := by
  obtain ⟨h1, h2, h3, h4, h5, h6⟩ := h
  unfold blend_kind_string.vc
  have e1 : Sp.eqL.pre (Sp.ofS o (p.2.1.1, p.2.1.2)) (Sp.ofS a (p.2.2.1.1, p.2.2.1.2)) := by
    have := Sp.sub_le o p.2.1.1 p.2.1.2; unfold Sp.eqL.pre Sp.ofS; simp only; omega
  have e2 : Sp.eqL.pre (Sp.ofS o (p.2.1.1, p.2.1.2)) (Sp.ofS b (p.2.2.2.1, p.2.2.2.2)) := e1
  have e3 : Sp.eqL.pre (Sp.ofS a (p.2.2.1.1, p.2.2.1.2)) (Sp.ofS b (p.2.2.2.1, p.2.2.2.2)) := by
    have := Sp.sub_le a p.2.2.1.1 p.2.2.1.2; unfold Sp.eqL.pre Sp.ofS; simp only; omega
  refine ⟨h1, h2, h3, ?_⟩
  have hR' : R (Sp.kind0 Sp.eqL (Sp.ofS o (p.2.1.1, p.2.1.2)) (Sp.ofS a (p.2.2.1.1, p.2.2.1.2)) (Sp.ofS b (p.2.2.2.1, p.2.2.2.2))) := hR
  clear hR h1 h2 h3
  generalize Sp.ofS o (p.2.1.1, p.2.1.2) = x at *
  generalize Sp.ofS a (p.2.2.1.1, p.2.2.1.2) = y at *
  generalize Sp.ofS b (p.2.2.2.1, p.2.2.2.2) = z at *
  have em (l : List Str) : decide ((l.length : Int) = 0) = l.isEmpty := by cases l <;> simp; omega
  rw [em, em, em]
  unfold Sp.kind0 Sp.kindOf at hR'
  have e1' := eq_true e1
  have e2' := eq_true e2
  have e3' := eq_true e3
  simp only [e1', e2', e3', true_and]
  revert hR'
  cases x.isEmpty <;> cases y.isEmpty <;> cases z.isEmpty <;> cases Sp.eqL x y <;> cases Sp.eqL x z <;> cases Sp.eqL y z <;> exact id

theorem blend_fellow_1.ok (R : Bool → Int → Prop) (p : Int × Int × Bool) (at_ : Int) (hR : R (Sp.isA p at_) at_) : blend_fellow_1.vc R p at_ := hR

theorem slices_IndexFunc_match_Pair_match_Pair.ok (R : Int → Int → Prop) (l : List (Int × Int × Bool)) (at_ : Int) (h : Sp.idxA.pre l) (hR : R (Sp.idxA l at_) at_) : slices_IndexFunc_match_Pair_match_Pair.vc R l at_ := by
  unfold Sp.idxA.pre at h
  refine Lp_rule (fun v => ∃ p : Nat, v = (l, (l.length : Int), (p : Int), at_, ()) ∧ p ≤ l.length ∧ Sp.idxFrom (fun q => Sp.isA q at_) p (l.drop p) = Sp.idxA l at_) (fun v => l.length - v.2.2.1.toNat) ?_ ⟨0, rfl, Nat.zero_le _, rfl⟩
  rintro _ K ⟨p, rfl, hp, ht⟩ hK
  simp only [slices_IndexFunc_match_Pair_match_Pair.L0, rg64, ix_iff]
  rw [cond_dec]
  split
  · rename_i h1
    have h1' : p < l.length := by omega
    refine ⟨by omega, ?_⟩
    rw [drop_cons (d := (0, 0, false)) h1', Sp.idxFrom] at ht
    cases hc : Sp.isA (nth l (p : Int) (0, 0, false)) at_ with
    | true => rw [hc] at ht; rw [← ht] at hR; exact hR
    | false =>
      rw [hc] at ht
      exact ⟨by omega, hK _ ⟨p + 1, rfl, by omega, ht⟩ (by simp; omega)⟩
  · rw [drop_end (by omega)] at ht
    rw [← ht] at hR
    exact hR

theorem blend_fellow.ok (R : Int → Prop) (l : List (Int × Int × Bool)) (at_ : Int) (h : Sp.fellow.pre l at_) (hR : R (Sp.fellow l at_)) : blend_fellow.vc R l at_ := by
  refine ⟨h, ?_⟩
  rw [cond_dec]
  have e : Sp.idxA l at_ = Sp.idxFrom (fun p => Sp.isA p at_) ((([] : List Sp.Pair).length : Nat) : Int) l := rfl
  rcases Sp.idx_fellow l [] at_ with ⟨h1, h2⟩ | ⟨h1, h2, h3⟩
  · rw [e, h1, if_neg (by decide), ← h2]; exact hR
  · rw [← e] at h1 h2 h3
    rw [if_pos h1, ix_iff]
    simp only [List.nil_append] at h2 h3
    rw [h3]
    exact ⟨⟨h1, h2⟩, hR⟩

theorem blend_parts_string_1.ok (R : Int → Int → Int → Int → Int → Int → Int → List (List UInt8) → List (List UInt8) → List (List UInt8) → List (Int × (Int × Int) × (Int × Int) × Int × Int) → Prop) (x y z f0 f1 f2 f3 f4 f5 f6 : Int) (o a b : List Str) (out : List (Int × (Int × Int) × (Int × Int) × Int × Int))
    (h : Sp.upTo.pre x y z f1 f3 f5 o a b out) (hR : R f0 f1 f2 f3 f4 f5 f6 o a b (Sp.upTo x y z f1 f3 f5 o a b out)) : blend_parts_string_1.vc R x y z f0 f1 f2 f3 f4 f5 f6 o a b out := by
  obtain ⟨h1, h2, h3, h4, h5, h6, h7⟩ := h
  refine ⟨⟨h1, h2, h3, h4, h5, h6⟩, ?_⟩
  have e : Sp.kindT o a b (0, (f1, x), (f3, y), f5, z) = Sp.kdT o a b (f1, f3, f5) (x, y, z) := rfl
  rw [e, cond_ndec]
  unfold Sp.upTo Sp.segA at hR
  split
  · rename_i h0
    rw [if_pos h0] at hR
    simpa using hR
  · rename_i h0
    rw [if_neg h0] at hR
    exact ⟨by rw [gr_iff]; omega, hR⟩

theorem blend_parts_string.ok (R : List (Int × (Int × Int) × (Int × Int) × Int × Int) → Prop) (o a b : List Str) (ours theirs : List (Int × Int × Bool)) (h : Sp.parts.pre o a b ours theirs) (hR : R (Sp.parts o a b ours theirs)) : blend_parts_string.vc R o a b ours theirs := by
  obtain ⟨h1, h2, h3, h4, h5, h6, h7⟩ := h
  have u1 := Sp.rises_up _ _ _ _ _ h6
  have u2 := Sp.rises_up _ _ _ _ _ h7
  refine Lp_rule (fun v => ∃ (i : Nat) (out : List Sp.Part) (g0 g2 g4 g6 : Int) (f : Sp.Tri), v = (ours, theirs, (o.length : Int), (i : Int), o, a, b, out, g0, f.1, g2, f.2.1, g4, f.2.2, g6, ()) ∧ i ≤ o.length ∧ Sp.Le3 (0, 0, 0) f ∧ f.1 ≤ i ∧
      Sp.Asc f (Sp.triAt ours theirs (o.length - i) i) (Sp.ends o a b) ∧ out.length ≤ 2 * i ∧ out ++ (Sp.pts (Sp.kdT o a b) f (Sp.triAt ours theirs (o.length - i) i) (Sp.ends o a b)).map Sp.toP = Sp.parts o a b ours theirs)
    (fun v => o.length - v.2.2.2.1.toNat) ?_ ⟨0, [], 0, 0, 0, 0, (0, 0, 0), rfl, Nat.zero_le _, Sp.le0, Int.le_refl _, Sp.asc_all u1 u2, Nat.zero_le _, rfl⟩
  rintro _ K ⟨i, out, g0, g2, g4, g6, f, rfl, hi, hf, hfi, ha, ho, hp⟩ hK
  simp only [blend_parts_string.L0, cond_dec, rg64, gr_iff]
  have hpre (t : Sp.Tri) (hin : Sp.In o a b f t) : Sp.upTo.pre t.1 t.2.1 t.2.2 f.1 f.2.1 f.2.2 o a b out := by
    obtain ⟨⟨a1, a2, a3⟩, ⟨a4, a5, a6⟩, a7, a8, a9⟩ := hin
    unfold Sp.ends at a7 a8 a9
    simp only at a1 a2 a3 a7 a8 a9
    exact ⟨⟨a1, a4, a7⟩, ⟨a2, a5, a8⟩, ⟨a3, a6, a9⟩, h1, h2, h3, by omega⟩
  split
  · rename_i c1
    have c1' : i < o.length := by omega
    rw [show o.length - i = (o.length - (i + 1)) + 1 from by omega, Sp.triAt] at ha hp
    refine ⟨by unfold Sp.fellow.pre; omega, by unfold Sp.fellow.pre; omega, ?_⟩
    have skip (hn : ¬ (0 ≤ Sp.fellow ours i ∧ 0 ≤ Sp.fellow theirs i)) : K (ours, theirs, (o.length : Int), (i : Int) + 1, o, a, b, out, g0, f.1, g2, f.2.1, g4, f.2.2, g6, ()) := by
      rw [if_neg hn] at ha hp
      exact hK _ ⟨i + 1, out, g0, g2, g4, g6, f, rfl, by omega, hf, by omega, ha, by omega, hp⟩ (by simp; omega)
    split
    · exact ⟨by omega, skip (by omega)⟩
    split
    · exact ⟨by omega, skip (by omega)⟩
    rename_i c2 c3
    rw [if_pos (by omega)] at ha hp
    obtain ⟨a1, a2⟩ := ha
    have a3 := a2.le
    have hin : Sp.In o a b f (i, Sp.fellow ours i, Sp.fellow theirs i) := ⟨hf, a1, (Sp.le_next _).trans a3⟩
    have hl : (Sp.upTo i (Sp.fellow ours i) (Sp.fellow theirs i) f.1 f.2.1 f.2.2 o a b out).length ≤ out.length + 1 := by
      have := Sp.seg_len (Sp.kdT o a b) (f.1, f.2.1, f.2.2) (i, Sp.fellow ours i, Sp.fellow theirs i)
      unfold Sp.upTo; rw [List.length_append, List.length_map]; omega
    unfold Sp.Le3 Sp.next Sp.ends at a3
    simp only at a3
    refine ⟨hpre _ hin, by omega, by omega, by omega, by omega, by omega, by omega, by omega, by omega, ?_⟩
    refine hK _ ⟨i + 1, _, 0, 0, 0, 0, (i + 1, Sp.fellow ours i + 1, Sp.fellow theirs i + 1), rfl, by omega, (hf.trans a1).trans (Sp.le_next _), Int.le_refl _, a2, ?_, ?_⟩ (by simp; omega)
    · rw [List.length_append, List.length_singleton]; omega
    · rw [← hp, Sp.pts, List.map_append, List.map_cons]
      unfold Sp.upTo
      simp only [List.append_assoc, List.singleton_append]
      rfl
  · rename_i c1
    have : i = o.length := by omega
    subst this
    rw [Nat.sub_self, Sp.triAt] at ha hp
    exact ⟨hpre (Sp.ends o a b) ⟨hf, ha, ⟨Int.le_refl _, Int.le_refl _, Int.le_refl _⟩⟩, by rw [← hp] at hR; exact hR⟩

theorem blend_Texts.ok (R : List (Int × (Int × Int) × (Int × Int) × Int × Int) → Prop) (o a b : List Str) (h : Sp.blendT.pre o a b) (hR : R (Sp.blendT o a b)) : blend_Texts.vc R o a b := by
  obtain ⟨h1, h2, h3⟩ := h
  have l1 := Sp.lines_size o a
  have l2 := Sp.lines_size o b
  exact ⟨⟨h1, h2⟩, ⟨h1, h3⟩, ⟨h1, h2, h3, by omega, by omega, Sp.lines_rises o a, Sp.lines_rises o b⟩, hR⟩

namespace Sp
abbrev d0 : PartA := (0, (0, 0, 0), (0, 0, 0))
theorem joinOne_len (o a b : List Str) (p : PartA) (h1 : o.length ≤ 1000000) (h2 : a.length ≤ 1000000) (h3 : b.length ≤ 1000000) : (joinOne o a b p).length ≤ 2000000 := by
  have := sub_le o p.2.1.1 p.2.2.1
  have := sub_le a p.2.1.2.1 p.2.2.2.1
  have := sub_le b p.2.1.2.2 p.2.2.2.2
  unfold joinOne
  split
  · omega
  split
  · omega
  split
  · rw [List.length_append]; omega
  · omega
end Sp

theorem blend_Join.ok (R : List (List UInt8) → Int → Prop) (o a b : List Str) (h : Sp.joinP.pre o a b) (hR : R (Sp.joinP o a b).1 (Sp.joinP o a b).2) : blend_Join.vc R o a b := by
  obtain ⟨h1, h2, h3⟩ := h
  have hlen := Sp.partsA_len o a b (Sp.lines o a) (Sp.lines o b)
  have hch := Sp.blend_chn o a b
  have hT : (Sp.blendT o a b).length = (Sp.blendA o a b).length := by unfold Sp.blendT; rw [List.length_map]
  have hA : (Sp.blendA o a b).length ≤ 2 * o.length + 1 := hlen
  refine ⟨⟨h1, h2, h3⟩, ?_⟩
  refine Lp_rule (fun v => ∃ (p : Nat) (out : List Str) (c : Int), v = (o, a, b, c, Sp.blendT o a b, ((Sp.blendT o a b).length : Int), (p : Int), out, ()) ∧ p ≤ (Sp.blendA o a b).length ∧ out.length ≤ 2000000 * p ∧ 0 ≤ c ∧ c ≤ p ∧
      out ++ Sp.joinL o a b ((Sp.blendA o a b).drop p) = (Sp.joinP o a b).1 ∧ c + Sp.clashes ((Sp.blendA o a b).drop p) = (Sp.joinP o a b).2)
    (fun v => (Sp.blendA o a b).length - v.2.2.2.2.2.2.1.toNat) ?_ ⟨0, [], 0, rfl, Nat.zero_le _, Nat.zero_le _, Int.le_refl _, Int.le_refl _, rfl, by rw [List.drop_zero, Int.zero_add]; rfl⟩
  rintro _ K ⟨p, out, c, rfl, hp, ho, hc0, hcp, hj, hc⟩ hK
  simp only [blend_Join.L0, cond_dec, rg64, ix_iff, gr_iff]
  split
  · rename_i c1
    have hp' : p < (Sp.blendA o a b).length := by omega
    rcases hx : nth (Sp.blendA o a b) (p : Int) Sp.d0 with ⟨k, f, t⟩
    have e : nth (Sp.blendT o a b) (p : Int) (0, (0, 0), (0, 0), 0, 0) = (k, (f.1, t.1), (f.2.1, t.2.1), f.2.2, t.2.2) := (Sp.nth_map Sp.toP _ p Sp.d0 _ hp').trans (by rw [hx]; rfl)
    have hin := (Sp.chn_nth (d := Sp.d0) Sp.le0 hch p hp').1
    rw [drop_cons (d := Sp.d0) hp', Sp.joinL] at hj
    rw [drop_cons (d := Sp.d0) hp', Sp.clashes] at hc
    have jl := Sp.joinOne_len o a b (nth (Sp.blendA o a b) (p : Int) Sp.d0) h1 h2 h3
    rw [hx] at hin hj hc jl
    simp only [e]
    obtain ⟨⟨a1, a2, a3⟩, ⟨a4, a5, a6⟩, a7, a8, a9⟩ := hin
    unfold Sp.ends at a7 a8 a9
    simp only at a1 a2 a3 a4 a5 a6 a7 a8 a9
    have po : Sp.ofS.pre o (f.1, t.1) := ⟨a1, a4, a7⟩
    have pa : Sp.ofS.pre a (f.2.1, t.2.1) := ⟨a2, a5, a8⟩
    have pb : Sp.ofS.pre b (f.2.2, t.2.2) := ⟨a3, a6, a9⟩
    have so := Sp.sub_le o f.1 t.1
    have sa := Sp.sub_le a f.2.1 t.2.1
    have sb := Sp.sub_le b f.2.2 t.2.2
    have eo : Sp.ofS o (f.1, t.1) = sub o f.1 t.1 := rfl
    have ea : Sp.ofS a (f.2.1, t.2.1) = sub a f.2.1 t.2.1 := rfl
    have eb : Sp.ofS b (f.2.2, t.2.2) = sub b f.2.2 t.2.2 := rfl
    rw [eo, ea, eb]
    have next (c' : Int) (s : List Str) (hs : s = Sp.joinOne o a b (k, f, t)) (hc' : c' = c + if k = 5 then 1 else 0) : K (o, a, b, c', Sp.blendT o a b, ((Sp.blendT o a b).length : Int), (p : Int) + 1, out ++ s, ()) := by
      subst hs
      refine hK _ ⟨p + 1, _, c', rfl, by omega, by rw [List.length_append]; omega, by split at hc' <;> omega, by split at hc' <;> omega, by rw [List.append_assoc]; exact hj, by rw [← hc, hc']; simp only; omega⟩ (by simp; omega)
    unfold Sp.joinOne at next
    simp only at next
    have hol : out.length ≤ 2000000 * 2000001 := by omega
    refine ⟨by omega, ?_⟩
    by_cases k1 : k = 1
    · rw [if_pos k1]
      subst k1
      exact ⟨po, by omega, by omega, next _ _ (by simp) (by simp)⟩
    rw [if_neg k1]
    by_cases k2 : k = 2
    · rw [if_pos k2]
      subst k2
      exact ⟨pb, by omega, by omega, next _ _ (by simp) (by simp)⟩
    rw [if_neg k2]
    by_cases k5 : k = 5
    · rw [if_pos k5]
      subst k5
      rw [List.append_assoc, List.length_append]
      exact ⟨by omega, pa, by omega, pb, by omega, by omega, next _ _ (by simp) (by simp)⟩
    · rw [if_neg k5]
      exact ⟨pa, by omega, by omega, next _ _ (by simp [k1, k2, k5]) (by simp [k5])⟩
  · rw [drop_end (by omega), Sp.joinL, List.append_nil] at hj
    rw [drop_end (by omega), Sp.clashes, Int.add_zero] at hc
    rw [hj, hc]
    exact hR

theorem blend_Clean_1.ok (R : Bool → Prop) (p : Int × (Int × Int) × (Int × Int) × Int × Int) (hR : R (Sp.isClash p)) : blend_Clean_1.vc R p := hR

theorem slices_IndexFunc_blend_Part_blend_Part.ok (R : Int → Prop) (l : List (Int × (Int × Int) × (Int × Int) × Int × Int)) (h : Sp.idxClash.pre l) (hR : R (Sp.idxClash l)) : slices_IndexFunc_blend_Part_blend_Part.vc R l := by
  unfold Sp.idxClash.pre at h
  refine Lp_rule (fun v => ∃ p : Nat, v = (l, (l.length : Int), (p : Int), ()) ∧ p ≤ l.length ∧ Sp.idxFrom Sp.isClash p (l.drop p) = Sp.idxClash l) (fun v => l.length - v.2.2.1.toNat) ?_ ⟨0, rfl, Nat.zero_le _, rfl⟩
  rintro _ K ⟨p, rfl, hp, ht⟩ hK
  simp only [slices_IndexFunc_blend_Part_blend_Part.L0, rg64, ix_iff]
  rw [cond_dec]
  split
  · rename_i h1
    have h1' : p < l.length := by omega
    refine ⟨by omega, ?_⟩
    rw [drop_cons (d := (0, (0, 0), (0, 0), 0, 0)) h1', Sp.idxFrom] at ht
    cases hc : Sp.isClash (nth l (p : Int) (0, (0, 0), (0, 0), 0, 0)) with
    | true => rw [hc] at ht; rw [← ht] at hR; exact hR
    | false =>
      rw [hc] at ht
      exact ⟨by omega, hK _ ⟨p + 1, rfl, by omega, ht⟩ (by simp; omega)⟩
  · rw [drop_end (by omega)] at ht
    rw [← ht] at hR
    exact hR

theorem slices_ContainsFunc_blend_Part_blend_Part.ok (R : Bool → Prop) (l : List (Int × (Int × Int) × (Int × Int) × Int × Int)) (h : Sp.idxClash.pre l) (hR : R (Sp.hasClash l)) : slices_ContainsFunc_blend_Part_blend_Part.vc R l := by
  refine ⟨h, ?_⟩
  unfold Sp.idxClash
  rw [Sp.idx_any _ _ _ (Int.le_refl 0)]
  exact hR

theorem blend_Clean.ok (R : Bool → Prop) (l : List (Int × (Int × Int) × (Int × Int) × Int × Int)) (h : Sp.cleanP.pre l) (hR : R (Sp.cleanP l)) : blend_Clean.vc R l := ⟨h, hR⟩

theorem rectoref25_fellow.ok (R : Int → Prop) (l : List (Int × Int × Bool)) (at_ : Int) (h : Sp.fellow.pre l at_) (hR : R (Sp.fellow l at_)) : rectoref25_fellow.vc R l at_ := by
  unfold Sp.fellow.pre at h
  refine Lp_rule (fun v => ∃ p : Nat, v = (at_, l, (l.length : Int), (p : Int), ()) ∧ p ≤ l.length ∧ Sp.fellow (l.drop p) at_ = Sp.fellow l at_) (fun v => l.length - v.2.2.2.1.toNat) ?_ ⟨0, rfl, Nat.zero_le _, rfl⟩
  rintro _ K ⟨p, rfl, hp, ht⟩ hK
  simp only [rectoref25_fellow.L0, rg64, ix_iff, cond_dec]
  split
  · rename_i h1
    have h1' : p < l.length := by omega
    refine ⟨by omega, ?_⟩
    rw [drop_cons (d := (0, 0, false)) h1', Sp.fellow] at ht
    split
    · rename_i hc
      rw [if_pos hc] at ht; rw [ht]; exact hR
    · rename_i hc
      rw [if_neg hc] at ht
      exact ⟨by omega, hK _ ⟨p + 1, rfl, by omega, ht⟩ (by simp; omega)⟩
  · rw [drop_end (by omega)] at ht
    rw [← ht] at hR
    exact hR

theorem rectoref25_Triples.ok (R : List (List Int) → Prop) (ours theirs : List (Int × Int × Bool)) (e : List Int) (h : Sp.triplesR.pre ours theirs e) (hR : R (Sp.triplesR ours theirs e)) : rectoref25_Triples.vc R ours theirs e := by
  obtain ⟨h1, h2, h3, h4, h5⟩ := h
  unfold Sp.triplesR at hR
  obtain ⟨n, hn⟩ : ∃ n : Nat, nth e 0 0 = n := ⟨(nth e 0 0).toNat, by omega⟩
  rw [hn, Int.toNat_natCast] at hR
  refine Lp_rule (fun v => ∃ (i : Nat) (out : List (List Int)), v = (ours, theirs, (i : Int), e, out, ()) ∧ i ≤ n ∧ out.length ≤ i ∧ out ++ (Sp.triAt ours theirs (n - i) i).map Sp.triL = (Sp.triAt ours theirs n 0).map Sp.triL) (fun v => n - v.2.2.1.toNat) ?_ ⟨0, [], rfl, Nat.zero_le _, Nat.zero_le _, rfl⟩
  rintro _ K ⟨i, out, rfl, hi, ho, hp⟩ hK
  simp only [rectoref25_Triples.L0, rg64, ix_iff, cond_dec, ln_iff, gr_iff, hn, h1]
  refine ⟨trivial, by omega, by omega, ?_⟩
  split
  · rename_i c1
    refine ⟨by unfold Sp.fellow.pre; omega, by unfold Sp.fellow.pre; omega, ?_⟩
    rw [show n - i = (n - (i + 1)) + 1 from by omega, Sp.triAt] at hp
    split
    · rename_i c2
      split
      · rename_i c3
        rw [if_pos ⟨c2, c3⟩] at hp
        exact ⟨by omega, by omega, hK _ ⟨i + 1, _, rfl, by omega, by rw [List.length_append, List.length_singleton]; omega, by rw [← hp]; simp; rfl⟩ (by simp; omega)⟩
      · rename_i c3
        rw [if_neg (fun hh => c3 hh.2)] at hp
        exact ⟨by omega, hK _ ⟨i + 1, _, rfl, by omega, by omega, hp⟩ (by simp; omega)⟩
    · rename_i c2
      rw [if_neg (fun hh => c2 hh.1)] at hp
      exact ⟨by omega, hK _ ⟨i + 1, _, rfl, by omega, by omega, hp⟩ (by simp; omega)⟩
  · have : i = n := by omega
    subst this
    rw [Nat.sub_self, Sp.triAt, List.map_nil, List.append_nil] at hp
    rw [hp]
    exact ⟨trivial, by rw [← hp]; omega, hR⟩

theorem rectoref25_kind.ok (R : Int → Prop) (oa ob ab : Bool) (hR : R (Sp.kindR oa ob ab)) : rectoref25_kind.vc R oa ob ab := by
  revert hR
  cases oa <;> cases ob <;> cases ab <;> exact id
theorem rectoref25_empty.ok (R : Bool → Prop) (p : Int × List Int × List Int) (hR : R (Sp.emptyR p)) : rectoref25_empty.vc R p := hR

theorem rectoplain_Texts.ok (R : Bool → Prop) (a b : List Str) (h : Sp.eqL.pre a b) (hR : R (Sp.eqL a b)) : rectoplain_Texts.vc R a b := by
  unfold Sp.eqL.pre at h
  unfold Sp.eqL at hR
  have ne (hne : a ≠ b) : R false := by rw [decide_eq_false hne] at hR; exact hR
  refine Lp_rule (fun v => ∃ p : Nat, v = (a, b, (a.length : Int), (p : Int), ()) ∧ p ≤ a.length ∧ p ≤ b.length ∧ a.take p = b.take p) (fun v => a.length - v.2.2.2.1.toNat) ?_ ⟨0, rfl, Nat.zero_le _, Nat.zero_le _, rfl⟩
  rintro _ K ⟨p, rfl, hp, hq, ht⟩ hK
  simp only [rectoplain_Texts.L0, cond_dec, cond_ndec, rg64, ix_iff]
  split
  · rename_i h1
    have h1' : p < a.length := by omega
    split
    · rename_i h2; exact ne fun e => by rw [e] at h1'; omega
    have h2' : p < b.length := by omega
    refine ⟨by omega, by omega, ?_⟩
    split
    · rename_i e1
      refine ⟨by omega, hK _ ⟨p + 1, rfl, by omega, by omega, ?_⟩ (by simp; omega)⟩
      rw [take_succ (d := []) h1', take_succ (d := []) h2', ht, e1]
    · rename_i e1; exact ne fun e => e1 (by rw [e])
  · have : p = a.length := by omega
    subst this
    rw [List.take_length] at ht
    have : decide ((a.length : Int) = b.length) = decide (a = b) := by
      apply decide_eq_decide.2
      constructor
      · intro e; rw [ht, List.take_of_length_le (by omega)]
      · intro e; rw [e]
    rw [this]
    exact hR

namespace Sp
theorem segR {o a b : List Str} {f t : Tri} (h : In o a b f t) : (segA (kdT o a b) f t).map toR = if f = t then [] else
    [(kindR (eqL (sub o f.1 t.1) (sub a f.2.1 t.2.1)) (eqL (sub o f.1 t.1) (sub b f.2.2 t.2.2)) (eqL (sub a f.2.1 t.2.1) (sub b f.2.2 t.2.2)), [f.1, f.2.1, f.2.2], [t.1, t.2.1, t.2.2])] := by
  unfold segA
  have hz := kd_zero h
  by_cases hf : f = t
  · rw [if_pos (hz.2 hf), if_pos hf]; rfl
  · have hk : kdT o a b f t ≠ 0 := fun e => hf (hz.1 e)
    rw [if_neg hk, if_neg hf]
    have : kdT o a b f t = kindOf eqL (sub o f.1 t.1) (sub a f.2.1 t.2.1) (sub b f.2.2 t.2.2) := by
      rcases kind0_or eqL (sub o f.1 t.1) (sub a f.2.1 t.2.1) (sub b f.2.2 t.2.2) with h | h
      · exact absurd h hk
      · exact h
    rw [this]
    rfl
theorem emptyR_eq (k : Int) (f t : Tri) : emptyR (k, [f.1, f.2.1, f.2.2], [t.1, t.2.1, t.2.2]) = decide (f = t) := by
  obtain ⟨f1, f2, f3⟩ := f
  obtain ⟨t1, t2, t3⟩ := t
  simp [emptyR, eqI, Prod.ext_iff]
theorem nth_app_lt {α : Type} {l m : List α} {p : Nat} {d : α} (h : p < l.length) : nth (l ++ m) (p : Int) d = nth l (p : Int) d := by
  rw [nth_lt (by simp; omega), nth_lt h, List.getElem_append_left h]
end Sp

namespace Sp
theorem same25_len : ∀ (a : List Part) (b : List PartR), a.length ≠ b.length → same25 a b = false
  | [], [], h => absurd rfl h
  | [], _ :: _, _ => rfl
  | _ :: _, [], _ => rfl
  | p :: a, q :: b, h => by
    rw [same25, same25_len a b (by simpa using h), Bool.and_false]
theorem same25_nth : ∀ (a : List Part) (b : List PartR) (p : Nat) (da : Part) (db : PartR), p < a.length → p < b.length → samePR (nth a (p : Int) da) (nth b (p : Int) db) = false → same25 a b = false
  | x :: a, y :: b, 0, da, db, _, _, h => by
    have h' : samePR x y = false := h
    rw [same25, h', Bool.false_and]
  | x :: a, y :: b, p + 1, da, db, h1, h2, h => by
    rw [same25, same25_nth a b p da db (by simpa using h1) (by simpa using h2) h, Bool.and_false]
theorem same25_all (a : List Part) (b : List PartR) (da : Part) (db : PartR) : a.length = b.length → (∀ p, p < a.length → samePR (nth a (p : Int) da) (nth b (p : Int) db) = true) → same25 a b = true := by
  induction a generalizing b with
  | nil => intro h _; cases b with | nil => rfl | cons _ _ => simp at h
  | cons x a ih =>
    intro h hp
    cases b with
    | nil => simp at h
    | cons y b =>
      have h0 : samePR x y = true := hp 0 (by simp)
      rw [same25, h0, Bool.true_and]
      exact ih b (by simpa using h) fun p hl => hp (p + 1) (by simpa using hl)
end Sp

theorem rectolaw25_same.ok (R : Bool → Prop) (a : List (Int × (Int × Int) × (Int × Int) × Int × Int)) (b : List (Int × List Int × List Int)) (h : Sp.same25.pre a b) (hR : R (Sp.same25 a b)) : rectolaw25_same.vc R a b := by
  unfold Sp.same25.pre at h
  refine Lp_rule (fun v => ∃ p : Nat, v = (a, b, a, (a.length : Int), (p : Int), ()) ∧ p ≤ a.length ∧ p ≤ b.length ∧ ∀ q, q < p → Sp.samePR (nth a (q : Int) (0, (0, 0), (0, 0), 0, 0)) (nth b (q : Int) (0, List.replicate 3 0, List.replicate 3 0)) = true) (fun v => a.length - v.2.2.2.2.1.toNat) ?_ ⟨0, rfl, Nat.zero_le _, Nat.zero_le _, fun q hq => absurd hq (Nat.not_lt_zero _)⟩
  rintro _ K ⟨p, rfl, hp, hq, ht⟩ hK
  simp only [rectolaw25_same.L0]
  rw [cond_dec]
  split
  · rename_i h1
    have h1' : p < a.length := by omega
    rw [cond_dec]
    refine ⟨by rw [ix_iff]; omega, ?_⟩
    split
    · rename_i h2
      rw [Sp.same25_len a b (by omega)] at hR
      exact hR
    rename_i h2
    have h2' : p < b.length := by omega
    have ix : Ix (p : Int) b.length := by rw [ix_iff]; omega
    refine ⟨ix, ?_⟩
    have no (hne : Sp.samePR (nth a (p : Int) (0, (0, 0), (0, 0), 0, 0)) (nth b (p : Int) (0, List.replicate 3 0, List.replicate 3 0)) = false) : R false := by
      rw [Sp.same25_nth a b p _ _ h1' h2' hne] at hR; exact hR
    have nx := ht
    generalize hx : nth a (p : Int) (0, (0, 0), (0, 0), 0, 0) = x at *
    generalize hy : nth b (p : Int) (0, List.replicate 3 0, List.replicate 3 0) = y at *
    have ek : eqI x.1 y.1 = decide (x.1 = y.1) := rfl
    unfold Sp.samePR at no
    rw [← ek]
    cases e1 : eqI x.1 y.1 with
    | false => exact no (by rw [e1, Bool.false_and])
    | true =>
      refine ⟨ix, ?_⟩
      rw [e1, Bool.true_and] at no
      have e2' : ((List.zipWith (fun x x_1 => eqI x x_1) [x.2.1.1, x.2.2.1.1, x.2.2.2.1] y.2.1).all fun a => a) = (List.zipWith eqI [x.2.1.1, x.2.2.1.1, x.2.2.2.1] y.2.1).all id := rfl
      have e3' : ((List.zipWith (fun x x_1 => eqI x x_1) [x.2.1.2, x.2.2.1.2, x.2.2.2.2] y.2.2).all fun a => a) = (List.zipWith eqI [x.2.1.2, x.2.2.1.2, x.2.2.2.2] y.2.2).all id := rfl
      rw [e2', e3']
      cases e2 : (List.zipWith eqI [x.2.1.1, x.2.2.1.1, x.2.2.2.1] y.2.1).all id with
      | false => exact no (by rw [e2, Bool.false_and])
      | true =>
        rw [e2, Bool.true_and] at no
        refine ⟨ix, ?_⟩
        cases e3 : (List.zipWith eqI [x.2.1.2, x.2.2.1.2, x.2.2.2.2] y.2.2).all id with
        | false => exact no e3
        | true =>
          refine ⟨by rw [rg64]; omega, hK _ ⟨p + 1, rfl, by omega, by omega, fun q hq => ?_⟩ (by simp; omega)⟩
          by_cases hqp : q = p
          · subst hqp
            rw [hx, hy]
            unfold Sp.samePR
            rw [e1, e2, e3]; rfl
          · exact ht q (by omega)
  · have : p = a.length := by omega
    subst this
    by_cases hl : a.length = b.length
    · rw [Sp.same25_all a b _ _ hl ht] at hR
      rw [decide_eq_true (by omega)]; exact hR
    · rw [Sp.same25_len a b hl] at hR
      rw [decide_eq_false (by omega)]; exact hR

namespace Sp
theorem joinL_len {o a b : List Str} : ∀ {l : List PartA} {f : Tri}, Le3 (0, 0, 0) f → Chn o a b f l → ((joinL o a b l).length : Int) ≤ (o.length - f.1) + (a.length - f.2.1) + (b.length - f.2.2)
  | [], f, _, h => by cases h; simp [joinL, ends]
  | p :: r, f, h0, ⟨h1, h2, h3, h4, h5⟩ => by
    have ih := joinL_len (h0.trans h2) h5
    have hl := Chn.le h5
    rw [joinL, List.length_append]
    cases h1
    obtain ⟨k, f, t⟩ := p
    simp only at *
    obtain ⟨a1, a2, a3⟩ := h0
    obtain ⟨a4, a5, a6⟩ := h2
    obtain ⟨a7, a8, a9⟩ := hl
    unfold ends at a7 a8 a9
    simp only at *
    have s1 := sub_len a1 a4 a7
    have s2 := sub_len a2 a5 a8
    have s3 := sub_len a3 a6 a9
    have : ((joinOne o a b (k, f, t)).length : Int) ≤ (t.1 - f.1) + (t.2.1 - f.2.1) + (t.2.2 - f.2.2) := by
      unfold joinOne
      simp only
      split
      · omega
      split
      · omega
      split
      · rw [List.length_append]; omega
      · omega
    omega
theorem joinP_len (o a b : List Str) : (joinP o a b).1.length ≤ o.length + a.length + b.length := by
  have := joinL_len le0 (blend_chn o a b)
  unfold joinP
  simp only at *
  omega
theorem blendT_len (o a b : List Str) : (blendT o a b).length ≤ 2 * o.length + 1 := by
  unfold blendT; rw [List.length_map]; exact partsA_len o a b _ _
theorem same_maps : ∀ l : List PartA, same25 (l.map toP) (l.map toR) = true
  | [] => rfl
  | p :: l => by
    rw [List.map_cons, List.map_cons, same25, same_maps l, Bool.and_true]
    simp [samePR, toP, toR, eqI]
end Sp

theorem rectolaw25_four.ok (R : Bool → Prop) (hR : R Sp.tt) : rectolaw25_four.vc R := by
  refine ⟨?_, ?_, ?_, ⟨by decide, by decide⟩, ?_, ?_, hR⟩
  · exact ⟨by decide, by decide, by decide⟩
  · exact ⟨by decide, by decide, by decide⟩
  · have := Sp.joinP_len [[97], [98], [99]] [[97], [120], [99]] [[97], [98], [99], [100]]
    simp only [List.length_cons, List.length_nil] at this
    unfold Sp.eqL.pre; omega
  · have := Sp.blendT_len [[97]] [[98]] [[99]]
    simp only [List.length_cons, List.length_nil] at this
    unfold Sp.cleanP.pre; omega
  · unfold Sp.cleanP.pre; decide

namespace Sp
end Sp

namespace Sp
def swap (t : Tri) : Tri := (t.1, t.2.2, t.2.1)
/-- One piece, and the same one turned. -/
def Tw (o a b : List Str) (p q : PartA) : Prop := q.2.1 = swap p.2.1 ∧ q.2.2 = swap p.2.2 ∧ ((p.1 = 1 ∧ q.1 = 1) ∨ (p.1 = kdT o a b p.2.1 p.2.2 ∧ q.1 = kdT o b a q.2.1 q.2.2 ∧ p.1 ≠ 0 ∧ q.1 ≠ 0))
def Tws (o a b : List Str) : List PartA → List PartA → Prop
  | [], [] => True
  | p :: l, q :: m => Tw o a b p q ∧ Tws o a b l m
  | _, _ => False
theorem Tws.nth {o a b : List Str} {d : PartA} : ∀ {l m : List PartA}, Tws o a b l m → ∀ p, p < l.length → Tw o a b (nth l (p : Int) d) (nth m (p : Int) d)
  | x :: l, y :: m, h, 0, _ => h.1
  | x :: l, y :: m, h, p + 1, hp => Tws.nth h.2 p (by simpa using hp)
end Sp
