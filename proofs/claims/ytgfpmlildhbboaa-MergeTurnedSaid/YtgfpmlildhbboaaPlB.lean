/- Three lists lined up: what is told, shown of the conditions. Plain theorems. -/
import Derived.Test.YtgfpmlildhbboaaPlA
import Derived.Test.YtgfpmlildhbboaaVcB
import Derived.Test.YtgfpmlildhbboaaViThree
set_option linter.unnecessarySimpa false
set_option linter.unusedVariables false
set_option linter.unusedSectionVars false
set_option linter.unusedSimpArgs false
set_option autoImplicit false
open Go Vi

namespace Sp
theorem sub_len {α : Type} {l : List α} {i j : Int} (h1 : 0 ≤ i) (h2 : i ≤ j) (h3 : j ≤ (l.length : Int)) : ((sub l i j).length : Int) = j - i := by
  unfold sub; rw [List.length_drop, List.length_take]; omega
theorem sub_le {α : Type} (l : List α) (i j : Int) : (sub l i j).length ≤ l.length := by
  unfold sub; rw [List.length_drop, List.length_take]; omega
theorem sub_cat {α : Type} {l : List α} {i j k : Int} (h1 : 0 ≤ i) (h2 : i ≤ j) (h3 : j ≤ k) (h4 : k ≤ (l.length : Int)) : sub l i j ++ sub l j k = sub l i k := by
  obtain ⟨i, rfl⟩ : ∃ n : Nat, i = n := ⟨i.toNat, by omega⟩
  obtain ⟨j, rfl⟩ : ∃ n : Nat, j = n := ⟨j.toNat, by omega⟩
  obtain ⟨k, rfl⟩ : ∃ n : Nat, k = n := ⟨k.toNat, by omega⟩
  unfold sub
  simp only [Int.toNat_natCast]
  have e : l.take k = l.take j ++ (l.take k).drop j := by
    have := List.take_append_drop j (l.take k)
    rw [List.take_take, Nat.min_eq_left (by omega)] at this
    exact this.symm
  conv => rhs; rw [e]
  rw [List.drop_append_of_le_length (by rw [List.length_take]; omega)]
theorem sub_self {α : Type} (l : List α) {i : Int} : sub l i i = [] := by
  unfold sub; exact List.drop_eq_nil_of_le (by rw [List.length_take]; omega)
theorem sub_all {α : Type} (l : List α) : sub l 0 (l.length : Int) = l := by simp [sub]
theorem sub_one {α : Type} {l : List α} {i : Int} (d : α) (h1 : 0 ≤ i) (h2 : i < (l.length : Int)) : sub l i (i + 1) = [nth l i d] := by
  obtain ⟨i, rfl⟩ : ∃ n : Nat, i = n := ⟨i.toNat, by omega⟩
  have h2' : i < l.length := by omega
  unfold sub
  rw [show ((i : Int) + 1).toNat = i + 1 from by omega, Int.toNat_natCast, take_succ (d := d) h2', List.drop_append_of_le_length (by rw [List.length_take]; omega), List.drop_eq_nil_of_le (by rw [List.length_take]; omega)]
  rfl
theorem sub_empty {α : Type} {l : List α} {i j : Int} (h1 : 0 ≤ i) (h2 : i ≤ j) (h3 : j ≤ (l.length : Int)) : (sub l i j).isEmpty = true ↔ i = j := by
  rw [List.isEmpty_iff, ← List.length_eq_zero_iff]
  have := sub_len h1 h2 h3
  omega

/-- Pairs that rise are bounded, and their fellows rise. -/
def Up (n m : Nat) (f : Int → Int) : Prop := (∀ x, 0 ≤ f x → 0 ≤ x ∧ x < n ∧ f x < m) ∧ ∀ x y, x < y → 0 ≤ f x → 0 ≤ f y → f x < f y
theorem rises_bound (n m : Nat) : ∀ (l : List Pair) (i j : Nat), Rises n m i j l → ∀ x, 0 ≤ fellow l x → (i : Int) ≤ x ∧ x < n ∧ (j : Int) ≤ fellow l x ∧ fellow l x < m
  | [], _, _, _, x, hx => by simp [fellow] at hx
  | p :: l, i, j, h, x, hx => by
    obtain ⟨h1, h2, h3, h4, h5⟩ := h
    rw [fellow] at hx ⊢
    split
    · omega
    · rename_i hne
      rw [if_neg hne] at hx
      have := rises_bound n m l _ _ h5 x hx
      omega
theorem rises_up (n m : Nat) : ∀ (l : List Pair) (i j : Nat), Rises n m i j l → Up n m (fellow l)
  | [], _, _, _ => ⟨fun x hx => by simp [fellow] at hx, fun x y _ hx => by simp [fellow] at hx⟩
  | p :: l, i, j, h => by
    obtain ⟨h1, h2, h3, h4, h5⟩ := h
    have ih := rises_up n m l _ _ h5
    have b := rises_bound n m l _ _ h5
    constructor
    · intro x hx
      rw [fellow] at hx ⊢
      split
      · omega
      · rename_i hne
        rw [if_neg hne] at hx
        exact ih.1 x hx
    · intro x y hxy hx hy
      rw [fellow] at hx hy ⊢
      rw [fellow]
      by_cases hpx : p.1 = x
      · rw [if_pos hpx] at hx ⊢
        rw [if_neg (by omega)] at hy ⊢
        have := b y hy
        omega
      · rw [if_neg hpx] at hx ⊢
        by_cases hpy : p.1 = y
        · have := b x hx
          omega
        · rw [if_neg hpy] at hy ⊢
          exact ih.2 x y hxy hx hy

theorem chain_lines (a b : List Str) : ∀ (n i j : Nat), a.length + b.length ≤ n + i + j → i ≤ a.length → j ≤ b.length → Chain a b i j (linesAt i j (a.drop i) (b.drop j)) := by
  intro n
  induction n with
  | zero => intro i j h hi hj; rw [drop_end (by omega), linesAt_nil]; trivial
  | succ n ih =>
    intro i j h hi hj
    by_cases h1 : i < a.length
    · by_cases h2 : j < b.length
      · rw [drop_cons (d := []) h1, drop_cons (d := []) h2, linesAt]
        split
        · rename_i he
          exact ⟨Int.le_refl _, by simpa using h1, Int.le_refl _, by simpa using h2, he, by simpa using ih (i + 1) (j + 1) (by omega) (by omega) (by omega)⟩
        · rw [← drop_cons h1, ← drop_cons h2]
          split
          · have := ih (i + 1) j (by omega) (by omega) (by omega)
            exact chain_mono a b _ this (by omega) (by omega)
          · have := ih i (j + 1) (by omega) (by omega) (by omega)
            exact chain_mono a b _ this (by omega) (by omega)
      · rw [drop_end (l := b) (by omega), linesAt_nil2]; trivial
    · rw [drop_end (by omega), linesAt_nil]; trivial
where
  chain_mono (a b : List Str) : ∀ (l : List Pair) {i j i' j' : Nat}, Chain a b i' j' l → i ≤ i' → j ≤ j' → Chain a b i j l
    | [], _, _, _, _, _, _, _ => trivial
    | x :: l, i, j, i', j', h, h1, h2 => by
      obtain ⟨a1, a2, a3, a4, a5, a6⟩ := h
      exact ⟨by omega, a2, by omega, a4, a5, a6⟩
theorem chain_rises (a b : List Str) : ∀ (l : List Pair) (i j : Nat), Chain a b i j l → Rises a.length b.length i j l
  | [], _, _, _ => trivial
  | x :: l, i, j, h => by
    obtain ⟨a1, a2, a3, a4, _, a6⟩ := h
    exact ⟨a1, a2, a3, a4, chain_rises a b l _ _ a6⟩
theorem lines_chain (a b : List Str) : Chain a b 0 0 (lines a b) := by
  exact chain_lines a b (a.length + b.length) 0 0 (by omega) (by omega) (by omega)
theorem lines_rises (a b : List Str) : Rises a.length b.length 0 0 (lines a b) := chain_rises a b _ _ _ (lines_chain a b)
theorem fellow_same : ∀ (a : List Str) (i x : Int), i ≤ x → x < i + a.length → fellow (linesAt i i a a) x = x
  | [], i, x, h1, h2 => by simp at h2; omega
  | s :: a, i, x, h1, h2 => by
    rw [linesAt, if_pos rfl, fellow]
    split
    · assumption
    · rename_i hne
      simp only [List.length_cons] at h2
      exact fellow_same a (i + 1) x (by simp at hne; omega) (by omega)

def Le3 (f t : Tri) : Prop := f.1 ≤ t.1 ∧ f.2.1 ≤ t.2.1 ∧ f.2.2 ≤ t.2.2
def Asc : Tri → List Tri → Tri → Prop
  | f, [], e => Le3 f e
  | f, t :: r, e => Le3 f t ∧ Asc (next t) r e
theorem Asc.le : ∀ {f : Tri} {ts : List Tri} {e : Tri}, Asc f ts e → Le3 f e
  | _, [], _, h => h
  | f, t :: r, e, ⟨h1, h2⟩ => by
    have := Asc.le h2
    unfold Le3 next at *
    simp only at *
    omega
theorem asc_triAt {n m m' : Nat} {ours theirs : List Pair} (h1 : Up n m (fellow ours)) (h2 : Up n m' (fellow theirs)) : ∀ (k : Nat) (i : Int) (f : Tri), i + k = n → f.1 ≤ i → f.2.1 ≤ m → f.2.2 ≤ m' →
    (∀ y, i ≤ y → 0 ≤ fellow ours y → f.2.1 ≤ fellow ours y) → (∀ y, i ≤ y → 0 ≤ fellow theirs y → f.2.2 ≤ fellow theirs y) → Asc f (triAt ours theirs k i) (n, m, m')
  | 0, i, f, hi, g1, g2, g3, _, _ => ⟨by simp; omega, g2, g3⟩
  | k + 1, i, f, hi, g1, g2, g3, g4, g5 => by
    rw [triAt]
    split
    · rename_i hc
      have b1 := h1.1 i hc.1
      have b2 := h2.1 i hc.2
      refine ⟨⟨g1, g4 i (Int.le_refl _) hc.1, g5 i (Int.le_refl _) hc.2⟩, ?_⟩
      refine asc_triAt h1 h2 k (i + 1) _ (by omega) (Int.le_refl _) (by simp [next]; omega) (by simp [next]; omega) (fun y hy h0 => ?_) (fun y hy h0 => ?_)
      · have := h1.2 i y (by omega) hc.1 h0
        simp [next]; omega
      · have := h2.2 i y (by omega) hc.2 h0
        simp [next]; omega
    · exact asc_triAt h1 h2 k (i + 1) f (by omega) (by omega) g2 g3 (fun y hy h0 => g4 y (by omega) h0) (fun y hy h0 => g5 y (by omega) h0)
theorem asc_all {n m m' : Nat} {ours theirs : List Pair} (h1 : Up n m (fellow ours)) (h2 : Up n m' (fellow theirs)) : Asc (0, 0, 0) (triAt ours theirs n 0) (n, m, m') :=
  asc_triAt h1 h2 n 0 _ (by simp) (Int.le_refl _) (by simp) (by simp) (fun _ _ h => h) (fun _ _ h => h)
theorem triAt_len (ours theirs : List Pair) : ∀ (k : Nat) (i : Int), (triAt ours theirs k i).length ≤ k
  | 0, i => Nat.le_refl _
  | k + 1, i => by
    rw [triAt]
    have := triAt_len ours theirs k (i + 1)
    split
    · simp; omega
    · omega

theorem kindOf_ne {α : Type} (same : List α → List α → Bool) (x y z : List α) : 2 ≤ kindOf same x y z ∧ kindOf same x y z ≤ 5 := by
  unfold kindOf
  cases same x y <;> cases same x z <;> cases same y z <;> simp
theorem kind0_zero {α : Type} (same : List α → List α → Bool) (x y z : List α) : kind0 same x y z = 0 ↔ x.isEmpty = true ∧ y.isEmpty = true ∧ z.isEmpty = true := by
  unfold kind0
  have := kindOf_ne same x y z
  cases x.isEmpty <;> cases y.isEmpty <;> cases z.isEmpty <;> simp <;> omega
theorem kind0_or {α : Type} (same : List α → List α → Bool) (x y z : List α) : kind0 same x y z = 0 ∨ kind0 same x y z = kindOf same x y z := by
  unfold kind0
  cases x.isEmpty <;> cases y.isEmpty <;> cases z.isEmpty <;> simp
theorem kd_range (o a b : List Str) (f t : Tri) : kdT o a b f t = 0 ∨ (2 ≤ kdT o a b f t ∧ kdT o a b f t ≤ 5) := by
  unfold kdT
  rcases kind0_or eqL (sub o f.1 t.1) (sub a f.2.1 t.2.1) (sub b f.2.2 t.2.2) with h | h
  · exact .inl h
  · rw [h]; exact .inr (kindOf_ne _ _ _ _)
/-- Places that a piece may have. -/
def In (o a b : List Str) (f t : Tri) : Prop := Le3 (0, 0, 0) f ∧ Le3 f t ∧ Le3 t (ends o a b)
theorem kd_zero {o a b : List Str} {f t : Tri} (h : In o a b f t) : kdT o a b f t = 0 ↔ f = t := by
  unfold kdT
  obtain ⟨⟨h1, h2, h3⟩, ⟨h4, h5, h6⟩, h7, h8, h9⟩ := h
  unfold ends at h7 h8 h9
  rw [kind0_zero, sub_empty h1 h4 h7, sub_empty h2 h5 h8, sub_empty h3 h6 h9]
  constructor
  · rintro ⟨e1, e2, e3⟩; exact Prod.ext e1 (Prod.ext e2 e3)
  · rintro rfl; exact ⟨rfl, rfl, rfl⟩
end Sp

namespace Sp
/-- A chain of pieces: each starts where the last ended. -/
def Pc (o a b : List Str) (p : PartA) : Prop := (p.1 = 1 ∧ p.2.2 = next p.2.1 ∧ p.2.1.1 < o.length ∧ p.2.1.2.1 < a.length ∧ p.2.1.2.2 < b.length) ∨ (p.1 = kdT o a b p.2.1 p.2.2 ∧ 2 ≤ p.1 ∧ p.1 ≤ 5)
def Chn (o a b : List Str) : Tri → List PartA → Prop
  | f, [] => f = ends o a b
  | f, p :: r => p.2.1 = f ∧ Le3 f p.2.2 ∧ p.2.2 ≠ f ∧ Pc o a b p ∧ Chn o a b p.2.2 r
theorem Chn.le {o a b : List Str} : ∀ {l : List PartA} {f : Tri}, Chn o a b f l → Le3 f (ends o a b)
  | [], _, h => by cases h; exact ⟨Int.le_refl _, Int.le_refl _, Int.le_refl _⟩
  | p :: r, f, ⟨_, h2, _, _, h5⟩ => by
    have := Chn.le h5
    unfold Le3 at *
    omega
theorem Le3.trans {f g h : Tri} (h1 : Le3 f g) (h2 : Le3 g h) : Le3 f h := by unfold Le3 at *; omega
theorem le_next (t : Tri) : Le3 t (next t) := by unfold Le3 next; simp only; omega
theorem next_ne (t : Tri) : next t ≠ t := fun e => by
  have := congrArg (fun x : Tri => x.1) e
  simp only [next] at this
  omega

theorem seg_chn {o a b : List Str} {f t : Tri} (h : In o a b f t) {l : List PartA} (hl : Chn o a b t l) : Chn o a b f (segA (kdT o a b) f t ++ l) := by
  unfold segA
  have hz := kd_zero h
  split
  · rename_i h0
    cases hz.1 h0
    exact hl
  · rename_i h0
    refine ⟨rfl, h.2.1, fun e => h0 (hz.2 e.symm), .inr ⟨rfl, ?_⟩, hl⟩
    rcases kd_range o a b f t with h' | h'
    · exact absurd h' h0
    · exact h'
theorem pts_chn {o a b : List Str} : ∀ {ts : List Tri} {f : Tri}, Le3 (0, 0, 0) f → Asc f ts (ends o a b) → Chn o a b f (pts (kdT o a b) f ts (ends o a b))
  | [], f, h0, h => by
    have := seg_chn (o := o) (a := a) (b := b) (l := []) ⟨h0, h, ⟨Int.le_refl _, Int.le_refl _, Int.le_refl _⟩⟩ rfl
    rw [List.append_nil] at this
    exact this
  | t :: r, f, h0, ⟨h1, h2⟩ => by
    have l2 := h2.le
    have n2 : Le3 t (ends o a b) := (le_next t).trans l2
    refine seg_chn ⟨h0, h1, n2⟩ ⟨rfl, le_next t, next_ne t, .inl ⟨rfl, rfl, ?_⟩, pts_chn ((h0.trans h1).trans (le_next t)) h2⟩
    unfold Le3 next ends at l2
    simp only at l2
    show t.1 < (o.length : Int) ∧ t.2.1 < (a.length : Int) ∧ t.2.2 < (b.length : Int)
    omega
theorem seg_len (kd : Tri → Tri → Int) (f t : Tri) : (segA kd f t).length ≤ 1 := by unfold segA; split <;> simp
theorem pts_len (kd : Tri → Tri → Int) (e : Tri) : ∀ (ts : List Tri) (f : Tri), (pts kd f ts e).length ≤ 2 * ts.length + 1
  | [], f => seg_len kd f e
  | t :: r, f => by
    have := pts_len kd e r (next t)
    have := seg_len kd f t
    rw [pts]
    simp only [List.length_append, List.length_cons]
    omega
theorem partsA_len (o a b : List Str) (ours theirs : List Pair) : (partsA o a b ours theirs).length ≤ 2 * o.length + 1 := by
  have := pts_len (kdT o a b) (ends o a b) (triAt ours theirs o.length 0) (0, 0, 0)
  have := triAt_len ours theirs o.length 0
  unfold partsA
  omega
theorem le0 : Le3 (0, 0, 0) (0, 0, 0) := ⟨Int.le_refl _, Int.le_refl _, Int.le_refl _⟩
theorem nth_map {α β : Type} (g : α → β) (l : List α) (p : Nat) (d : α) (d' : β) (h : p < l.length) : nth (l.map g) (p : Int) d' = g (nth l (p : Int) d) := by
  rw [nth_lt (by simpa using h), nth_lt h, List.getElem_map]

theorem idx_fellow : ∀ (l : List Pair) (pre : List Pair) (x : Int), (idxFrom (fun p => isA p x) pre.length l = -1 ∧ fellow l x = -1) ∨
    (0 ≤ idxFrom (fun p => isA p x) pre.length l ∧ idxFrom (fun p => isA p x) pre.length l < ((pre ++ l).length : Int) ∧ (nth (pre ++ l) (idxFrom (fun p => isA p x) pre.length l) (0, 0, false)).2.1 = fellow l x)
  | [], _, _ => .inl ⟨rfl, rfl⟩
  | p :: l, pre, x => by
    rw [idxFrom, fellow, isA, Bool.cond_decide]
    by_cases h : p.1 = x
    · right
      rw [if_pos h, if_pos h]
      exact ⟨by omega, by simp; omega, by rw [nth_mid _ _ _ _ rfl]⟩
    · rw [if_neg h, if_neg h]
      have := idx_fellow l (pre ++ [p]) x
      rw [List.append_assoc] at this
      simpa using this
end Sp

theorem blend_fellow_1.ok (R : Bool → Int → Prop) (p : Int × Int × Bool) (at_ : Int) (hR : R (Sp.isA p at_) at_) : blend_fellow_1.vc R p at_ := hR

theorem slices_IndexFunc_match_Pair_match_Pair.ok (R : Int → Int → Prop) (l : List (Int × Int × Bool)) (at_ : Int) (h : Sp.idxA.pre l) (hR : R (Sp.idxA l at_) at_) : slices_IndexFunc_match_Pair_match_Pair.vc R l at_ := by
  unfold Sp.idxA.pre at h
  refine Lp_rule (fun v => ∃ p : Nat, v = (l, (l.length : Int), (p : Int), at_, ()) ∧ p ≤ l.length ∧ Sp.idxFrom (fun q => Sp.isA q at_) p (l.drop p) = Sp.idxA l at_) (fun v => l.length - v.2.2.1.toNat) ?_ ⟨0, rfl, Nat.zero_le _, rfl⟩
  rintro _ K ⟨p, rfl, hp, ht⟩ hK
  simp only [slices_IndexFunc_match_Pair_match_Pair.L0, rg64, ix_iff]
  rw [cond_dec]
  split
  · rename_i h1
    have h1' : p < l.length := by omega
    refine ⟨by omega, ?_⟩
    rw [drop_cons (d := (0, 0, false)) h1', Sp.idxFrom] at ht
    cases hc : Sp.isA (nth l (p : Int) (0, 0, false)) at_ with
    | true => rw [hc] at ht; rw [← ht] at hR; exact hR
    | false =>
      rw [hc] at ht
      exact ⟨by omega, hK _ ⟨p + 1, rfl, by omega, ht⟩ (by simp; omega)⟩
  · rw [drop_end (by omega)] at ht
    rw [← ht] at hR
    exact hR

theorem blend_fellow.ok (R : Int → Prop) (l : List (Int × Int × Bool)) (at_ : Int) (h : Sp.fellow.pre l at_) (hR : R (Sp.fellow l at_)) : blend_fellow.vc R l at_ := by
  refine ⟨h, ?_⟩
  rw [cond_dec]
  have e : Sp.idxA l at_ = Sp.idxFrom (fun p => Sp.isA p at_) ((([] : List Sp.Pair).length : Nat) : Int) l := rfl
  rcases Sp.idx_fellow l [] at_ with ⟨h1, h2⟩ | ⟨h1, h2, h3⟩
  · rw [e, h1, if_neg (by decide), ← h2]; exact hR
  · rw [← e] at h1 h2 h3
    rw [if_pos h1, ix_iff]
    simp only [List.nil_append] at h2 h3
    rw [h3]
    exact ⟨⟨h1, h2⟩, hR⟩

namespace Sp
abbrev d0 : PartA := (0, (0, 0, 0), (0, 0, 0))
end Sp

namespace Sp
end Sp

namespace Sp
end Sp

namespace Sp
end Sp

namespace Sp
/-- Each piece of a chain: a place of its own, or a seam between places. -/
theorem pts_all {o a b : List Str} (Q : Tri → Prop) (hn : ∀ t, Q t → Q (next t)) : ∀ {ts : List Tri} {f e : Tri}, Q f → (∀ t ∈ ts, Q t) → Q e →
    ∀ p ∈ pts (kdT o a b) f ts e, Q p.2.1 ∧ Q p.2.2 ∧ ((p.1 = 1 ∧ p.2.1 ∈ ts ∧ p.2.2 = next p.2.1) ∨ (p.1 ≠ 0 ∧ p.1 = kdT o a b p.2.1 p.2.2))
  | [], f, e, h1, _, h3, p, hp => by
    rw [pts, segA] at hp
    split at hp
    · cases hp
    · rename_i h0
      cases List.mem_singleton.1 hp
      exact ⟨h1, h3, .inr ⟨h0, rfl⟩⟩
  | t :: ts, f, e, h1, h2, h3, p, hp => by
    rw [pts, List.mem_append, List.mem_cons] at hp
    rcases hp with hp | rfl | hp
    · rw [segA] at hp
      split at hp
      · cases hp
      · rename_i h0
        cases List.mem_singleton.1 hp
        exact ⟨h1, h2 t List.mem_cons_self, .inr ⟨h0, rfl⟩⟩
    · exact ⟨h2 t List.mem_cons_self, hn t (h2 t List.mem_cons_self), .inl ⟨rfl, List.mem_cons_self, rfl⟩⟩
    · have := pts_all Q hn (hn t (h2 t List.mem_cons_self)) (fun x hx => h2 x (List.mem_cons_of_mem _ hx)) h3 p hp
      obtain ⟨r1, r2, r3⟩ := this
      refine ⟨r1, r2, ?_⟩
      rcases r3 with ⟨r4, r5, r6⟩ | r3
      · exact .inl ⟨r4, List.mem_cons_of_mem _ r5, r6⟩
      · exact .inr r3
theorem triAt_mem (ours theirs : List Pair) : ∀ (k : Nat) (i : Int) (t : Tri), t ∈ triAt ours theirs k i → i ≤ t.1 ∧ t.1 < i + k ∧ t.2.1 = fellow ours t.1 ∧ t.2.2 = fellow theirs t.1 ∧ 0 ≤ t.2.1 ∧ 0 ≤ t.2.2
  | 0, i, t, h => by rw [triAt] at h; cases h
  | k + 1, i, t, h => by
    rw [triAt] at h
    split at h
    · rename_i hc
      rcases List.mem_cons.1 h with rfl | h
      · exact ⟨Int.le_refl _, by simp only; omega, rfl, rfl, hc.1, hc.2⟩
      · have := triAt_mem ours theirs k (i + 1) t h
        exact ⟨by omega, by omega, this.2.2⟩
    · have := triAt_mem ours theirs k (i + 1) t h
      exact ⟨by omega, by omega, this.2.2⟩
theorem eqL_refl (x : List Str) : eqL x x = true := decide_eq_true rfl
theorem kd_of {o a b : List Str} {f t : Tri} (h : kdT o a b f t ≠ 0) : kdT o a b f t = kindOf eqL (sub o f.1 t.1) (sub a f.2.1 t.2.1) (sub b f.2.2 t.2.2) := by
  rcases kind0_or eqL (sub o f.1 t.1) (sub a f.2.1 t.2.1) (sub b f.2.2 t.2.2) with e | e
  · exact absurd e h
  · exact e
theorem le_a {f t : Tri} (h : Le3 f t) : f.2.1 ≤ t.2.1 := h.2.1
theorem le_b {f t : Tri} (h : Le3 f t) : f.2.2 ≤ t.2.2 := h.2.2
theorem triAt_same (l : List Pair) (n : Nat) : ∀ t ∈ triAt l l n 0, t.2.1 = t.2.2 := fun t ht => by
  obtain ⟨_, _, m1, m2, _⟩ := triAt_mem _ _ _ _ _ ht
  rw [m1, m2]
end Sp

namespace Sp
def swap (t : Tri) : Tri := (t.1, t.2.2, t.2.1)
theorem eqL_comm (x y : List Str) : eqL x y = eqL y x := decide_eq_decide.2 ⟨Eq.symm, Eq.symm⟩
/-- One piece, and the same one turned. -/
def Tw (o a b : List Str) (p q : PartA) : Prop := q.2.1 = swap p.2.1 ∧ q.2.2 = swap p.2.2 ∧ ((p.1 = 1 ∧ q.1 = 1) ∨ (p.1 = kdT o a b p.2.1 p.2.2 ∧ q.1 = kdT o b a q.2.1 q.2.2 ∧ p.1 ≠ 0 ∧ q.1 ≠ 0))
def Tws (o a b : List Str) : List PartA → List PartA → Prop
  | [], [] => True
  | p :: l, q :: m => Tw o a b p q ∧ Tws o a b l m
  | _, _ => False
theorem Tws.len {o a b : List Str} : ∀ {l m : List PartA}, Tws o a b l m → l.length = m.length
  | [], [], _ => rfl
  | _ :: l, _ :: m, h => by rw [List.length_cons, List.length_cons, Tws.len h.2]
theorem Tws.nth {o a b : List Str} {d : PartA} : ∀ {l m : List PartA}, Tws o a b l m → ∀ p, p < l.length → Tw o a b (nth l (p : Int) d) (nth m (p : Int) d)
  | x :: l, y :: m, h, 0, _ => h.1
  | x :: l, y :: m, h, p + 1, hp => Tws.nth h.2 p (by simpa using hp)
theorem kd_swap (o a b : List Str) (f t : Tri) : kdT o a b f t = 0 ↔ kdT o b a (swap f) (swap t) = 0 := by
  unfold kdT swap
  rw [kind0_zero, kind0_zero]
  exact ⟨fun h => ⟨h.1, h.2.2, h.2.1⟩, fun h => ⟨h.1, h.2.2, h.2.1⟩⟩
theorem seg_swap {o a b : List Str} {l m : List PartA} (h : Tws o a b l m) (f t : Tri) : Tws o a b (segA (kdT o a b) f t ++ l) (segA (kdT o b a) (swap f) (swap t) ++ m) := by
  unfold segA
  by_cases hk : kdT o a b f t = 0
  · rw [if_pos hk, if_pos ((kd_swap o a b f t).1 hk)]; exact h
  · have hk' : ¬ kdT o b a (swap f) (swap t) = 0 := fun e => hk ((kd_swap o a b f t).2 e)
    rw [if_neg hk, if_neg hk']
    exact ⟨⟨rfl, rfl, .inr ⟨rfl, rfl, hk, hk'⟩⟩, h⟩
theorem pts_swap (o a b : List Str) : ∀ (ts : List Tri) (f e : Tri), Tws o a b (pts (kdT o a b) f ts e) (pts (kdT o b a) (swap f) (ts.map swap) (swap e))
  | [], f, e => by
    have := seg_swap (o := o) (a := a) (b := b) (l := []) (m := []) trivial f e
    rw [List.append_nil, List.append_nil] at this
    exact this
  | t :: ts, f, e => seg_swap (l := (1, t, next t) :: pts (kdT o a b) (next t) ts e) (m := (1, swap t, next (swap t)) :: pts (kdT o b a) (next (swap t)) (ts.map swap) (swap e)) ⟨⟨rfl, rfl, .inl ⟨rfl, rfl⟩⟩, pts_swap o a b ts (next t) e⟩ f t
theorem triAt_swap (ours theirs : List Pair) : ∀ (k : Nat) (i : Int), triAt theirs ours k i = (triAt ours theirs k i).map swap
  | 0, _ => rfl
  | k + 1, i => by
    rw [triAt, triAt, triAt_swap ours theirs k (i + 1)]
    by_cases h : 0 ≤ fellow ours i ∧ 0 ≤ fellow theirs i
    · rw [if_pos h, if_pos ⟨h.2, h.1⟩]; rfl
    · rw [if_neg h, if_neg (fun h' => h ⟨h'.2, h'.1⟩)]
/-- The kinds of a piece and of the same one turned. -/
theorem kind_turned (x y z : List Str) : kindOf eqL x z y = turned (kindOf eqL x y z) ∨ (kindOf eqL x y z = 2 ∧ kindOf eqL x z y = 2 ∧ eqL x y = true ∧ eqL x z = true) := by
  unfold kindOf turned
  rw [eqL_comm z y]
  cases eqL x y <;> cases eqL x z <;> cases eqL y z <;> simp
end Sp
