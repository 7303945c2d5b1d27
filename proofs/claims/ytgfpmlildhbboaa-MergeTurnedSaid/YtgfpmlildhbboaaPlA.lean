/- Lining up: what is told, shown of the conditions. Plain theorems. -/
import Derived.Test.YtgfpmlildhbboaaVcA
import Derived.Test.YtgfpmlildhbboaaViThree
set_option linter.unnecessarySimpa false
set_option linter.unusedVariables false
set_option linter.unusedSectionVars false
set_option linter.unusedSimpArgs false
set_option autoImplicit false
open Go Vi

namespace Sp
theorem cnt_nonneg : ∀ a b, 0 ≤ cnt a b
  | [], _ => by simp [cnt]
  | _ :: _, [] => by simp [cnt]
  | x :: a, y :: b => by
    rw [cnt]
    have := cnt_nonneg a b
    have := cnt_nonneg a (y :: b)
    split <;> omega
termination_by a b => a.length + b.length

theorem cnt_le : ∀ a b, cnt a b ≤ a.length
  | [], _ => by simp [cnt]
  | _ :: _, [] => by simp [cnt]; omega
  | x :: a, y :: b => by
    rw [cnt]
    have := cnt_le a b
    have := cnt_le a (y :: b)
    have := cnt_le (x :: a) b
    simp only [List.length_cons] at *
    split <;> omega
termination_by a b => a.length + b.length

theorem row_len (a b : List Str) : (row a b).length = b.length + 1 := by simp [row]
theorem table_len (a b : List Str) : (table a b).length = a.length + 1 := by simp [table]
theorem nth_table (a b : List Str) {p : Nat} (h : p ≤ a.length) : nth (table a b) (p : Int) [] = row (a.drop p) b := by
  rw [nth_lt (by rw [table_len]; omega)]
  simp [table]
theorem nth_row (a b : List Str) {q : Nat} (h : q ≤ b.length) : nth (row a b) (q : Int) 0 = cnt a (b.drop q) := by
  rw [nth_lt (by rw [row_len]; omega)]
  simp [row]

theorem linesAt_nil (i j : Int) (b : List Str) : linesAt i j [] b = [] := by rw [linesAt]
theorem linesAt_nil2 (i j : Int) (a : List Str) : linesAt i j a [] = [] := by cases a <;> rw [linesAt]
theorem linesAt_len : ∀ (i j : Int) (a b : List Str), ((linesAt i j a b).length : Int) = cnt a b
  | i, j, [], b => by simp [linesAt, cnt]
  | i, j, x :: a, [] => by simp [linesAt, cnt]
  | i, j, x :: a, y :: b => by
    rw [linesAt, cnt]
    have h1 := linesAt_len (i + 1) (j + 1) a b
    have h2 := linesAt_len (i + 1) j a (y :: b)
    have h3 := linesAt_len i (j + 1) (x :: a) b
    split
    · simp only [List.length_cons]; omega
    · split <;> omega
termination_by _ _ a b => a.length + b.length
theorem lines_len (a b : List Str) : ((lines a b).length : Int) = cnt a b := linesAt_len 0 0 a b
theorem lines_size (a b : List Str) : (lines a b).length ≤ a.length := by
  have := lines_len a b
  have := cnt_le a b
  omega
end Sp

theorem match_Line.ok (R : List (Int × Int × Bool) → Prop) (a b : List Str) (h : Sp.lines.pre a b) (hR : R (Sp.lines a b)) : match_Line.vc R a b := by
  refine ⟨h, Lp_rule (fun v => ∃ (p q : Nat) (out : List (Int × Int × Bool)), v = (a, b, (p : Int), (q : Int), ((a.length + 1 : Nat) : Int), Sp.table a b, out, ()) ∧ p ≤ a.length ∧ q ≤ b.length ∧ out.length ≤ p ∧ out ++ Sp.linesAt p q (a.drop p) (b.drop q) = Sp.lines a b)
    (fun v => a.length + b.length - v.2.2.1.toNat - v.2.2.2.1.toNat) ?_ ⟨0, 0, [], by rw [Int.toNat_natCast, Sp.table_len]; rfl, Nat.zero_le _, Nat.zero_le _, Nat.zero_le _, rfl⟩⟩
  rintro _ K ⟨p, q, out, rfl, hp, hq, ho, hl⟩ hK
  obtain ⟨ha, hb⟩ := h
  simp only [match_Line.L0, cond_dec, Int.toNat_natCast]
  split
  case isFalse h1 => rw [drop_end (by omega), Sp.linesAt_nil, List.append_nil] at hl; rw [hl]; exact hR
  split
  case isFalse h1 h2 => rw [drop_end (l := b) (by omega), Sp.linesAt_nil2, List.append_nil] at hl; rw [hl]; exact hR
  rename_i h1 h2
  have h1' : p < a.length := by omega
  have h2' : q < b.length := by omega
  rw [drop_cons (d := []) h1', drop_cons (d := []) h2', Sp.linesAt] at hl
  simp only [rg64, ix_iff, gr_iff]
  refine ⟨by omega, by omega, ?_⟩
  split
  · rename_i he
    rw [if_pos he] at hl
    exact ⟨by omega, by omega, by omega, hK _ ⟨p + 1, q + 1, _, rfl, by omega, by omega, by simp; omega, by rw [← hl]; simp⟩ (by simp; omega)⟩
  · rename_i he
    rw [if_neg he, ← drop_cons h1', ← drop_cons h2'] at hl
    rw [show ((p : Int) + 1) = ((p + 1 : Nat) : Int) from rfl, show ((q : Int) + 1) = ((q + 1 : Nat) : Int) from rfl] at *
    rw [Sp.nth_table a b (by omega), Sp.nth_table a b (by omega), Sp.nth_row _ b (by omega), Sp.nth_row _ b (by omega), Sp.row_len, Sp.row_len]
    refine ⟨by omega, by omega, by omega, by omega, by omega, by omega, ?_⟩
    split
    · rename_i hc
      rw [if_pos hc] at hl
      exact ⟨by omega, hK _ ⟨p + 1, q, _, rfl, by omega, by omega, by omega, hl⟩ (by simp; omega)⟩
    · rename_i hc
      rw [if_neg hc] at hl
      exact ⟨by omega, hK _ ⟨p, q + 1, _, rfl, by omega, by omega, by omega, hl⟩ (by simp; omega)⟩

namespace Sp
/-- The end of a row, from a place on. -/
def rowFrom (a b : List Str) (q : Nat) : List Int := (row a b).drop q
theorem rowFrom_cons (a b : List Str) {q : Nat} (h : q ≤ b.length) : rowFrom a b q = cnt a (b.drop q) :: rowFrom a b (q + 1) := by
  unfold rowFrom
  rw [drop_cons (d := 0) (by rw [row_len]; omega), nth_row a b h]
theorem rowFrom_end (a b : List Str) : rowFrom a b b.length = [0] := by
  rw [rowFrom_cons a b (Nat.le_refl _), List.drop_length]
  unfold rowFrom
  rw [drop_end (by rw [row_len]; omega)]
  cases a <;> simp [cnt]
theorem rowFrom_len (a b : List Str) (q : Nat) : (rowFrom a b q).length = b.length + 1 - q := by simp [rowFrom, row_len]
theorem table_cons (a b : List Str) {p : Nat} (h : p ≤ a.length) : (table a b).drop p = row (a.drop p) b :: (table a b).drop (p + 1) := by
  rw [drop_cons (d := []) (by rw [table_len]; omega), nth_table a b h]
theorem row_nil (b : List Str) : row [] b = List.replicate (b.length + 1) 0 := by
  unfold row
  simp only [cnt]
  rw [List.map_const', List.length_range]
theorem table_end (a b : List Str) : (table a b).drop a.length = [List.replicate (b.length + 1) 0] := by
  rw [table_cons a b (Nat.le_refl _), drop_end (p := a.length + 1) (by rw [table_len]; omega), List.drop_length, row_nil]
end Sp

theorem counts_row (K1 : List (List UInt8) × List (List UInt8) × Int × Int × List (List Int) × Unit → Prop) (a b : List Str) (ha : a.length ≤ 1000000) (hb : b.length ≤ 1000000) (p : Nat) (hp : p < a.length)
    (hK1 : K1 (a, b, (p : Int) - 1, ((a.length + 1 : Nat) : Int), List.replicate p (List.replicate (b.length + 1) 0) ++ (Sp.table a b).drop p, ())) :
    Lp (fun v K => match_counts.L2 K1 v.fst v.snd.fst v.snd.snd.fst v.snd.snd.snd.fst v.snd.snd.snd.snd.fst v.snd.snd.snd.snd.snd.fst K)
      (a, b, (p : Int), (b.length : Int) - 1, ((a.length + 1 : Nat) : Int), List.replicate (p + 1) (List.replicate (b.length + 1) 0) ++ (Sp.table a b).drop (p + 1), ()) := by
  refine Lp_rule (fun v => ∃ q : Nat, v = (a, b, (p : Int), (q : Int) - 1, ((a.length + 1 : Nat) : Int), List.replicate p (List.replicate (b.length + 1) 0) ++ (List.replicate q 0 ++ Sp.rowFrom (a.drop p) b q) :: (Sp.table a b).drop (p + 1), ()) ∧ q ≤ b.length)
    (fun v => (v.2.2.2.1 + 1).toNat) ?_ ⟨b.length, by rw [Sp.rowFrom_end, ← List.replicate_succ', List.replicate_succ' (n := p), List.append_assoc]; rfl, Nat.le_refl _⟩
  rintro _ K ⟨q, rfl, hq⟩ hK
  have hpl : (List.replicate p (List.replicate (b.length + 1) (0 : Int))).length = p := List.length_replicate
  simp only [match_counts.L2, cond_dec]
  split
  case isFalse h1 =>
    have : q = 0 := by omega
    subst this
    simp only [rg64, Int.toNat_natCast]
    refine ⟨by omega, ?_⟩
    have e : List.replicate 0 0 ++ Sp.rowFrom (a.drop p) b 0 = Sp.row (a.drop p) b := rfl
    rw [e, ← Sp.table_cons a b (by omega)]
    exact hK1
  rename_i h1
  obtain ⟨q, rfl⟩ : ∃ r, q = r + 1 := ⟨q - 1, by omega⟩
  have e1 : ((q + 1 : Nat) : Int) - 1 = (q : Int) := by omega
  rw [e1] at *
  have hql : (List.replicate q (0 : Int)).length = q := List.length_replicate
  have hcur : List.replicate (q + 1) (0 : Int) ++ Sp.rowFrom (a.drop p) b (q + 1) = List.replicate q 0 ++ 0 :: Sp.rowFrom (a.drop p) b (q + 1) := by rw [List.replicate_succ', List.append_assoc]; rfl
  rw [hcur]
  have hnext : nth ((Sp.table a b).drop (p + 1)) 0 [] = Sp.row (a.drop (p + 1)) b := by rw [Sp.table_cons a b (by omega)]; rfl
  have hr1 : nth (Sp.rowFrom (a.drop p) b (q + 1)) 0 0 = Sp.cnt (a.drop p) (b.drop (q + 1)) := by rw [Sp.rowFrom_cons _ _ (by omega)]; rfl
  simp only [nth_mid _ _ _ _ hpl, nth_mid1 _ _ _ _ hpl, set_mid' _ _ _ _ hpl, nth_mid _ _ _ _ hql, nth_mid1 _ _ _ _ hql, set_mid' _ _ _ _ hql, hnext, hr1, Int.toNat_natCast]
  rw [show ((q : Int) + 1) = ((q + 1 : Nat) : Int) from rfl]
  rw [Sp.nth_row (a.drop (p + 1)) b (q := q) (by omega), Sp.nth_row (a.drop (p + 1)) b (q := q + 1) (by omega), Sp.row_len]
  have hc := Sp.rowFrom_cons (a.drop p) b (q := q) (by omega)
  have next (n : Int) (hn : n = Sp.cnt (a.drop p) (b.drop q)) : K (a, b, (p : Int), (q : Int) - 1, ((a.length + 1 : Nat) : Int), List.replicate p (List.replicate (b.length + 1) 0) ++ (List.replicate q 0 ++ n :: Sp.rowFrom (a.drop p) b (q + 1)) :: (Sp.table a b).drop (p + 1), ()) :=
    hK _ ⟨q, by rw [hn, ← hc], by omega⟩ (by simp)
  have hcnt : Sp.cnt (a.drop p) (b.drop q) = if nth a (p : Int) [] = nth b (q : Int) [] then 1 + Sp.cnt (a.drop (p + 1)) (b.drop (q + 1)) else max (Sp.cnt (a.drop (p + 1)) (b.drop q)) (Sp.cnt (a.drop p) (b.drop (q + 1))) := by
    have hd : a.drop p = nth a (p : Int) [] :: a.drop (p + 1) := drop_cons hp
    have hd2 : b.drop q = nth b (q : Int) [] :: b.drop (q + 1) := drop_cons (by omega)
    rw [hd, hd2, Sp.cnt]
  have s1 := Sp.cnt_le (a.drop (p + 1)) (b.drop (q + 1))
  have s2 := Sp.cnt_nonneg (a.drop (p + 1)) (b.drop (q + 1))
  simp only [List.length_drop] at s1
  simp only [rg64, ix_iff, List.length_append, List.length_replicate, List.length_cons, Sp.rowFrom_len]
  refine ⟨by omega, by omega, by omega, by omega, by omega, by omega, by omega, by omega, by omega, by omega, ?_⟩
  split
  · rename_i he
    rw [if_pos he] at hcnt
    exact ⟨by omega, by omega, by omega, by omega, by omega, by omega, by omega, by omega, next _ hcnt.symm⟩
  · rename_i he
    rw [if_neg he] at hcnt
    exact ⟨by omega, next _ hcnt.symm⟩

theorem match_counts.ok (R : Int → List (List Int) → Prop) (a b : List Str) (h : Sp.table.pre a b) (hR : R ((Sp.table a b).length : Int) (Sp.table a b)) : match_counts.vc R a b := by
  obtain ⟨ha, hb⟩ := h
  have en : ((a.length : Int) + 1).toNat = a.length + 1 := by omega
  have em : rep ((b.length : Int) + 1) (0 : Int) = List.replicate (b.length + 1) 0 := by unfold rep; congr 1
  unfold match_counts.vc
  rw [en]
  refine ⟨by rw [rg64]; omega, by rw [mk_iff]; omega, ?_⟩
  refine Lp_rule (fun v => ∃ (p : Nat) (r : List (List Int)), v = (a, b, ((a.length + 1 : Nat) : Int), (p : Int), ((a.length + 1 : Nat) : Int), List.replicate p (List.replicate (b.length + 1) 0) ++ r, ()) ∧ p + r.length = a.length + 1) (fun v => a.length + 1 - v.2.2.2.1.toNat) ?_ ⟨0, rep ((a.length : Int) + 1) [], rfl, by simp [rep]⟩
  rintro _ K ⟨p, r, rfl, hp⟩ hK
  simp only [match_counts.L0, cond_dec, Int.toNat_natCast, em]
  have hpl : (List.replicate p (List.replicate (b.length + 1) (0 : Int))).length = p := List.length_replicate
  split
  · cases r with
    | nil => simp at hp; omega
    | cons x r =>
      have := set_mid (List.replicate p (List.replicate (b.length + 1) (0 : Int))) x (List.replicate (b.length + 1) 0) r hpl
      rw [Int.toNat_natCast] at this
      rw [this]
      simp only [List.length_cons] at hp
      exact ⟨by rw [rg64]; omega, by rw [mk_iff]; omega, by rw [ix_iff]; omega, by rw [rg64]; omega, hK _ ⟨p + 1, r, by rw [List.replicate_succ' (n := p), List.append_assoc]; rfl, by omega⟩ (by simp; omega)⟩
  rename_i h1
  have hr : r = [] := by cases r; rfl; simp at hp; omega
  subst hr
  have : p = a.length + 1 := by simpa using hp
  subst this
  refine ⟨by rw [rg64]; omega, ?_⟩
  refine Lp_rule (fun v => ∃ p : Nat, v = (a, b, (p : Int) - 1, ((a.length + 1 : Nat) : Int), List.replicate p (List.replicate (b.length + 1) 0) ++ (Sp.table a b).drop p, ()) ∧ p ≤ a.length) (fun v => (v.2.2.1 + 1).toNat) ?_
    ⟨a.length, by rw [Sp.table_end, ← List.replicate_succ', List.append_nil], Nat.le_refl _⟩
  rintro _ K1 ⟨p, rfl, hp⟩ hK1
  simp only [match_counts.L1, cond_dec, Int.toNat_natCast]
  split
  case isFalse h1 =>
    have : p = 0 := by omega
    subst this
    rw [Sp.table_len] at hR
    exact hR
  obtain ⟨p, rfl⟩ : ∃ r, p = r + 1 := ⟨p - 1, by omega⟩
  have e1 : ((p + 1 : Nat) : Int) - 1 = (p : Int) := by omega
  rw [e1] at *
  exact ⟨by rw [rg64]; omega, counts_row K1 a b ha hb p (by omega) (hK1 _ ⟨p, rfl, by omega⟩ (by simp))⟩

namespace Sp
/-- Pairs that rise, from two places on. -/
def Chain (a b : List Str) : Nat → Nat → List (Int × Int × Bool) → Prop
  | _, _, [] => True
  | i, j, x :: l => (i : Int) ≤ x.1 ∧ x.1 < a.length ∧ (j : Int) ≤ x.2.1 ∧ x.2.1 < b.length ∧ nth a x.1 [] = nth b x.2.1 [] ∧ Chain a b (x.1.toNat + 1) (x.2.1.toNat + 1) l

end Sp
