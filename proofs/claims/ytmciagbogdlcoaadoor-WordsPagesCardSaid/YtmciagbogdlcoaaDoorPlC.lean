/- Lining up: what is told, shown of the conditions. Plain theorems. -/
import Derived.Test.YtmciagbogdlcoaaDoorVcC
import Derived.Test.YtmciagbogdlcoaaDoorPlH
import Derived.Test.YtmciagbogdlcoaaDoorViThree
set_option linter.unnecessarySimpa false
set_option linter.unusedVariables false
set_option linter.unusedSectionVars false
set_option linter.unusedSimpArgs false
set_option autoImplicit false
open Go Vi

namespace Sp
theorem cnt_nonneg : ∀ a b, 0 ≤ cnt a b
  | [], _ => by simp [cnt]
  | _ :: _, [] => by simp [cnt]
  | x :: a, y :: b => by
    rw [cnt]
    have := cnt_nonneg a b
    have := cnt_nonneg a (y :: b)
    split <;> omega
termination_by a b => a.length + b.length

theorem cnt_le : ∀ a b, cnt a b ≤ a.length
  | [], _ => by simp [cnt]
  | _ :: _, [] => by simp [cnt]; omega
  | x :: a, y :: b => by
    rw [cnt]
    have := cnt_le a b
    have := cnt_le a (y :: b)
    have := cnt_le (x :: a) b
    simp only [List.length_cons] at *
    split <;> omega
termination_by a b => a.length + b.length

theorem cnt_symm : ∀ a b, cnt a b = cnt b a
  | [], b => by cases b <;> simp [cnt]
  | _ :: _, [] => by simp [cnt]
  | x :: a, y :: b => by
    rw [cnt, cnt]
    rw [cnt_symm a b, cnt_symm a (y :: b), cnt_symm (x :: a) b]
    by_cases h : x = y
    · simp [h]
    · rw [if_neg h, if_neg (fun e => h e.symm), Int.max_comm]
termination_by a b => a.length + b.length

/-- One text more gives one pair more at most. -/
theorem cnt_step : ∀ (n : Nat) (a b : List Str), a.length + b.length ≤ n → ∀ x, cnt a b ≤ cnt (x :: a) b ∧ cnt (x :: a) b ≤ cnt a b + 1 := by
  intro n
  induction n with
  | zero =>
    intro a b h x
    have : b = [] := by cases b; rfl; simp at h
    subst this
    have := cnt_nonneg a []
    have := cnt_symm a []
    simp [cnt] at *
    omega
  | succ n ih =>
    intro a b h x
    cases b with
    | nil =>
      have := cnt_symm a []
      simp [cnt] at *
      omega
    | cons y b =>
      simp only [List.length_cons] at h
      have r := ih b a (by omega) y
      rw [cnt_symm b a, cnt_symm (y :: b) a] at r
      have l := ih a b (by omega) x
      rw [cnt]
      split <;> omega
theorem cnt_left (x : Str) (a b : List Str) : cnt a b ≤ cnt (x :: a) b ∧ cnt (x :: a) b ≤ cnt a b + 1 := cnt_step _ a b (Nat.le_refl _) x
theorem cnt_right (y : Str) (a b : List Str) : cnt a b ≤ cnt a (y :: b) ∧ cnt a (y :: b) ≤ cnt a b + 1 := by
  have := cnt_left y b a
  rw [cnt_symm b a, cnt_symm (y :: b) a] at this
  exact this

theorem row_len (a b : List Str) : (row a b).length = b.length + 1 := by simp [row]
theorem table_len (a b : List Str) : (table a b).length = a.length + 1 := by simp [table]
theorem nth_table (a b : List Str) {p : Nat} (h : p ≤ a.length) : nth (table a b) (p : Int) [] = row (a.drop p) b := by
  rw [nth_lt (by rw [table_len]; omega)]
  simp [table]
theorem nth_row (a b : List Str) {q : Nat} (h : q ≤ b.length) : nth (row a b) (q : Int) 0 = cnt a (b.drop q) := by
  rw [nth_lt (by rw [row_len]; omega)]
  simp [row]

theorem linesAt_nil (i j : Int) (b : List Str) : linesAt i j [] b = [] := by rw [linesAt]
theorem linesAt_nil2 (i j : Int) (a : List Str) : linesAt i j a [] = [] := by cases a <;> rw [linesAt]
theorem linesAt_len : ∀ (i j : Int) (a b : List Str), ((linesAt i j a b).length : Int) = cnt a b
  | i, j, [], b => by simp [linesAt, cnt]
  | i, j, x :: a, [] => by simp [linesAt, cnt]
  | i, j, x :: a, y :: b => by
    rw [linesAt, cnt]
    have h1 := linesAt_len (i + 1) (j + 1) a b
    have h2 := linesAt_len (i + 1) j a (y :: b)
    have h3 := linesAt_len i (j + 1) (x :: a) b
    split
    · simp only [List.length_cons]; omega
    · split <;> omega
termination_by _ _ a b => a.length + b.length
theorem lines_len (a b : List Str) : ((lines a b).length : Int) = cnt a b := linesAt_len 0 0 a b
theorem lines_size (a b : List Str) : (lines a b).length ≤ a.length := by
  have := lines_len a b
  have := cnt_le a b
  omega
end Sp

theorem match_Line.ok (R : List (Int × Int × Bool) → Prop) (a b : List Str) (h : Sp.lines.pre a b) (hR : R (Sp.lines a b)) : match_Line.vc R a b := by
  refine ⟨h, Lp_rule (fun v => ∃ (p q : Nat) (out : List (Int × Int × Bool)), v = (a, b, (p : Int), (q : Int), ((a.length + 1 : Nat) : Int), Sp.table a b, out, ()) ∧ p ≤ a.length ∧ q ≤ b.length ∧ out.length ≤ p ∧ out ++ Sp.linesAt p q (a.drop p) (b.drop q) = Sp.lines a b)
    (fun v => a.length + b.length - v.2.2.1.toNat - v.2.2.2.1.toNat) ?_ ⟨0, 0, [], by rw [Int.toNat_natCast, Sp.table_len]; rfl, Nat.zero_le _, Nat.zero_le _, Nat.zero_le _, rfl⟩⟩
  rintro _ K ⟨p, q, out, rfl, hp, hq, ho, hl⟩ hK
  obtain ⟨ha, hb⟩ := h
  simp only [match_Line.L0, cond_dec, Int.toNat_natCast]
  split
  case isFalse h1 => rw [drop_end (by omega), Sp.linesAt_nil, List.append_nil] at hl; rw [hl]; exact hR
  split
  case isFalse h1 h2 => rw [drop_end (l := b) (by omega), Sp.linesAt_nil2, List.append_nil] at hl; rw [hl]; exact hR
  rename_i h1 h2
  have h1' : p < a.length := by omega
  have h2' : q < b.length := by omega
  rw [drop_cons (d := []) h1', drop_cons (d := []) h2', Sp.linesAt] at hl
  simp only [rg64, ix_iff, gr_iff]
  refine ⟨by omega, by omega, ?_⟩
  split
  · rename_i he
    rw [if_pos he] at hl
    exact ⟨by omega, by omega, by omega, hK _ ⟨p + 1, q + 1, _, rfl, by omega, by omega, by simp; omega, by rw [← hl]; simp⟩ (by simp; omega)⟩
  · rename_i he
    rw [if_neg he, ← drop_cons h1', ← drop_cons h2'] at hl
    rw [show ((p : Int) + 1) = ((p + 1 : Nat) : Int) from rfl, show ((q : Int) + 1) = ((q + 1 : Nat) : Int) from rfl] at *
    rw [Sp.nth_table a b (by omega), Sp.nth_table a b (by omega), Sp.nth_row _ b (by omega), Sp.nth_row _ b (by omega), Sp.row_len, Sp.row_len]
    refine ⟨by omega, by omega, by omega, by omega, by omega, by omega, ?_⟩
    split
    · rename_i hc
      rw [if_pos hc] at hl
      exact ⟨by omega, hK _ ⟨p + 1, q, _, rfl, by omega, by omega, by omega, hl⟩ (by simp; omega)⟩
    · rename_i hc
      rw [if_neg hc] at hl
      exact ⟨by omega, hK _ ⟨p, q + 1, _, rfl, by omega, by omega, by omega, hl⟩ (by simp; omega)⟩

theorem rectoref20_Line.ok (R : List (Int × Int × Bool) → Prop) (a b : List Str) (h : Sp.lines.pre a b) (hR : R (Sp.lines a b)) : rectoref20_Line.vc R a b := by
  refine ⟨h, Lp_rule (fun v => ∃ (p q : Nat) (out : List (Int × Int × Bool)), v = (a, b, (p : Int), (q : Int), Sp.table a b, out, ()) ∧ p ≤ a.length ∧ q ≤ b.length ∧ out.length ≤ p ∧ out ++ Sp.linesAt p q (a.drop p) (b.drop q) = Sp.lines a b)
    (fun v => a.length + b.length - v.2.2.1.toNat - v.2.2.2.1.toNat) ?_ ⟨0, 0, [], rfl, Nat.zero_le _, Nat.zero_le _, Nat.zero_le _, rfl⟩⟩
  rintro _ K ⟨p, q, out, rfl, hp, hq, ho, hl⟩ hK
  obtain ⟨ha, hb⟩ := h
  simp only [rectoref20_Line.L0, cond_dec]
  split
  case isFalse h1 => rw [drop_end (by omega), Sp.linesAt_nil, List.append_nil] at hl; rw [hl]; exact hR
  split
  case isFalse h1 h2 => rw [drop_end (l := b) (by omega), Sp.linesAt_nil2, List.append_nil] at hl; rw [hl]; exact hR
  rename_i h1 h2
  have h1' : p < a.length := by omega
  have h2' : q < b.length := by omega
  rw [drop_cons (d := []) h1', drop_cons (d := []) h2', Sp.linesAt] at hl
  simp only [rg64, ix_iff, gr_iff]
  refine ⟨by omega, by omega, ?_⟩
  split
  · rename_i he
    rw [if_pos he] at hl
    exact ⟨by omega, by omega, by omega, hK _ ⟨p + 1, q + 1, _, rfl, by omega, by omega, by simp; omega, by rw [← hl]; simp⟩ (by simp; omega)⟩
  · rename_i he
    rw [if_neg he, ← drop_cons h1', ← drop_cons h2'] at hl
    rw [show ((p : Int) + 1) = ((p + 1 : Nat) : Int) from rfl, show ((q : Int) + 1) = ((q + 1 : Nat) : Int) from rfl] at *
    rw [Sp.nth_table a b (by omega), Sp.nth_table a b (by omega), Sp.nth_row _ b (by omega), Sp.nth_row _ b (by omega), Sp.table_len, Sp.row_len, Sp.row_len]
    refine ⟨by omega, by omega, by omega, by omega, by omega, by omega, ?_⟩
    split
    · rename_i hc
      rw [if_pos hc] at hl
      exact ⟨by omega, hK _ ⟨p + 1, q, _, rfl, by omega, by omega, by omega, hl⟩ (by simp; omega)⟩
    · rename_i hc
      rw [if_neg hc] at hl
      exact ⟨by omega, hK _ ⟨p, q + 1, _, rfl, by omega, by omega, by omega, hl⟩ (by simp; omega)⟩

namespace Sp
/-- The end of a row, from a place on. -/
def rowFrom (a b : List Str) (q : Nat) : List Int := (row a b).drop q
theorem rowFrom_cons (a b : List Str) {q : Nat} (h : q ≤ b.length) : rowFrom a b q = cnt a (b.drop q) :: rowFrom a b (q + 1) := by
  unfold rowFrom
  rw [drop_cons (d := 0) (by rw [row_len]; omega), nth_row a b h]
theorem rowFrom_end (a b : List Str) : rowFrom a b b.length = [0] := by
  rw [rowFrom_cons a b (Nat.le_refl _), List.drop_length]
  unfold rowFrom
  rw [drop_end (by rw [row_len]; omega)]
  cases a <;> simp [cnt]
theorem rowFrom_len (a b : List Str) (q : Nat) : (rowFrom a b q).length = b.length + 1 - q := by simp [rowFrom, row_len]
theorem table_cons (a b : List Str) {p : Nat} (h : p ≤ a.length) : (table a b).drop p = row (a.drop p) b :: (table a b).drop (p + 1) := by
  rw [drop_cons (d := []) (by rw [table_len]; omega), nth_table a b h]
theorem row_nil (b : List Str) : row [] b = List.replicate (b.length + 1) 0 := by
  unfold row
  simp only [cnt]
  rw [List.map_const', List.length_range]
theorem table_end (a b : List Str) : (table a b).drop a.length = [List.replicate (b.length + 1) 0] := by
  rw [table_cons a b (Nat.le_refl _), drop_end (p := a.length + 1) (by rw [table_len]; omega), List.drop_length, row_nil]
end Sp

theorem best_row (R : List (List Int) → Prop) (K1 : List (List UInt8) × List (List UInt8) × Int × List (List Int) × Unit → Prop) (a b : List Str) (ha : a.length ≤ 1000000) (hb : b.length ≤ 1000000) (p : Nat) (hp : p < a.length)
    (hK1 : K1 (a, b, (p : Int) - 1, (Sp.table a b).drop p, ())) :
    Lp (fun v K => rectoref20_best.L2 K1 v.fst v.snd.fst v.snd.snd.fst v.snd.snd.snd.fst v.snd.snd.snd.snd.fst v.snd.snd.snd.snd.snd.fst v.snd.snd.snd.snd.snd.snd.fst K)
      (a, b, (p : Int), Sp.row (a.drop (p + 1)) b, (b.length : Int) - 1, (Sp.table a b).drop (p + 1), [0], ()) := by
  refine Lp_rule (fun v => ∃ q : Nat, v = (a, b, (p : Int), Sp.row (a.drop (p + 1)) b, (q : Int) - 1, (Sp.table a b).drop (p + 1), Sp.rowFrom (a.drop p) b q, ()) ∧ q ≤ b.length)
    (fun v => (v.2.2.2.2.1 + 1).toNat) ?_ ⟨b.length, by rw [Sp.rowFrom_end], Nat.le_refl _⟩
  rintro _ K ⟨q, rfl, hq⟩ hK
  simp only [rectoref20_best.L2, cond_dec]
  split
  case isFalse h1 =>
    have : q = 0 := by omega
    subst this
    simp only [rg64, gr_iff, List.length_drop, Sp.table_len]
    refine ⟨by omega, by omega, ?_⟩
    have e : Sp.rowFrom (a.drop p) b 0 :: (Sp.table a b).drop (p + 1) = (Sp.table a b).drop p := by
      rw [Sp.table_cons a b (p := p) (by omega)]; rfl
    rw [e]; exact hK1
  rename_i h1
  obtain ⟨q, rfl⟩ : ∃ r, q = r + 1 := ⟨q - 1, by omega⟩
  have e1 : ((q + 1 : Nat) : Int) - 1 = (q : Int) := by omega
  rw [e1] at *
  rw [show ((q : Int) + 1) = ((q + 1 : Nat) : Int) from rfl]
  rw [Sp.nth_row (a.drop (p + 1)) b (q := q) (by omega), Sp.nth_row (a.drop (p + 1)) b (q := q + 1) (by omega), Sp.row_len, Sp.rowFrom_len]
  have e2 : nth (Sp.rowFrom (a.drop p) b (q + 1)) 0 0 = Sp.cnt (a.drop p) (b.drop (q + 1)) := by rw [Sp.rowFrom_cons _ _ (by omega)]; rfl
  rw [e2]
  have hc := Sp.rowFrom_cons (a.drop p) b (q := q) (by omega)
  have next (n : Int) (hn : n = Sp.cnt (a.drop p) (b.drop q)) : K (a, b, (p : Int), Sp.row (a.drop (p + 1)) b, (q : Int) - 1, (Sp.table a b).drop (p + 1), n :: Sp.rowFrom (a.drop p) b (q + 1), ()) :=
    hK _ ⟨q, by rw [hn, ← hc], by omega⟩ (by simp)
  have hd : a.drop p = nth a (p : Int) [] :: a.drop (p + 1) := drop_cons hp
  have hd2 : b.drop q = nth b (q : Int) [] :: b.drop (q + 1) := drop_cons (by omega)
  have hcnt : Sp.cnt (a.drop p) (b.drop q) = if nth a (p : Int) [] = nth b (q : Int) [] then 1 + Sp.cnt (a.drop (p + 1)) (b.drop (q + 1)) else max (Sp.cnt (a.drop (p + 1)) (b.drop q)) (Sp.cnt (a.drop p) (b.drop (q + 1))) := by
    rw [hd, hd2, Sp.cnt]
  have l1 := Sp.cnt_left (nth a (p : Int) []) (a.drop (p + 1)) (b.drop (q + 1))
  have l2 := Sp.cnt_right (nth b (q : Int) []) (a.drop (p + 1)) (b.drop (q + 1))
  rw [← hd] at l1
  rw [← hd2] at l2
  have s1 := Sp.cnt_le (a.drop (p + 1)) (b.drop (q + 1))
  have s2 := Sp.cnt_nonneg (a.drop (p + 1)) (b.drop (q + 1))
  simp only [List.length_drop] at s1
  simp only [rg64, ix_iff, gr_iff, Sp.row_len]
  generalize Sp.cnt (a.drop (p + 1)) (b.drop (q + 1)) = A at *
  generalize Sp.cnt (a.drop (p + 1)) (b.drop q) = B at *
  generalize Sp.cnt (a.drop p) (b.drop (q + 1)) = C at *
  generalize Sp.cnt (a.drop p) (b.drop q) = D at *
  by_cases he : nth a (p : Int) [] = nth b (q : Int) []
  · rw [if_pos he] at hcnt
    simp only [he, if_true]
    split
    · refine ⟨by omega, by omega, by omega, by omega, by omega, by omega, by omega, by omega, ?_⟩
      split
      · exact ⟨by omega, by omega, by omega, by omega, by omega, next _ (by omega)⟩
      · exact ⟨by omega, by omega, next _ (by omega)⟩
    · refine ⟨by omega, by omega, by omega, by omega, by omega, by omega, by omega, ?_⟩
      split
      · exact ⟨by omega, by omega, by omega, by omega, by omega, next _ (by omega)⟩
      · exact ⟨by omega, by omega, next _ (by omega)⟩
  · rw [if_neg he] at hcnt
    simp only [he, if_false]
    split
    · exact ⟨by omega, by omega, by omega, by omega, by omega, by omega, by omega, next _ (by omega)⟩
    · exact ⟨by omega, by omega, by omega, by omega, by omega, by omega, next _ (by omega)⟩

theorem rectoref20_best.ok (R : List (List Int) → Prop) (a b : List Str) (h : Sp.table.pre a b) (hR : R (Sp.table a b)) : rectoref20_best.vc R a b := by
  obtain ⟨ha, hb⟩ := h
  refine Lp_rule (fun v => ∃ p : Nat, v = (a, b, (b.length : Int), (p : Int), List.replicate p 0, ()) ∧ p ≤ b.length) (fun v => b.length - v.2.2.2.1.toNat) ?_ ⟨0, rfl, Nat.zero_le _⟩
  rintro _ K ⟨p, rfl, hp⟩ hK
  simp only [rectoref20_best.L0, cond_dec]
  simp only [rg64, ix_iff, gr_iff, List.length_replicate]
  split
  · exact ⟨by omega, by omega, hK _ ⟨p + 1, by rw [List.replicate_succ']; rfl, by omega⟩ (by simp; omega)⟩
  rename_i h1
  have : p = b.length := by omega
  subst this
  refine ⟨by omega, by omega, ?_⟩
  rw [← List.replicate_succ']
  refine Lp_rule (fun v => ∃ p : Nat, v = (a, b, (p : Int) - 1, (Sp.table a b).drop p, ()) ∧ p ≤ a.length) (fun v => (v.2.2.1 + 1).toNat) ?_ ⟨a.length, by rw [Sp.table_end], Nat.le_refl _⟩
  rintro _ K1 ⟨p, rfl, hp⟩ hK1
  simp only [rectoref20_best.L1, cond_dec]
  split
  case isFalse h1 =>
    have : p = 0 := by omega
    subst this
    exact hR
  obtain ⟨p, rfl⟩ : ∃ r, p = r + 1 := ⟨p - 1, by omega⟩
  have e1 : ((p + 1 : Nat) : Int) - 1 = (p : Int) := by omega
  rw [e1] at *
  simp only [rg64, ix_iff, List.length_drop, Sp.table_len]
  refine ⟨by omega, by omega, ?_⟩
  have e2 : nth ((Sp.table a b).drop (p + 1)) 0 [] = Sp.row (a.drop (p + 1)) b := by rw [Sp.table_cons a b hp]; rfl
  rw [e2]
  exact best_row R K1 a b ha hb p (by omega) (hK1 _ ⟨p, rfl, by omega⟩ (by simp))

theorem counts_row (K1 : List (List UInt8) × List (List UInt8) × Int × Int × List (List Int) × Unit → Prop) (a b : List Str) (ha : a.length ≤ 1000000) (hb : b.length ≤ 1000000) (p : Nat) (hp : p < a.length)
    (hK1 : K1 (a, b, (p : Int) - 1, ((a.length + 1 : Nat) : Int), List.replicate p (List.replicate (b.length + 1) 0) ++ (Sp.table a b).drop p, ())) :
    Lp (fun v K => match_counts.L2 K1 v.fst v.snd.fst v.snd.snd.fst v.snd.snd.snd.fst v.snd.snd.snd.snd.fst v.snd.snd.snd.snd.snd.fst K)
      (a, b, (p : Int), (b.length : Int) - 1, ((a.length + 1 : Nat) : Int), List.replicate (p + 1) (List.replicate (b.length + 1) 0) ++ (Sp.table a b).drop (p + 1), ()) := by
  refine Lp_rule (fun v => ∃ q : Nat, v = (a, b, (p : Int), (q : Int) - 1, ((a.length + 1 : Nat) : Int), List.replicate p (List.replicate (b.length + 1) 0) ++ (List.replicate q 0 ++ Sp.rowFrom (a.drop p) b q) :: (Sp.table a b).drop (p + 1), ()) ∧ q ≤ b.length)
    (fun v => (v.2.2.2.1 + 1).toNat) ?_ ⟨b.length, by rw [Sp.rowFrom_end, ← List.replicate_succ', List.replicate_succ' (n := p), List.append_assoc]; rfl, Nat.le_refl _⟩
  rintro _ K ⟨q, rfl, hq⟩ hK
  have hpl : (List.replicate p (List.replicate (b.length + 1) (0 : Int))).length = p := List.length_replicate
  simp only [match_counts.L2, cond_dec]
  split
  case isFalse h1 =>
    have : q = 0 := by omega
    subst this
    simp only [rg64, Int.toNat_natCast]
    refine ⟨by omega, ?_⟩
    have e : List.replicate 0 0 ++ Sp.rowFrom (a.drop p) b 0 = Sp.row (a.drop p) b := rfl
    rw [e, ← Sp.table_cons a b (by omega)]
    exact hK1
  rename_i h1
  obtain ⟨q, rfl⟩ : ∃ r, q = r + 1 := ⟨q - 1, by omega⟩
  have e1 : ((q + 1 : Nat) : Int) - 1 = (q : Int) := by omega
  rw [e1] at *
  have hql : (List.replicate q (0 : Int)).length = q := List.length_replicate
  have hcur : List.replicate (q + 1) (0 : Int) ++ Sp.rowFrom (a.drop p) b (q + 1) = List.replicate q 0 ++ 0 :: Sp.rowFrom (a.drop p) b (q + 1) := by rw [List.replicate_succ', List.append_assoc]; rfl
  rw [hcur]
  have hnext : nth ((Sp.table a b).drop (p + 1)) 0 [] = Sp.row (a.drop (p + 1)) b := by rw [Sp.table_cons a b (by omega)]; rfl
  have hr1 : nth (Sp.rowFrom (a.drop p) b (q + 1)) 0 0 = Sp.cnt (a.drop p) (b.drop (q + 1)) := by rw [Sp.rowFrom_cons _ _ (by omega)]; rfl
  simp only [nth_mid _ _ _ _ hpl, nth_mid1 _ _ _ _ hpl, set_mid' _ _ _ _ hpl, nth_mid _ _ _ _ hql, nth_mid1 _ _ _ _ hql, set_mid' _ _ _ _ hql, hnext, hr1, Int.toNat_natCast]
  rw [show ((q : Int) + 1) = ((q + 1 : Nat) : Int) from rfl]
  rw [Sp.nth_row (a.drop (p + 1)) b (q := q) (by omega), Sp.nth_row (a.drop (p + 1)) b (q := q + 1) (by omega), Sp.row_len]
  have hc := Sp.rowFrom_cons (a.drop p) b (q := q) (by omega)
  have next (n : Int) (hn : n = Sp.cnt (a.drop p) (b.drop q)) : K (a, b, (p : Int), (q : Int) - 1, ((a.length + 1 : Nat) : Int), List.replicate p (List.replicate (b.length + 1) 0) ++ (List.replicate q 0 ++ n :: Sp.rowFrom (a.drop p) b (q + 1)) :: (Sp.table a b).drop (p + 1), ()) :=
    hK _ ⟨q, by rw [hn, ← hc], by omega⟩ (by simp)
  have hcnt : Sp.cnt (a.drop p) (b.drop q) = if nth a (p : Int) [] = nth b (q : Int) [] then 1 + Sp.cnt (a.drop (p + 1)) (b.drop (q + 1)) else max (Sp.cnt (a.drop (p + 1)) (b.drop q)) (Sp.cnt (a.drop p) (b.drop (q + 1))) := by
    have hd : a.drop p = nth a (p : Int) [] :: a.drop (p + 1) := drop_cons hp
    have hd2 : b.drop q = nth b (q : Int) [] :: b.drop (q + 1) := drop_cons (by omega)
    rw [hd, hd2, Sp.cnt]
  have s1 := Sp.cnt_le (a.drop (p + 1)) (b.drop (q + 1))
  have s2 := Sp.cnt_nonneg (a.drop (p + 1)) (b.drop (q + 1))
  simp only [List.length_drop] at s1
  simp only [rg64, ix_iff, List.length_append, List.length_replicate, List.length_cons, Sp.rowFrom_len]
  refine ⟨by omega, by omega, by omega, by omega, by omega, by omega, by omega, by omega, by omega, by omega, ?_⟩
  split
  · rename_i he
    rw [if_pos he] at hcnt
    exact ⟨by omega, by omega, by omega, by omega, by omega, by omega, by omega, by omega, next _ hcnt.symm⟩
  · rename_i he
    rw [if_neg he] at hcnt
    exact ⟨by omega, next _ hcnt.symm⟩

theorem match_counts.ok (R : Int → List (List Int) → Prop) (a b : List Str) (h : Sp.table.pre a b) (hR : R ((Sp.table a b).length : Int) (Sp.table a b)) : match_counts.vc R a b := by
  obtain ⟨ha, hb⟩ := h
  have en : ((a.length : Int) + 1).toNat = a.length + 1 := by omega
  have em : rep ((b.length : Int) + 1) (0 : Int) = List.replicate (b.length + 1) 0 := by unfold rep; congr 1
  unfold match_counts.vc
  rw [en]
  refine ⟨by rw [rg64]; omega, by rw [mk_iff]; omega, ?_⟩
  refine Lp_rule (fun v => ∃ (p : Nat) (r : List (List Int)), v = (a, b, ((a.length + 1 : Nat) : Int), (p : Int), ((a.length + 1 : Nat) : Int), List.replicate p (List.replicate (b.length + 1) 0) ++ r, ()) ∧ p + r.length = a.length + 1) (fun v => a.length + 1 - v.2.2.2.1.toNat) ?_ ⟨0, rep ((a.length : Int) + 1) [], rfl, by simp [rep]⟩
  rintro _ K ⟨p, r, rfl, hp⟩ hK
  simp only [match_counts.L0, cond_dec, Int.toNat_natCast, em]
  have hpl : (List.replicate p (List.replicate (b.length + 1) (0 : Int))).length = p := List.length_replicate
  split
  · cases r with
    | nil => simp at hp; omega
    | cons x r =>
      have := set_mid (List.replicate p (List.replicate (b.length + 1) (0 : Int))) x (List.replicate (b.length + 1) 0) r hpl
      rw [Int.toNat_natCast] at this
      rw [this]
      simp only [List.length_cons] at hp
      exact ⟨by rw [rg64]; omega, by rw [mk_iff]; omega, by rw [ix_iff]; omega, by rw [rg64]; omega, hK _ ⟨p + 1, r, by rw [List.replicate_succ' (n := p), List.append_assoc]; rfl, by omega⟩ (by simp; omega)⟩
  rename_i h1
  have hr : r = [] := by cases r; rfl; simp at hp; omega
  subst hr
  have : p = a.length + 1 := by simpa using hp
  subst this
  refine ⟨by rw [rg64]; omega, ?_⟩
  refine Lp_rule (fun v => ∃ p : Nat, v = (a, b, (p : Int) - 1, ((a.length + 1 : Nat) : Int), List.replicate p (List.replicate (b.length + 1) 0) ++ (Sp.table a b).drop p, ()) ∧ p ≤ a.length) (fun v => (v.2.2.1 + 1).toNat) ?_
    ⟨a.length, by rw [Sp.table_end, ← List.replicate_succ', List.append_nil], Nat.le_refl _⟩
  rintro _ K1 ⟨p, rfl, hp⟩ hK1
  simp only [match_counts.L1, cond_dec, Int.toNat_natCast]
  split
  case isFalse h1 =>
    have : p = 0 := by omega
    subst this
    rw [Sp.table_len] at hR
    exact hR
  obtain ⟨p, rfl⟩ : ∃ r, p = r + 1 := ⟨p - 1, by omega⟩
  have e1 : ((p + 1 : Nat) : Int) - 1 = (p : Int) := by omega
  rw [e1] at *
  exact ⟨by rw [rg64]; omega, counts_row K1 a b ha hb p (by omega) (hK1 _ ⟨p, rfl, by omega⟩ (by simp))⟩

namespace Sp
theorem cnt_drop_left (b : List Str) : ∀ (k : Nat) (a : List Str), cnt (a.drop k) b ≤ cnt a b
  | 0, a => Int.le_refl _
  | k + 1, [] => by simp
  | k + 1, x :: a => by
    have := cnt_drop_left b k a
    have := (cnt_left x a b).1
    simp only [List.drop_succ_cons]
    omega
theorem cnt_drop (a b : List Str) (k m : Nat) : cnt (a.drop k) (b.drop m) ≤ cnt a b := by
  have h1 := cnt_drop_left (b.drop m) k a
  have h2 := cnt_drop_left a m b
  rw [cnt_symm b a, cnt_symm (b.drop m) a] at h2
  omega

/-- Pairs that rise, from two places on. -/
def Chain (a b : List Str) : Nat → Nat → List (Int × Int × Bool) → Prop
  | _, _, [] => True
  | i, j, x :: l => (i : Int) ≤ x.1 ∧ x.1 < a.length ∧ (j : Int) ≤ x.2.1 ∧ x.2.1 < b.length ∧ nth a x.1 [] = nth b x.2.1 [] ∧ Chain a b (x.1.toNat + 1) (x.2.1.toNat + 1) l

theorem chain_len (a b : List Str) : ∀ (l : List (Int × Int × Bool)) (i j : Nat), Chain a b i j l → (l.length : Int) ≤ cnt (a.drop i) (b.drop j)
  | [], i, j, _ => cnt_nonneg _ _
  | x :: l, i, j, h => by
    obtain ⟨h1, h2, h3, h4, h5, h6⟩ := h
    have ih := chain_len a b l _ _ h6
    obtain ⟨p, hp⟩ : ∃ p : Nat, x.1 = p := ⟨x.1.toNat, by omega⟩
    obtain ⟨q, hq⟩ : ∃ q : Nat, x.2.1 = q := ⟨x.2.1.toNat, by omega⟩
    rw [hp, hq] at h5 ih
    rw [hp] at h1 h2
    rw [hq] at h3 h4
    have e : cnt (a.drop p) (b.drop q) = 1 + cnt (a.drop (p + 1)) (b.drop (q + 1)) := by
      rw [drop_cons (d := []) (by omega : p < a.length), drop_cons (d := []) (by omega : q < b.length), cnt, if_pos h5]
    have m := cnt_drop (a.drop i) (b.drop j) (p - i) (q - j)
    rw [List.drop_drop, List.drop_drop, show i + (p - i) = p from by omega, show j + (q - j) = q from by omega] at m
    simp only [Int.toNat_natCast] at ih
    simp only [List.length_cons]
    omega

/-- What is asked of each place of pairs. -/
def Fit (a b : List Str) (o : List (Int × Int × Bool)) (k : Nat) : Prop :=
  0 ≤ (nth o k (0, 0, false)).1 ∧ (nth o k (0, 0, false)).1 < a.length ∧ 0 ≤ (nth o k (0, 0, false)).2.1 ∧ (nth o k (0, 0, false)).2.1 < b.length ∧
    nth a (nth o k (0, 0, false)).1 [] = nth b (nth o k (0, 0, false)).2.1 [] ∧
    (0 < k → (nth o ((k : Int) - 1) (0, 0, false)).1 < (nth o k (0, 0, false)).1 ∧ (nth o ((k : Int) - 1) (0, 0, false)).2.1 < (nth o k (0, 0, false)).2.1)

theorem chain_of (a b : List Str) (o : List (Int × Int × Bool)) (h : ∀ k, k < o.length → Fit a b o k) : ∀ (n k : Nat), o.length ≤ n + k → 0 < k → k ≤ o.length →
    Chain a b ((nth o ((k : Int) - 1) (0, 0, false)).1.toNat + 1) ((nth o ((k : Int) - 1) (0, 0, false)).2.1.toNat + 1) (o.drop k)
  | 0, k, hn, hk, hl => by rw [drop_end (by omega)]; trivial
  | n + 1, k, hn, hk, hl => by
    by_cases hkl : k < o.length
    · rw [drop_cons (d := (0, 0, false)) hkl]
      obtain ⟨f1, f2, f3, f4, f5, f6⟩ := h k hkl
      have := f6 hk
      have g := h (k - 1) (by omega)
      rw [Fit, show ((k - 1 : Nat) : Int) = (k : Int) - 1 from by omega] at g
      obtain ⟨g1, _, g3, _⟩ := g
      have ih := chain_of a b o h n (k + 1) (by omega) (by omega) (by omega)
      rw [show ((k + 1 : Nat) : Int) - 1 = (k : Int) from by omega] at ih
      exact ⟨by omega, f2, by omega, f4, f5, ih⟩
    · rw [drop_end (by omega)]; trivial

theorem most (a b : List Str) (o : List (Int × Int × Bool)) (h : ∀ k, k < o.length → Fit a b o k) : o.length ≤ (lines a b).length := by
  have h1 := lines_len a b
  cases hl : o with
  | nil => simp
  | cons x l =>
    rw [← hl]
    have hpos : 0 < o.length := by rw [hl]; simp
    have c := chain_of a b o h o.length 1 (by omega) (by omega) (by omega)
    obtain ⟨f1, f2, f3, f4, f5, _⟩ := h 0 hpos
    have e : o = nth o ((0 : Nat) : Int) (0, 0, false) :: o.drop 1 := by
      have := drop_cons (d := (0, 0, false)) hpos
      simpa using this
    have c0 : Chain a b 0 0 o := by
      rw [e]
      exact ⟨f1, f2, f3, f4, f5, c⟩
    have := chain_len a b o 0 0 c0
    simp only [List.drop_zero] at this
    omega
end Sp
