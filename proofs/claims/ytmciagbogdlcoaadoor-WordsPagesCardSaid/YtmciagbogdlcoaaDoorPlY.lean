/- Words, and what was changed of them: what is told, shown of the conditions. Plain theorems. -/
import Derived.Test.YtmciagbogdlcoaaDoorPlC
import Derived.Test.YtmciagbogdlcoaaDoorVcY
import Derived.Test.YtmciagbogdlcoaaDoorViThree
set_option linter.unnecessarySimpa false
set_option linter.unusedVariables false
set_option linter.unusedSectionVars false
set_option linter.unusedSimpArgs false
set_option autoImplicit false
open Go Vi

namespace Sp
theorem w_sub_self {α : Type} (l : List α) {i : Int} : sub l i i = [] := by
  unfold sub; exact List.drop_eq_nil_of_le (by rw [List.length_take]; omega)
theorem w_sub_snoc {α : Type} {l : List α} {i j : Int} (d : α) (h1 : 0 ≤ i) (h2 : i ≤ j) (h3 : j < (l.length : Int)) : sub l i (j + 1) = sub l i j ++ [nth l j d] := by
  obtain ⟨i, rfl⟩ : ∃ n : Nat, i = n := ⟨i.toNat, by omega⟩
  obtain ⟨j, rfl⟩ : ∃ n : Nat, j = n := ⟨j.toNat, by omega⟩
  have h3' : j < l.length := by omega
  unfold sub
  rw [show ((j : Int) + 1).toNat = j + 1 from by omega, Int.toNat_natCast, Int.toNat_natCast, take_succ (d := d) h3', List.drop_append_of_le_length (by rw [List.length_take]; omega)]
theorem w_sub_len {α : Type} {l : List α} {i j : Int} (h1 : 0 ≤ i) (h2 : i ≤ j) (h3 : j ≤ (l.length : Int)) : ((sub l i j).length : Int) = j - i := by
  unfold sub; rw [List.length_drop, List.length_take]; omega

theorem splitF_more : ∀ (k m : Nat) (s : Str), s.length ≤ k → s.length ≤ m → splitF k s = splitF m s
  | 0, 0, _, _, _ => rfl
  | 0, m + 1, s, h, _ => by
    have : s = [] := List.eq_nil_of_length_eq_zero (by omega)
    subst this; rfl
  | k + 1, 0, s, _, h => by
    have : s = [] := List.eq_nil_of_length_eq_zero (by omega)
    subst this; rfl
  | k + 1, m + 1, [], _, _ => rfl
  | k + 1, m + 1, x :: t, h, h' => by
    rw [splitF, splitF, splitF_more k m _ (by simp at *; omega) (by simp at *; omega)]
theorem wordsOf_cons (x : UInt8) (t : Str) : wordsOf (x :: t) = (x :: t.take (runN (cls x) t)) :: wordsOf (t.drop (runN (cls x) t)) := by
  unfold wordsOf
  rw [List.length_cons, splitF, splitF_more _ (t.drop (runN (cls x) t)).length _ (by simp) (Nat.le_refl _)]
end Sp

theorem chars_Space.ok (R : Bool → Prop) (b : Int) (hR : R (Sp.spB b)) : chars_Space.vc R b := by
  unfold chars_Space.vc
  unfold Sp.spB at hR
  revert hR
  cases decide (b = 9) <;> cases decide (b = 10) <;> cases decide (b = 12) <;> exact id

theorem split_inner (K0 : List UInt8 × List (List UInt8) × Unit → Prop) (x : UInt8) (t : Str) (out : List Str) (hl : (x :: t).length ≤ 1000000) (ho : out.length ≤ 1000000)
    (hK0 : K0 (t.drop (Sp.runN (Sp.cls x) t), out ++ [x :: t.take (Sp.runN (Sp.cls x) t)], ())) :
    Lp (fun v K => words_Split.L1 K0 v.fst v.snd.fst v.snd.snd.fst K) (x :: t, 1, out, ()) := by
  simp only [List.length_cons] at hl
  refine Lp_rule (fun v => ∃ m : Nat, v = (x :: t, (m : Int) + 1, out, ()) ∧ m ≤ t.length ∧ Sp.runN (Sp.cls x) t = m + Sp.runN (Sp.cls x) (t.drop m)) (fun v => (x :: t).length - v.2.1.toNat) ?_ ⟨0, rfl, Nat.zero_le _, by simp⟩
  rintro _ K ⟨m, rfl, hm, hr⟩ hK
  simp only [words_Split.L1, rg64, ix_iff, sb_iff, gr_iff]
  have fin (h : Sp.runN (Sp.cls x) (t.drop m) = 0) : ((0 : Int) ≤ 0 ∧ 0 ≤ (m : Int) + 1 ∧ (m : Int) + 1 ≤ ((x :: t).length : Int)) ∧ (out.length + 1) * 16 ≤ 140737488351232 ∧ (0 ≤ (m : Int) + 1 ∧ (m : Int) + 1 ≤ ((x :: t).length : Int) ∧ ((x :: t).length : Int) ≤ ((x :: t).length : Int)) ∧
      K0 (sub (x :: t) ((m : Int) + 1) ((x :: t).length : Int), out ++ [sub (x :: t) 0 ((m : Int) + 1)], ()) := by
    rw [h, Nat.add_zero] at hr
    rw [hr] at hK0
    refine ⟨by simp; omega, by omega, by simp; omega, ?_⟩
    have e1 : sub (x :: t) ((m : Int) + 1) ((x :: t).length : Int) = t.drop m := by
      unfold sub
      rw [Int.toNat_natCast, List.take_length, show ((m : Int) + 1).toNat = m + 1 from by omega]; rfl
    have e2 : sub (x :: t) 0 ((m : Int) + 1) = x :: t.take m := by
      unfold sub
      rw [show ((m : Int) + 1).toNat = m + 1 from by omega]; rfl
    rw [e1, e2]; exact hK0
  rw [cond_dec]
  split
  · rename_i c1
    have hm' : m < t.length := by simp at c1; omega
    have e0 : nth (x :: t) ((m : Int) + 1) (0 : UInt8) = nth t (m : Int) 0 := rfl
    have e1 : nth (x :: t) 0 (0 : UInt8) = x := rfl
    rw [e0, e1]
    refine ⟨by simp; omega, by simp, ?_⟩
    have hd := drop_cons (d := (0 : UInt8)) hm'
    rw [hd, Sp.runN] at hr
    rw [hd, Sp.runN] at fin
    have ec : eqB (Sp.spB ((nth t (m : Int) (0 : UInt8)).toNat : Int)) (Sp.spB (x.toNat : Int)) = (Sp.cls (nth t (m : Int) (0 : UInt8)) == Sp.cls x) := rfl
    rw [ec]
    cases hc : Sp.cls (nth t (m : Int) (0 : UInt8)) == Sp.cls x with
    | true =>
      rw [hc, cond_true] at hr
      exact ⟨by omega, hK _ ⟨m + 1, rfl, by omega, by omega⟩ (by simp; omega)⟩
    | false =>
      rw [hc] at fin
      exact fin rfl
  · rename_i c1
    have : m = t.length := by simp at c1; omega
    exact fin (by rw [drop_end (by omega)]; rfl)

theorem words_Split.ok (R : List (List UInt8) → Prop) (s : Str) (h : Sp.wordsOf.pre s) (hR : R (Sp.wordsOf s)) : words_Split.vc R s := by
  unfold Sp.wordsOf.pre at h
  refine Lp_rule (fun v => ∃ (r : Str) (out : List Str), v = (r, out, ()) ∧ out.length + r.length ≤ s.length ∧ out ++ Sp.wordsOf r = Sp.wordsOf s) (fun v => List.length v.1) ?_ ⟨s, [], rfl, by simp, rfl⟩
  rintro _ K ⟨r, out, rfl, hl, he⟩ hK
  simp only [words_Split.L0]
  rw [cond_ndec]
  cases r with
  | nil =>
    rw [if_pos rfl]
    have : Sp.wordsOf [] = [] := rfl
    rw [this, List.append_nil] at he
    rw [he]; exact hR
  | cons x t =>
    rw [if_neg (by simp)]
    rw [Sp.wordsOf_cons] at he
    refine split_inner K x t out (by omega) (by omega) (hK _ ⟨_, _, rfl, ?_, ?_⟩ ?_)
    · simp only [List.length_append, List.length_cons, List.length_nil, List.length_drop] at *; omega
    · rw [← he]; simp
    · simp; omega

namespace Sp
theorem gone_snoc (l : List Str) (x : Str) : gone (l ++ [x]) = gone l ++ [(2, x)] := by simp [gone]
theorem come_snoc (l : List Str) (x : Str) : come (l ++ [x]) = come l ++ [(3, x)] := by simp [come]
theorem gone_len (l : List Str) : (gone l).length = l.length := by simp [gone]
theorem come_len (l : List Str) : (come l).length = l.length := by simp [come]
end Sp

theorem up_two (R : Int → List (List UInt8) → Int → List (List UInt8) → List (Int × List UInt8) → Prop) (toB i : Int) (a : List Str) (j : Int) (b : List Str) (out : List Sp.Piece) (hj : 0 ≤ j) (hjt : j ≤ toB) (hb : toB ≤ b.length) (hbl : b.length ≤ 1000000) (ho : out.length ≤ 5000000)
    (hR : R i a toB b (out ++ Sp.come (sub b j toB))) :
    Lp (fun v K => words_Lists_1.L1 R v.fst v.snd.fst v.snd.snd.fst v.snd.snd.snd.fst v.snd.snd.snd.snd.fst v.snd.snd.snd.snd.snd.fst K) (toB, i, a, j, b, out, ()) := by
  refine Lp_rule (fun v => ∃ q : Int, v = (toB, i, a, q, b, out ++ Sp.come (sub b j q), ()) ∧ j ≤ q ∧ q ≤ toB) (fun v => (toB - v.2.2.2.1).toNat) ?_ ⟨j, by rw [Sp.w_sub_self]; simp [Sp.come], Int.le_refl _, hjt⟩
  rintro _ K ⟨q, rfl, h1, h2⟩ hK
  simp only [words_Lists_1.L1, cond_dec, rg64, ix_iff, gr_iff]
  split
  · rename_i c1
    have hl := Sp.w_sub_len (l := b) hj h1 (by omega)
    refine ⟨by omega, by rw [List.length_append, Sp.come_len]; omega, by omega, hK _ ⟨q + 1, ?_, by omega, by omega⟩ (by simp; omega)⟩
    rw [Sp.w_sub_snoc [] hj h1 (by omega), Sp.come_snoc, List.append_assoc]
  · have : q = toB := by omega
    subst this
    exact hR

theorem words_Lists_1.ok (R : Int → List (List UInt8) → Int → List (List UInt8) → List (Int × List UInt8) → Prop) (toA toB i : Int) (a : List Str) (j : Int) (b : List Str) (out : List (Int × Str)) (h : Sp.up.pre toA toB i out a j b)
    (hR : R toA a toB b (Sp.up toA toB i out a j b)) : words_Lists_1.vc R toA toB i a j b out := by
  obtain ⟨h1, h2, h3, h4, h5, h6, h7, h8, h9⟩ := h
  refine Lp_rule (fun v => ∃ p : Int, v = (toA, toB, p, a, j, b, out ++ Sp.gone (sub a i p), ()) ∧ i ≤ p ∧ p ≤ toA) (fun v => (toA - v.2.2.1).toNat) ?_ ⟨i, by rw [Sp.w_sub_self]; simp [Sp.gone], Int.le_refl _, h2⟩
  rintro _ K ⟨p, rfl, k1, k2⟩ hK
  simp only [words_Lists_1.L0, rg64, ix_iff, gr_iff]
  rw [cond_dec]
  have hl := Sp.w_sub_len (l := a) h1 k1 (by omega)
  split
  · rename_i c1
    refine ⟨by omega, by rw [List.length_append, Sp.gone_len]; omega, by omega, hK _ ⟨p + 1, ?_, by omega, by omega⟩ (by simp; omega)⟩
    rw [Sp.w_sub_snoc [] h1 k1 (by omega), Sp.gone_snoc, List.append_assoc]
  · have : p = toA := by omega
    subst this
    refine up_two R toB p a j b _ h4 h5 h6 h8 (by rw [List.length_append, Sp.gone_len]; omega) ?_
    unfold Sp.up at hR
    rw [List.append_assoc]
    exact hR

namespace Sp
/-- Pairs that rise, from two places on, within bounds. -/
def Rs (n m : Nat) : Int → Int → List (Int × Int × Bool) → Prop
  | i, j, [] => 0 ≤ i ∧ i ≤ n ∧ 0 ≤ j ∧ j ≤ m
  | i, j, p :: l => 0 ≤ i ∧ i ≤ p.1 ∧ p.1 < n ∧ 0 ≤ j ∧ j ≤ p.2.1 ∧ p.2.1 < m ∧ Rs n m (p.1 + 1) (p.2.1 + 1) l
theorem rs_lines (a b : List Str) : ∀ (k : Nat) (i j : Nat) (i0 j0 : Int), a.length + b.length ≤ k + i + j → i ≤ a.length → j ≤ b.length → 0 ≤ i0 → i0 ≤ i → 0 ≤ j0 → j0 ≤ j → Rs a.length b.length i0 j0 (linesAt i j (a.drop i) (b.drop j))
  | 0, i, j, i0, j0, h, hi, hj, p1, p2, p3, p4 => by
    rw [drop_end (by omega), linesAt_nil]; exact ⟨p1, by omega, p3, by omega⟩
  | k + 1, i, j, i0, j0, h, hi, hj, p1, p2, p3, p4 => by
    by_cases h1 : i < a.length
    · by_cases h2 : j < b.length
      · rw [drop_cons (d := []) h1, drop_cons (d := []) h2, linesAt]
        split
        · exact ⟨p1, p2, by simp; omega, p3, p4, by simp; omega, rs_lines a b k (i + 1) (j + 1) _ _ (by omega) (by omega) (by omega) (by simp; omega) (by simp) (by simp; omega) (by simp)⟩
        · rw [← drop_cons h1, ← drop_cons h2]
          split
          · exact rs_lines a b k (i + 1) j i0 j0 (by omega) (by omega) (by omega) p1 (by omega) p3 p4
          · exact rs_lines a b k i (j + 1) i0 j0 (by omega) (by omega) (by omega) p1 p2 p3 (by omega)
      · rw [drop_end (l := b) (by omega), linesAt_nil2]; exact ⟨p1, by omega, p3, by omega⟩
    · rw [drop_end (by omega), linesAt_nil]; exact ⟨p1, by omega, p3, by omega⟩
theorem lines_rs (a b : List Str) : Rs a.length b.length 0 0 (lines a b) := rs_lines a b (a.length + b.length) 0 0 0 0 (by omega) (by omega) (by omega) (by omega) (by omega) (by omega) (by omega)
end Sp

theorem words_Lists.ok (R : List (Int × List UInt8) → Prop) (a b : List Str) (h : Sp.listsP.pre a b) (hR : R (Sp.listsP a b)) : words_Lists.vc R a b := by
  obtain ⟨ha, hb⟩ := h
  refine ⟨⟨ha, hb⟩, ?_⟩
  have hs := Sp.lines_size a b
  refine Lp_rule (fun v => ∃ (p : Nat) (out : List Sp.Piece) (i j : Int), v = (((Sp.lines a b).length : Int), (p : Int), a, b, out, i, j, Sp.lines a b, ()) ∧ p ≤ (Sp.lines a b).length ∧ Sp.Rs a.length b.length i j ((Sp.lines a b).drop p) ∧ (out.length : Int) ≤ i + j ∧
      out ++ Sp.mkLists a b i j ((Sp.lines a b).drop p) = Sp.listsP a b) (fun v => (Sp.lines a b).length - v.2.1.toNat) ?_ ⟨0, [], 0, 0, rfl, Nat.zero_le _, Sp.lines_rs a b, Int.le_refl _, rfl⟩
  rintro _ K ⟨p, out, i, j, rfl, hp, hr, ho, he⟩ hK
  simp only [words_Lists.L0, cond_dec, rg64, ix_iff, gr_iff]
  split
  · rename_i c1
    have hp' : p < (Sp.lines a b).length := by omega
    rw [drop_cons (d := (0, 0, false)) hp'] at hr he
    generalize nth (Sp.lines a b) (p : Int) (0, 0, false) = q at *
    obtain ⟨q1, q2, q3⟩ := q
    obtain ⟨r1, r2, r3, r4, r5, r6, r7⟩ := hr
    rw [Sp.mkLists] at he
    simp only at r2 r3 r5 r6 r7 he ⊢
    have l1 := Sp.w_sub_len (l := a) r1 r2 (by omega)
    have l2 := Sp.w_sub_len (l := b) r4 r5 (by omega)
    have hu : ((Sp.up q1 q2 i out a j b).length : Int) = out.length + (q1 - i) + (q2 - j) := by
      unfold Sp.up
      simp only [List.length_append, Sp.gone_len, Sp.come_len]
      omega
    refine ⟨by omega, ⟨r1, r2, by omega, r4, r5, by omega, ha, hb, by omega⟩, by omega, by omega, by omega, by omega, by omega, hK _ ⟨p + 1, _, _, _, rfl, by omega, r7, ?_, ?_⟩ (by simp; omega)⟩
    · rw [List.length_append, List.length_singleton]; omega
    · rw [← he]; unfold Sp.up; simp [List.append_assoc]
  · rw [drop_end (by omega)] at hr he
    obtain ⟨r1, r2, r3, r4⟩ := hr
    rw [Sp.mkLists] at he
    refine ⟨⟨r1, r2, Int.le_refl _, r3, r4, Int.le_refl _, ha, hb, by omega⟩, ?_⟩
    have : Sp.up (a.length : Int) (b.length : Int) i out a j b = Sp.listsP a b := by rw [← he]; rfl
    rw [this]
    exact hR

theorem ref_two (K0 : List (List UInt8) × List (List UInt8) × Int × Int × Int × List (Int × Int × Bool) × List (Int × List UInt8) × Unit → Prop) (a b : List Str) (i j k : Int) (pairs : List (Int × Int × Bool)) (out : List Sp.Piece) (pA pB : Int) (w : Bool)
    (hj : 0 ≤ j) (hjt : j ≤ pB) (hb : pB ≤ b.length) (hbl : b.length ≤ 1000000) (ho : out.length ≤ 5000000)
    (hF : ∀ o, o = out ++ Sp.come (sub b j pB) → bif decide (k < (pairs.length : Int)) then Ix i a.length ∧ Gr o.length 1 24 ∧ Rg IntKind.i64 (i + 1) ∧ Rg IntKind.i64 (pB + 1) ∧ Rg IntKind.i64 (k + 1) ∧ K0 (a, b, i + 1, pB + 1, k + 1, pairs, o ++ [(1, nth a i [])], ())
      else Rg IntKind.i64 (i + 1) ∧ Rg IntKind.i64 (pB + 1) ∧ Rg IntKind.i64 (k + 1) ∧ K0 (a, b, i + 1, pB + 1, k + 1, pairs, o, ())) :
    Lp (fun v K => rectoref24_Lists.L2 K0 v.fst v.snd.fst v.snd.snd.fst v.snd.snd.snd.fst v.snd.snd.snd.snd.fst v.snd.snd.snd.snd.snd.fst v.snd.snd.snd.snd.snd.snd.fst v.snd.snd.snd.snd.snd.snd.snd.fst v.snd.snd.snd.snd.snd.snd.snd.snd.fst v.snd.snd.snd.snd.snd.snd.snd.snd.snd.fst K)
      (a, b, i, j, k, pairs, out, pA, pB, w, ()) := by
  refine Lp_rule (fun v => ∃ q : Int, v = (a, b, i, q, k, pairs, out ++ Sp.come (sub b j q), pA, pB, w, ()) ∧ j ≤ q ∧ q ≤ pB) (fun v => (pB - v.2.2.2.1).toNat) ?_ ⟨j, by rw [Sp.w_sub_self]; simp [Sp.come], Int.le_refl _, hjt⟩
  rintro _ K ⟨q, rfl, h1, h2⟩ hK
  simp only [rectoref24_Lists.L2]
  rw [cond_dec]
  split
  · rename_i c1
    have hl := Sp.w_sub_len (l := b) hj h1 (by omega)
    refine ⟨by rw [ix_iff]; omega, by rw [gr_iff, List.length_append, Sp.come_len]; omega, by rw [rg64]; omega, hK _ ⟨q + 1, ?_, by omega, by omega⟩ (by simp; omega)⟩
    rw [Sp.w_sub_snoc [] hj h1 (by omega), Sp.come_snoc, List.append_assoc]
  · have : q = pB := by omega
    subst this
    exact hF _ rfl

theorem ref_one (K0 : List (List UInt8) × List (List UInt8) × Int × Int × Int × List (Int × Int × Bool) × List (Int × List UInt8) × Unit → Prop) (a b : List Str) (i j k : Int) (pairs : List (Int × Int × Bool)) (out : List Sp.Piece) (pA pB : Int) (w : Bool)
    (hi : 0 ≤ i) (hit : i ≤ pA) (ha : pA ≤ a.length) (hal : a.length ≤ 1000000) (hj : 0 ≤ j) (hjt : j ≤ pB) (hb : pB ≤ b.length) (hbl : b.length ≤ 1000000) (ho : out.length ≤ 4000000)
    (hF : ∀ o, o = Sp.up pA pB i out a j b → bif decide (k < (pairs.length : Int)) then Ix pA a.length ∧ Gr o.length 1 24 ∧ Rg IntKind.i64 (pA + 1) ∧ Rg IntKind.i64 (pB + 1) ∧ Rg IntKind.i64 (k + 1) ∧ K0 (a, b, pA + 1, pB + 1, k + 1, pairs, o ++ [(1, nth a pA [])], ())
      else Rg IntKind.i64 (pA + 1) ∧ Rg IntKind.i64 (pB + 1) ∧ Rg IntKind.i64 (k + 1) ∧ K0 (a, b, pA + 1, pB + 1, k + 1, pairs, o, ())) :
    Lp (fun v K => rectoref24_Lists.L1 K0 v.fst v.snd.fst v.snd.snd.fst v.snd.snd.snd.fst v.snd.snd.snd.snd.fst v.snd.snd.snd.snd.snd.fst v.snd.snd.snd.snd.snd.snd.fst v.snd.snd.snd.snd.snd.snd.snd.fst v.snd.snd.snd.snd.snd.snd.snd.snd.fst v.snd.snd.snd.snd.snd.snd.snd.snd.snd.fst K)
      (a, b, i, j, k, pairs, out, pA, pB, w, ()) := by
  refine Lp_rule (fun v => ∃ q : Int, v = (a, b, q, j, k, pairs, out ++ Sp.gone (sub a i q), pA, pB, w, ()) ∧ i ≤ q ∧ q ≤ pA) (fun v => (pA - v.2.2.1).toNat) ?_ ⟨i, by rw [Sp.w_sub_self]; simp [Sp.gone], Int.le_refl _, hit⟩
  rintro _ K ⟨q, rfl, h1, h2⟩ hK
  simp only [rectoref24_Lists.L1]
  rw [cond_dec]
  have hl := Sp.w_sub_len (l := a) hi h1 (by omega)
  split
  · rename_i c1
    refine ⟨by rw [ix_iff]; omega, by rw [gr_iff, List.length_append, Sp.gone_len]; omega, by rw [rg64]; omega, hK _ ⟨q + 1, ?_, by omega, by omega⟩ (by simp; omega)⟩
    rw [Sp.w_sub_snoc [] hi h1 (by omega), Sp.gone_snoc, List.append_assoc]
  · have : q = pA := by omega
    subst this
    refine ref_two K0 a b q j k pairs _ q pB w hj hjt hb hbl (by rw [List.length_append, Sp.gone_len]; omega) fun o ho => hF o ?_
    rw [ho]; unfold Sp.up; rw [List.append_assoc]

theorem rectoref24_Lists.ok (R : List (Int × List UInt8) → Prop) (a b : List Str) (h : Sp.listsP.pre a b) (hR : R (Sp.listsP a b)) : rectoref24_Lists.vc R a b := by
  obtain ⟨ha, hb⟩ := h
  refine ⟨⟨ha, hb⟩, ?_⟩
  have hs := Sp.lines_size a b
  refine Lp_rule (fun v => ∃ (p : Nat) (out : List Sp.Piece) (i j : Int), v = (a, b, i, j, (p : Int), Sp.lines a b, out, ()) ∧
      ((p ≤ (Sp.lines a b).length ∧ Sp.Rs a.length b.length i j ((Sp.lines a b).drop p) ∧ (out.length : Int) ≤ i + j ∧ out ++ Sp.mkLists a b i j ((Sp.lines a b).drop p) = Sp.listsP a b) ∨ (p = (Sp.lines a b).length + 1 ∧ out = Sp.listsP a b)))
    (fun v => (Sp.lines a b).length + 1 - v.2.2.2.2.1.toNat) ?_ ⟨0, [], 0, 0, rfl, .inl ⟨Nat.zero_le _, Sp.lines_rs a b, Int.le_refl _, rfl⟩⟩
  rintro _ K ⟨p, out, i, j, rfl, hI⟩ hK
  simp only [rectoref24_Lists.L0]
  rw [cond_dec]
  split
  case isFalse c1 =>
    rcases hI with ⟨hp, _⟩ | ⟨_, he⟩
    · omega
    · rw [he]; exact hR
  rename_i c1
  rcases hI with ⟨hp, hr, ho, he⟩ | ⟨hp, _⟩
  case inr => omega
  rw [cond_dec]
  split
  · rename_i c2
    have hp' : p < (Sp.lines a b).length := by omega
    refine ⟨by rw [ix_iff]; omega, ?_⟩
    rw [drop_cons (d := (0, 0, false)) hp'] at hr he
    generalize nth (Sp.lines a b) (p : Int) (0, 0, false) = q at *
    obtain ⟨q1, q2, q3⟩ := q
    obtain ⟨r1, r2, r3, r4, r5, r6, r7⟩ := hr
    rw [Sp.mkLists] at he
    simp only at r2 r3 r5 r6 r7 he ⊢
    have l1 := Sp.w_sub_len (l := a) r1 r2 (by omega)
    have l2 := Sp.w_sub_len (l := b) r4 r5 (by omega)
    have hu : ((Sp.up q1 q2 i out a j b).length : Int) = out.length + (q1 - i) + (q2 - j) := by
      unfold Sp.up
      simp only [List.length_append, Sp.gone_len, Sp.come_len]
      omega
    refine ref_one K a b i j p (Sp.lines a b) out q1 q2 q3 r1 r2 (by omega) ha r4 r5 (by omega) hb (by omega) fun o hoo => ?_
    subst hoo
    rw [cond_dec, if_pos c2]
    refine ⟨by rw [ix_iff]; omega, by rw [gr_iff]; omega, by rw [rg64]; omega, by rw [rg64]; omega, by rw [rg64]; omega, hK _ ⟨p + 1, _, _, _, rfl, .inl ⟨by omega, r7, ?_, ?_⟩⟩ (by simp; omega)⟩
    · rw [List.length_append, List.length_singleton]; omega
    · rw [← he]; unfold Sp.up; simp [List.append_assoc]
  · rename_i c2
    rw [drop_end (by omega)] at hr he
    obtain ⟨r1, r2, r3, r4⟩ := hr
    rw [Sp.mkLists] at he
    refine ref_one K a b i j p (Sp.lines a b) out a.length b.length false r1 r2 (Int.le_refl _) ha r3 r4 (Int.le_refl _) hb (by omega) fun o hoo => ?_
    subst hoo
    rw [cond_dec, if_neg c2]
    have : Sp.up (a.length : Int) (b.length : Int) i out a j b = Sp.listsP a b := by rw [← he]; rfl
    refine ⟨by rw [rg64]; omega, by rw [rg64]; omega, by rw [rg64]; omega, hK _ ⟨p + 1, _, _, _, rfl, .inr ⟨by omega, this⟩⟩ (by simp; omega)⟩

namespace Sp
theorem total_len : ∀ (l : List Piece) (p : Piece), p ∈ l → p.2.length ≤ total l
  | q :: l, p, h => by
    rw [total]
    rcases List.mem_cons.1 h with rfl | h
    · omega
    · have := total_len l p h; omega
theorem total_app : ∀ (l m : List Piece), total (l ++ m) = total l + total m
  | [], m => by simp [total]
  | p :: l, m => by rw [List.cons_append, total, total, total_app l m]; omega
theorem melt_total (out : List Piece) (p : Piece) : total (meltStep out p) = total out + p.2.length := by
  unfold meltStep
  split
  · rename_i h; rw [h]; simp
  · split
    · rename_i q hq
      obtain ⟨l, rfl⟩ := List.getLast?_eq_some_iff.1 hq
      split
      · rw [List.dropLast_concat, total_app, total_app]
        simp only [total, List.length_append]; omega
      · rw [total_app]; simp [total]
    · rename_i hq
      have : out = [] := List.getLast?_eq_none_iff.1 hq
      subst this
      simp [total]
theorem melt_len (out : List Piece) (p : Piece) : (meltStep out p).length ≤ out.length + 1 := by
  unfold meltStep
  split
  · omega
  · split
    · rename_i q hq
      obtain ⟨l, rfl⟩ := List.getLast?_eq_some_iff.1 hq
      split
      · rw [List.dropLast_concat]; simp
      · simp
    · simp
end Sp

theorem words_melted.ok (R : List (Int × List UInt8) → Prop) (l : List (Int × Str)) (h : Sp.melted.pre l) (hR : R (Sp.melted l)) : words_melted.vc R l := by
  obtain ⟨h1, h2⟩ := h
  refine Lp_rule (fun v => ∃ (p : Nat) (out : List Sp.Piece), v = (l, (l.length : Int), (p : Int), out, ()) ∧ p ≤ l.length ∧ out.length ≤ p ∧ Sp.total out + Sp.total (l.drop p) = Sp.total l ∧ Sp.meltF out (l.drop p) = Sp.melted l) (fun v => l.length - v.2.2.1.toNat) ?_ ⟨0, [], rfl, Nat.zero_le _, Nat.zero_le _, by simp [Sp.total], rfl⟩
  rintro _ K ⟨p, out, rfl, hp, ho, ht, he⟩ hK
  simp only [words_melted.L0]
  rw [cond_dec]
  split
  · rename_i c1
    have hp' : p < l.length := by omega
    rw [drop_cons (d := (0, [])) hp', Sp.meltF] at he
    rw [drop_cons (d := (0, [])) hp', Sp.total] at ht
    generalize nth l (p : Int) (0, []) = q at *
    obtain ⟨q1, q2⟩ := q
    simp only at ht he ⊢
    have hml := Sp.melt_len out (q1, q2)
    have hmt := Sp.melt_total out (q1, q2)
    have nx (o : List Sp.Piece) (hoo : o = Sp.meltStep out (q1, q2)) : K (l, (l.length : Int), (p : Int) + 1, o, ()) := by
      subst hoo
      exact hK _ ⟨p + 1, _, rfl, by omega, by omega, by rw [hmt]; simp only; omega, he⟩ (by simp; omega)
    unfold Sp.meltStep at nx
    refine ⟨by rw [ix_iff]; omega, by rw [rg64]; omega, ?_⟩
    simp only [cond_dec, rg64, ix_iff, gr_iff]
    by_cases c2 : q2 = []
    · rw [if_pos c2]
      exact ⟨by omega, nx _ (by rw [if_pos c2])⟩
    rw [if_neg c2]
    by_cases c3 : 0 ≤ (out.length : Int) - 1
    · rw [if_pos c3]
      obtain ⟨o', z, rfl⟩ : ∃ o' z, out = o' ++ [z] := ⟨out.dropLast, out.getLast (by intro e; rw [e] at c3; simp at c3), (List.dropLast_concat_getLast _).symm⟩
      have e1 : (((o' ++ [z]).length : Nat) : Int) - 1 = (o'.length : Nat) := by simp
      have e2 : nth (o' ++ [z]) (o'.length : Int) (0, []) = z := nth_mid o' z [] _ rfl
      rw [e1, e2]
      have hz : z.2.length ≤ Sp.total (o' ++ [z]) := Sp.total_len _ z (by simp)
      refine ⟨by simp; omega, ?_⟩
      by_cases c4 : z.1 = q1
      · rw [if_pos c4]
        have e3 : (o' ++ [z]).set ((o'.length : Nat) : Int).toNat (z.1, z.2 ++ q2) = o' ++ [(z.1, z.2 ++ q2)] := by rw [Int.toNat_natCast]; exact set_mid' o' z _ [] rfl
        rw [e3]
        refine ⟨by simp; omega, by omega, by simp; omega, by omega, nx _ ?_⟩
        rw [if_neg c2]
        simp [c4]
      · rw [if_neg c4]
        refine ⟨by simp at ho ⊢; omega, by omega, nx _ ?_⟩
        rw [if_neg c2]
        simp [c4]
    · rw [if_neg c3]
      have : out = [] := List.eq_nil_of_length_eq_zero (by omega)
      subst this
      exact ⟨by simp, by omega, nx _ (by rw [if_neg c2]; rfl)⟩
  · rw [drop_end (by omega), Sp.meltF] at he
    rw [he]; exact hR

namespace Sp
theorem catF_app (f : Piece → Str) : ∀ l m : List Piece, catF f (l ++ m) = catF f l ++ catF f m
  | [], _ => rfl
  | p :: l, m => by rw [List.cons_append, catF, catF, catF_app f l m, List.append_assoc]
theorem but2_gone : ∀ l : List Str, catF (butF 2) (gone l) = l.flatten
  | [] => rfl
  | s :: l => by
    have := but2_gone l
    unfold gone at *
    rw [List.map_cons, catF, this]; rfl
theorem but2_come : ∀ l : List Str, catF (butF 2) (come l) = []
  | [] => rfl
  | s :: l => by
    have := but2_come l
    unfold come at *
    rw [List.map_cons, catF, this]; rfl
theorem but3_gone : ∀ l : List Str, catF (butF 3) (gone l) = []
  | [] => rfl
  | s :: l => by
    have := but3_gone l
    unfold gone at *
    rw [List.map_cons, catF, this]; rfl
theorem but3_come : ∀ l : List Str, catF (butF 3) (come l) = l.flatten
  | [] => rfl
  | s :: l => by
    have := but3_come l
    unfold come at *
    rw [List.map_cons, catF, this]; rfl
theorem sub_drop {l : List Str} {i p : Int} (h1 : 0 ≤ i) (h2 : i ≤ p) (h3 : p < (l.length : Int)) : (sub l i p).flatten ++ (nth l p [] ++ (l.drop (p + 1).toNat).flatten) = (l.drop i.toNat).flatten := by
  obtain ⟨i, rfl⟩ : ∃ n : Nat, i = n := ⟨i.toNat, by omega⟩
  obtain ⟨p, rfl⟩ : ∃ n : Nat, p = n := ⟨p.toNat, by omega⟩
  have h3' : p < l.length := by omega
  rw [show ((p : Int) + 1).toNat = p + 1 from by omega, Int.toNat_natCast]
  have e : nth l (p : Int) [] ++ (l.drop (p + 1)).flatten = (l.drop p).flatten := by rw [drop_cons (d := []) h3']; rfl
  rw [e, ← List.flatten_append]
  congr 1
  unfold sub
  rw [Int.toNat_natCast, Int.toNat_natCast, List.drop_take]
  have := List.take_append_drop (p - i) (l.drop i)
  rw [List.drop_drop, show i + (p - i) = p from by omega] at this
  exact this
theorem sub_end {l : List Str} {i : Int} : sub l i (l.length : Int) = l.drop i.toNat := by
  unfold sub; rw [Int.toNat_natCast, List.take_length]
theorem told2_mk (a b : List Str) : ∀ (l : List (Int × Int × Bool)) (i j : Int), Rs a.length b.length i j l → catF (butF 2) (mkLists a b i j l) = (a.drop i.toNat).flatten
  | [], i, j, ⟨h1, _⟩ => by rw [mkLists, catF_app, but2_gone, but2_come, List.append_nil, sub_end]
  | p :: l, i, j, ⟨h1, h2, h3, h4, h5, h6, h7⟩ => by
    rw [mkLists, catF_app, catF_app, but2_gone, but2_come, List.append_nil, catF, told2_mk a b l _ _ h7]
    exact sub_drop h1 h2 h3
theorem told3_mk (a b : List Str) : ∀ (l : List (Int × Int × Bool)) (i j : Int), Rs a.length b.length i j l → (∀ p, p ∈ l → nth a p.1 [] = nth b p.2.1 []) → catF (butF 3) (mkLists a b i j l) = (b.drop j.toNat).flatten
  | [], i, j, ⟨_, _, h1, _⟩, _ => by rw [mkLists, catF_app, but3_gone, but3_come, List.nil_append, sub_end]
  | p :: l, i, j, ⟨h1, h2, h3, h4, h5, h6, h7⟩, he => by
    rw [mkLists, catF_app, catF_app, but3_gone, but3_come, List.nil_append, catF, told3_mk a b l _ _ h7 fun q hq => he q (List.mem_cons_of_mem _ hq), he p List.mem_cons_self]
    exact sub_drop h4 h5 h6
theorem lines_same (a b : List Str) : ∀ (k i j : Nat), a.length + b.length ≤ k + i + j → i ≤ a.length → j ≤ b.length → ∀ p, p ∈ linesAt i j (a.drop i) (b.drop j) → nth a p.1 [] = nth b p.2.1 []
  | 0, i, j, h, hi, hj, p, hp => by rw [drop_end (by omega), linesAt_nil] at hp; cases hp
  | k + 1, i, j, h, hi, hj, p, hp => by
    by_cases h1 : i < a.length
    · by_cases h2 : j < b.length
      · rw [drop_cons (d := []) h1, drop_cons (d := []) h2, linesAt] at hp
        split at hp
        · rename_i he
          rcases List.mem_cons.1 hp with rfl | hp
          · exact he
          · exact lines_same a b k (i + 1) (j + 1) (by omega) (by omega) (by omega) p hp
        · rw [← drop_cons h1, ← drop_cons h2] at hp
          split at hp
          · exact lines_same a b k (i + 1) j (by omega) (by omega) (by omega) p hp
          · exact lines_same a b k i (j + 1) (by omega) (by omega) (by omega) p hp
      · rw [drop_end (l := b) (by omega), linesAt_nil2] at hp; cases hp
    · rw [drop_end (by omega), linesAt_nil] at hp; cases hp
theorem told2_lists (a b : List Str) : catF (butF 2) (listsP a b) = a.flatten := by
  exact told2_mk a b (lines a b) 0 0 (lines_rs a b)
theorem told3_lists (a b : List Str) : catF (butF 3) (listsP a b) = b.flatten := by
  exact told3_mk a b (lines a b) 0 0 (lines_rs a b) (lines_same a b (a.length + b.length) 0 0 (by omega) (by omega) (by omega))
def Kinds (l : List Piece) : Prop := ∀ p, p ∈ l → p.1 = 1 ∨ p.1 = 2 ∨ p.1 = 3
theorem kinds_mk (a b : List Str) : ∀ (l : List (Int × Int × Bool)) (i j : Int), Kinds (mkLists a b i j l)
  | [], i, j, p, hp => by
    rw [mkLists] at hp
    rcases List.mem_append.1 hp with hp | hp
    · obtain ⟨_, _, rfl⟩ := List.mem_map.1 hp; exact .inr (.inl rfl)
    · obtain ⟨_, _, rfl⟩ := List.mem_map.1 hp; exact .inr (.inr rfl)
  | q :: l, i, j, p, hp => by
    rw [mkLists] at hp
    rcases List.mem_append.1 hp with hp | hp
    · rcases List.mem_append.1 hp with hp | hp
      · obtain ⟨_, _, rfl⟩ := List.mem_map.1 hp; exact .inr (.inl rfl)
      · obtain ⟨_, _, rfl⟩ := List.mem_map.1 hp; exact .inr (.inr rfl)
    · rcases List.mem_cons.1 hp with rfl | hp
      · exact .inl rfl
      · exact kinds_mk a b l _ _ p hp
theorem total_kinds : ∀ (l : List Piece), Kinds l → total l ≤ (catF (butF 2) l).length + (catF (butF 3) l).length
  | [], _ => Nat.le_refl _
  | p :: l, h => by
    have ih := total_kinds l fun q hq => h q (List.mem_cons_of_mem _ hq)
    rw [total, catF, catF, List.length_append, List.length_append]
    have : p.2.length ≤ (butF 2 p).length + (butF 3 p).length := by
      unfold butF
      rcases h p List.mem_cons_self with e | e | e <;> rw [e] <;> simp
    omega
theorem flat_words : ∀ (k : Nat) (s : Str), s.length ≤ k → (wordsOf s).flatten = s
  | _, [], _ => rfl
  | 0, x :: t, h => by simp at h
  | k + 1, x :: t, h => by
    rw [wordsOf_cons, List.flatten_cons, flat_words k _ (by simp at *; omega)]
    simp
theorem words_flat (s : Str) : (wordsOf s).flatten = s := flat_words _ s (Nat.le_refl _)
theorem words_len : ∀ (k : Nat) (s : Str), s.length ≤ k → (wordsOf s).length ≤ s.length
  | _, [], _ => Nat.le_refl _
  | 0, x :: t, h => by simp at h
  | k + 1, x :: t, h => by
    have := words_len k (t.drop (runN (cls x) t)) (by simp at *; omega)
    rw [wordsOf_cons]
    simp at *; omega
theorem mk_len (a b : List Str) : ∀ (l : List (Int × Int × Bool)) (i j : Int), Rs a.length b.length i j l → ((mkLists a b i j l).length : Int) ≤ (a.length - i) + (b.length - j)
  | [], i, j, ⟨h1, h2, h3, h4⟩ => by
    rw [mkLists, List.length_append, gone_len, come_len]
    have := w_sub_len (l := a) h1 h2 (Int.le_refl _)
    have := w_sub_len (l := b) h3 h4 (Int.le_refl _)
    omega
  | p :: l, i, j, ⟨h1, h2, h3, h4, h5, h6, h7⟩ => by
    have ih := mk_len a b l _ _ h7
    rw [mkLists, List.length_append, List.length_append, gone_len, come_len, List.length_cons]
    have := w_sub_len (l := a) h1 h2 (by omega)
    have := w_sub_len (l := b) h4 h5 (by omega)
    omega
theorem lists_len (a b : List Str) : (listsP a b).length ≤ a.length + b.length := by
  have := mk_len a b (lines a b) 0 0 (lines_rs a b)
  unfold listsP
  omega
theorem lists_pre (a b : Str) (ha : a.length ≤ 100000) (hb : b.length ≤ 100000) : melted.pre (listsP (wordsOf a) (wordsOf b)) := by
  have h1 := lists_len (wordsOf a) (wordsOf b)
  have h2 := words_len _ a (Nat.le_refl _)
  have h3 := words_len _ b (Nat.le_refl _)
  have h4 := total_kinds _ (kinds_mk (wordsOf a) (wordsOf b) (lines (wordsOf a) (wordsOf b)) 0 0)
  have h5 : total (listsP (wordsOf a) (wordsOf b)) ≤ (catF (butF 2) (listsP (wordsOf a) (wordsOf b))).length + (catF (butF 3) (listsP (wordsOf a) (wordsOf b))).length := h4
  rw [told2_lists, told3_lists, words_flat, words_flat] at h5
  exact ⟨by omega, by omega⟩
end Sp

theorem words_Texts.ok (R : List (Int × List UInt8) → Prop) (a b : Str) (h : Sp.textsP.pre a b) (hR : R (Sp.textsP a b)) : words_Texts.vc R a b := by
  obtain ⟨ha, hb⟩ := h
  have h2 := Sp.words_len _ a (Nat.le_refl _)
  have h3 := Sp.words_len _ b (Nat.le_refl _)
  have p2 : Sp.melted.pre [(2, a), (3, b)] := ⟨by simp, by simp [Sp.total]; omega⟩
  refine ⟨by unfold Sp.wordsOf.pre; omega, by unfold Sp.wordsOf.pre; omega, ?_⟩
  unfold Sp.textsP at hR
  rw [cond_dec, cond_dec]
  split
  · rename_i c1; rw [if_pos (.inl c1)] at hR; exact ⟨p2, hR⟩
  split
  · rename_i c2; rw [if_pos (.inr c2)] at hR; exact ⟨p2, hR⟩
  · rename_i c1 c2
    rw [if_neg (by omega)] at hR
    exact ⟨⟨by omega, by omega⟩, Sp.lists_pre a b ha hb, hR⟩

theorem words_but_1.ok (R : List UInt8 → Int → Prop) (p : Int × Str) (k : Int) (hR : R (Sp.butF k p) k) : words_but_1.vc R p k := by
  unfold words_but_1.vc
  unfold Sp.butF at hR
  revert hR
  cases decide (p.1 = 1) <;> cases decide (p.1 = k) <;> exact id
theorem words_but.ok (R : Int → Prop) (k : Int) (hR : R k) : words_but.vc R k := hR
theorem words_Marked_1.ok (R : List UInt8 → Prop) (p : Int × Str) (h : Sp.markF.pre p) (hR : R (Sp.markF p)) : words_Marked_1.vc R p := by
  unfold Sp.markF.pre at h
  unfold words_Marked_1.vc
  unfold Sp.markF at hR
  rw [cond_dec, cond_dec, cond_dec]
  by_cases c1 : p.1 = 1
  · rw [if_pos c1] at hR ⊢; exact hR
  rw [if_neg c1] at hR ⊢
  by_cases c2 : p.1 = 2
  · rw [if_pos c2] at hR ⊢
    exact ⟨by omega, by simp; omega, hR⟩
  rw [if_neg c2] at hR ⊢
  by_cases c3 : p.1 = 3
  · rw [if_pos c3] at hR ⊢
    exact ⟨by omega, by simp; omega, hR⟩
  rw [if_neg c3] at hR ⊢
  exact hR

namespace Sp
theorem w_bytesOf_ints (s : Str) : bytesOf (ints s) = s := by
  unfold bytesOf ints
  rw [List.map_map]
  conv => rhs; rw [← List.map_id s]
  apply List.map_congr_left
  intro x _
  simp
theorem w_bytesOf_wr (x : List Int) (s : Str) : bytesOf (wr x s) = bytesOf x ++ s := by
  unfold wr
  have := w_bytesOf_ints s
  unfold bytesOf at *
  rw [List.map_append, this]
theorem w_wr_len (x : List Int) (s : Str) : (wr x s).length = x.length + s.length := by
  unfold wr; rw [List.length_append, ints_len]
end Sp

theorem words_told.ok (R : List UInt8 → Int → Prop) (l : List (Int × Str)) (k : Int) (h : Sp.toldK.pre l k) (hR : R (Sp.toldK l k) k) : words_told.vc R l k := by
  obtain ⟨h1, h2⟩ := h
  refine Lp_rule (fun v => ∃ (p : Nat) (x : List Int), v = (l, (l.length : Int), (p : Int), k, x, ()) ∧ p ≤ l.length ∧ x.length + (Sp.catF (Sp.butF k) (l.drop p)).length = (Sp.catF (Sp.butF k) l).length ∧ bytesOf x ++ Sp.catF (Sp.butF k) (l.drop p) = Sp.catF (Sp.butF k) l)
    (fun v => l.length - v.2.2.1.toNat) ?_ ⟨0, [], rfl, Nat.zero_le _, by simp, rfl⟩
  rintro _ K ⟨p, x, rfl, hp, hx, he⟩ hK
  simp only [words_told.L0, rg64, ix_iff]
  rw [cond_dec]
  split
  · rename_i c1
    have hp' : p < l.length := by omega
    rw [drop_cons (d := (0, [])) hp', Sp.catF] at hx he
    generalize nth l (p : Int) (0, []) = q at *
    rw [List.length_append] at hx
    refine ⟨by omega, by unfold Sp.wr.pre; first | omega | (simp only [Prod.eta]; omega), by omega, hK _ ⟨p + 1, _, rfl, by omega, ?_, ?_⟩ (by first | omega | (simp; omega))⟩
    · rw [Sp.w_wr_len]; first | omega | (simp only [Prod.eta]; omega)
    · rw [Sp.w_bytesOf_wr, List.append_assoc]; exact he
  · rw [drop_end (by omega), Sp.catF, List.append_nil] at he
    rw [he]; exact hR

theorem words_told_m.ok (R : List UInt8 → Prop) (l : List (Int × Str)) (h : Sp.marks.pre l) (hR : R (Sp.marks l)) : words_told_m.vc R l := by
  obtain ⟨h1, h2, h3⟩ := h
  refine Lp_rule (fun v => ∃ (p : Nat) (x : List Int), v = (l, (l.length : Int), (p : Int), x, ()) ∧ p ≤ l.length ∧ x.length + (Sp.catF Sp.markF (l.drop p)).length = (Sp.catF Sp.markF l).length ∧ bytesOf x ++ Sp.catF Sp.markF (l.drop p) = Sp.catF Sp.markF l)
    (fun v => l.length - v.2.2.1.toNat) ?_ ⟨0, [], rfl, Nat.zero_le _, by simp, rfl⟩
  rintro _ K ⟨p, x, rfl, hp, hx, he⟩ hK
  simp only [words_told_m.L0, rg64, ix_iff]
  rw [cond_dec]
  split
  · rename_i c1
    have hp' : p < l.length := by omega
    have hq := h3 (nth l (p : Int) (0, [])) (by rw [nth_lt hp']; exact List.getElem_mem hp')
    rw [drop_cons (d := (0, [])) hp', Sp.catF] at hx he
    generalize nth l (p : Int) (0, []) = q at *
    rw [List.length_append] at hx
    refine ⟨by omega, hq, by unfold Sp.wr.pre; first | omega | (simp only [Prod.eta]; omega), by omega, hK _ ⟨p + 1, _, rfl, by omega, ?_, ?_⟩ (by first | omega | (simp; omega))⟩
    · rw [Sp.w_wr_len]; first | omega | (simp only [Prod.eta]; omega)
    · rw [Sp.w_bytesOf_wr, List.append_assoc]; exact he
  · rw [drop_end (by omega), Sp.catF, List.append_nil] at he
    rw [he]; exact hR

theorem words_Old.ok (R : List UInt8 → Prop) (l : List (Int × Str)) (h : Sp.oldP.pre l) (hR : R (Sp.oldP l)) : words_Old.vc R l := ⟨h, hR⟩
theorem words_Marked.ok (R : List UInt8 → Prop) (l : List (Int × Str)) (h : Sp.marks.pre l) (hR : R (Sp.marks l)) : words_Marked.vc R l := ⟨h, hR⟩

namespace Sp
theorem meltF_total : ∀ (l out : List Piece), total (meltF out l) = total out + total l
  | [], out => by simp [meltF, total]
  | p :: l, out => by rw [meltF, meltF_total l, melt_total, total]; omega
theorem meltF_len : ∀ (l out : List Piece), (meltF out l).length ≤ out.length + l.length
  | [], out => by simp [meltF]
  | p :: l, out => by
    have := meltF_len l (meltStep out p)
    have := melt_len out p
    rw [meltF, List.length_cons]; omega
theorem texts_total {a b : Str} : total (textsP a b) ≤ a.length + b.length ∧ (textsP a b).length ≤ a.length + b.length + 2 := by
  unfold textsP
  split
  · unfold melted
    have := meltF_len [(2, a), (3, b)] []
    rw [meltF_total]
    simp [total] at *; omega
  · have h1 := lists_len (wordsOf a) (wordsOf b)
    have h2 := words_len _ a (Nat.le_refl _)
    have h3 := words_len _ b (Nat.le_refl _)
    have h4 := total_kinds _ (kinds_mk (wordsOf a) (wordsOf b) (lines (wordsOf a) (wordsOf b)) 0 0)
    have h5 : total (listsP (wordsOf a) (wordsOf b)) ≤ (catF (butF 2) (listsP (wordsOf a) (wordsOf b))).length + (catF (butF 3) (listsP (wordsOf a) (wordsOf b))).length := h4
    rw [told2_lists, told3_lists, words_flat, words_flat] at h5
    have h6 := meltF_len (listsP (wordsOf a) (wordsOf b)) []
    unfold melted
    rw [meltF_total]
    simp [total] at *; omega
theorem marks_len : ∀ l : List Piece, (catF markF l).length ≤ total l + 4 * l.length
  | [] => Nat.le_refl _
  | p :: l => by
    have := marks_len l
    have : (markF p).length ≤ p.2.length + 4 := by
      unfold markF
      split
      · omega
      split
      · simp
      split
      · simp
      · simp
    rw [catF, total, List.length_append, List.length_cons]; omega
theorem but_len (k : Int) : ∀ l : List Piece, (catF (butF k) l).length ≤ total l
  | [] => Nat.le_refl _
  | p :: l => by
    have := but_len k l
    have : (butF k p).length ≤ p.2.length := by
      unfold butF
      cases decide (p.1 = 1) || decide (p.1 = k) <;> simp
    rw [catF, total, List.length_append]; omega
theorem marks_ok {l : List Piece} (h1 : l.length ≤ 1000000000) (h2 : total l ≤ 1000000000) : marks.pre l := by
  have := marks_len l
  exact ⟨by omega, by omega, fun p hp => by have := total_len l p hp; omega⟩
theorem told_ok {l : List Piece} {k : Int} (h1 : l.length ≤ 1000000000) (h2 : total l ≤ 1000000000) : toldK.pre l k := by
  have := but_len k l
  exact ⟨by omega, by omega⟩
end Sp

theorem rectolaw24_abc.ok (R : Bool → Prop) (hR : R Sp.tt) : rectolaw24_abc.vc R := by
  refine ⟨⟨by decide, by decide⟩, ⟨by decide, by decide⟩, ⟨by decide, by decide⟩, ⟨by decide, by decide⟩, ?_, ?_, hR⟩
  · have := Sp.texts_total (a := [97, 32, 98, 32, 99]) (b := [97, 32, 120, 32, 99])
    simp only [List.length_cons, List.length_nil] at this
    exact Sp.marks_ok (by omega) (by omega)
  · have := Sp.texts_total (a := [97, 32, 98, 32, 99]) (b := [97, 32, 120, 32, 99])
    simp only [List.length_cons, List.length_nil] at this
    exact Sp.told_ok (by omega) (by omega)

namespace Sp
end Sp

namespace Sp
end Sp
namespace Sp
mutual
theorem lnN_mem : ∀ (ahead : Str) (n : Vi.Node) (s : Str), pkN n → s ∈ lnN ahead n → s.length ≤ ahead.length + szN n + 6200000
  | ahead, .mk k s n a t c, x, hp, hx => by
    rw [lnN] at hx
    have hsh := shown_len (pk_shown hp)
    have h5 := (pkN_eq hp).2.2.2.2
    rw [szN]
    rcases List.mem_cons.1 hx with rfl | hx
    · rw [List.length_append]; omega
    · have := lnL_mem (ahead ++ [32]) c x h5 hx
      rw [List.length_append] at this
      simp only [List.length_cons, List.length_nil] at this
      omega
theorem lnL_mem : ∀ (ahead : Str) (l : List Vi.Node) (s : Str), pkL l → s ∈ lnL ahead l → s.length ≤ ahead.length + szL l + 6200000
  | _, [], _, _, hx => by rw [lnL] at hx; cases hx
  | ahead, n :: l, x, hp, hx => by
    rw [pkL] at hp
    rw [lnL] at hx
    rw [szL]
    rcases List.mem_append.1 hx with hx | hx
    · have := lnN_mem ahead n x hp.1 hx; omega
    · have := lnL_mem ahead l x hp.2 hx; omega
end
theorem flat_bound {K : Nat} : ∀ l : List Str, (∀ s, s ∈ l → s.length ≤ K) → l.flatten.length ≤ K * l.length
  | [], _ => by simp
  | x :: l, h => by
    have h1 := h x (List.mem_cons_self ..)
    have h2 := flat_bound l fun s hs => h s (List.mem_cons_of_mem _ hs)
    rw [List.flatten_cons, List.length_append, List.length_cons, Nat.mul_succ]
    omega
theorem lines_small {a : List Vi.Node} (h : prOk a ∧ szL a ≤ 400) : (linesP a).length ≤ 400 ∧ (linesP a).flatten.length ≤ 10000000 * 400 := by
  have h1 : (linesP a).length ≤ 400 := by unfold linesP; rw [lnL_len]; have := cntL_sz a; omega
  refine ⟨h1, ?_⟩
  have h2 := flat_bound (K := 10000000) (linesP a) fun s hs => by
    have := lnL_mem [] a s h.1.2.1 hs
    simp only [List.length_nil] at this
    omega
  exact Nat.le_trans h2 (Nat.mul_le_mul_left _ h1)
theorem total_mem : ∀ {l : List Piece} {p : Piece}, p ∈ l → p.2.length ≤ total l
  | q :: l, p, h => by
    rw [total]
    rcases List.mem_cons.1 h with rfl | h
    · omega
    · have := total_mem h; omega
theorem pieces {a b : List Vi.Node} (h : pagesP.pre a b) : (listsP (linesP a) (linesP b)).length ≤ 800 ∧ Kinds (listsP (linesP a) (linesP b)) ∧ ∀ p, p ∈ listsP (linesP a) (linesP b) → p.2.length ≤ 10000000000 := by
  obtain ⟨h1, h2⟩ := h
  obtain ⟨a1, a2⟩ := lines_small h1
  obtain ⟨b1, b2⟩ := lines_small h2
  have hl := lists_len (linesP a) (linesP b)
  have hk : Kinds (listsP (linesP a) (linesP b)) := kinds_mk _ _ _ _ _
  have ht := total_kinds _ hk
  rw [told2_lists, told3_lists] at ht
  refine ⟨by omega, hk, fun p hp => ?_⟩
  have := total_mem hp
  omega
end Sp
theorem words_Pages.ok (R : List (List UInt8) → Prop) (a b : List Vi.Node) (h : Sp.pagesP.pre a b) (hR : R (Sp.pagesP a b)) : words_Pages.vc R a b := by
  obtain ⟨p1, p2, p3⟩ := Sp.pieces h
  obtain ⟨a1, _⟩ := Sp.lines_small h.1
  obtain ⟨b1, _⟩ := Sp.lines_small h.2
  unfold words_Pages.vc
  refine ⟨⟨h.1.1, by have := h.1.2; omega⟩, ⟨h.2.1, by have := h.2.2; omega⟩, ⟨by omega, by omega⟩, ?_⟩
  unfold Sp.pagesP at hR
  generalize Sp.listsP (Sp.linesP a) (Sp.linesP b) = l at *
  refine Lp_rule (fun v => ∃ (q : Nat) (out : List Str), v = (l, (l.length : Int), (q : Int), out, ()) ∧ q ≤ l.length ∧ out.length = q ∧ out ++ (l.drop q).map Sp.tellP = l.map Sp.tellP) (fun v => l.length - v.2.2.1.toNat) ?_ ⟨0, [], rfl, Nat.zero_le _, rfl, rfl⟩
  rintro _ K ⟨q, out, rfl, hq, ho, he⟩ hK
  simp only [words_Pages.L0]
  rw [cond_dec]
  split
  · have hq' : q < l.length := by omega
    have hm := Sp.nth_mem (d := ((0, []) : Int × Str)) hq'
    rw [drop_cons (d := ((0, []) : Int × Str)) hq', List.map_cons] at he
    generalize nth l (q : Int) ((0, []) : Int × Str) = p at *
    have k1 := p2 p hm
    have k2 := p3 p hm
    have hs : sub ([63, 32, 45, 43] : Str) p.1 (p.1 + 1) = Sp.signK p.1 := by
      unfold Sp.signK
      rcases k1 with e | e | e <;> rw [e] <;> rfl
    have hsl : (Sp.signK p.1).length = 1 := by
      unfold Sp.signK
      rcases k1 with e | e | e <;> rw [e] <;> rfl
    rw [hs]
    refine ⟨by rw [ix_iff]; omega, by rw [rg64]; omega, by rw [sb_iff]; omega, by rw [hsl]; omega, by rw [List.length_append, hsl]; simp only [List.length_cons, List.length_nil]; omega, by rw [gr_iff]; omega, by rw [rg64]; omega, ?_⟩
    exact hK _ ⟨q + 1, _, rfl, by omega, by rw [List.length_append, ho]; rfl, by rw [← he, List.append_assoc]; rfl⟩ (by simp only; omega)
  · have : q = l.length := by omega
    subst this
    rw [List.drop_length, List.map_nil, List.append_nil] at he
    rw [he]; exact hR
theorem rectoref24_Pages.ok (R : List (List UInt8) → Prop) (a b : List Vi.Node) (h : Sp.pagesP.pre a b) (hR : R (Sp.pagesP a b)) : rectoref24_Pages.vc R a b := by
  obtain ⟨p1, p2, p3⟩ := Sp.pieces h
  obtain ⟨a1, _⟩ := Sp.lines_small h.1
  obtain ⟨b1, _⟩ := Sp.lines_small h.2
  unfold rectoref24_Pages.vc
  refine ⟨⟨h.1.1, by have := h.1.2; simp only [List.length_nil]; omega⟩, ⟨h.2.1, by have := h.2.2; simp only [List.length_nil]; omega⟩, ⟨by show (Sp.linesP a).length ≤ _; omega, by show (Sp.linesP b).length ≤ _; omega⟩, ?_⟩
  unfold Sp.pagesP at hR
  show Lp _ (Sp.listsP (Sp.linesP a) (Sp.linesP b), ((Sp.listsP (Sp.linesP a) (Sp.linesP b)).length : Int), 0, [], ())
  generalize Sp.listsP (Sp.linesP a) (Sp.linesP b) = l at *
  refine Lp_rule (fun v => ∃ (q : Nat) (out : List Str), v = (l, (l.length : Int), (q : Int), out, ()) ∧ q ≤ l.length ∧ out.length = q ∧ out ++ (l.drop q).map Sp.tellP = l.map Sp.tellP) (fun v => l.length - v.2.2.1.toNat) ?_ ⟨0, [], rfl, Nat.zero_le _, rfl, rfl⟩
  rintro _ K ⟨q, out, rfl, hq, ho, he⟩ hK
  simp only [rectoref24_Pages.L0]
  rw [cond_dec]
  split
  · have hq' : q < l.length := by omega
    have hm := Sp.nth_mem (d := ((0, []) : Int × Str)) hq'
    rw [drop_cons (d := ((0, []) : Int × Str)) hq', List.map_cons] at he
    generalize nth l (q : Int) ((0, []) : Int × Str) = p at *
    have k1 := p2 p hm
    have k2 := p3 p hm
    have go (x : Str) (hx : Sp.tellP p = x) : (2 : Int) + (p.2.length : Int) ≤ 9223372036854775807 ∧ Gr out.length 1 16 ∧ Rg .i64 ((q : Int) + 1) ∧ K (l, (l.length : Int), (q : Int) + 1, out ++ [x], ()) := by
      subst hx
      exact ⟨by omega, by rw [gr_iff]; omega, by rw [rg64]; omega, hK _ ⟨q + 1, _, rfl, by omega, by rw [List.length_append, ho]; rfl, by rw [← he, List.append_assoc]; rfl⟩ (by simp only; omega)⟩
    refine ⟨by rw [ix_iff]; omega, ?_⟩
    rw [cond_dec]
    split
    · rename_i e; exact go _ (by unfold Sp.tellP Sp.signK; rw [e]; rfl)
    rename_i e1
    rw [cond_dec]
    split
    · rename_i e; exact go _ (by unfold Sp.tellP Sp.signK; rw [e]; rfl)
    · rename_i e2
      have e : p.1 = 3 := by omega
      exact go _ (by unfold Sp.tellP Sp.signK; rw [e]; rfl)
  · have : q = l.length := by omega
    subst this
    rw [List.drop_length, List.map_nil, List.append_nil] at he
    rw [he]; exact hR
theorem rectolaw24_large.ok (R : Bool → Prop) (l : List Vi.Node) (hR : R (Sp.large2 l)) : rectolaw24_large.vc R l := ⟨⟨by decide, by decide, by decide, by decide⟩, hR⟩
theorem rectolaw24_WordsPages.ok (R : Bool → Prop) (a b : List Vi.Node) (h : Sz (.sl .node) a ∧ Sz (.sl .node) b) (hR : R Sp.tt) : rectolaw24_WordsPages.vc R a b := by
  unfold rectolaw24_WordsPages.vc
  cases hl : Sp.large2 a with
  | true => exact hR
  | false =>
  cases hn : Sp.large2 b with
  | true => exact hR
  | false =>
  obtain ⟨a1, a2⟩ := Sp.lg_pk (l := a) (r := 200) hl (by decide)
  obtain ⟨b1, b2⟩ := Sp.lg_pk (l := b) (r := 200) hn (by decide)
  have hp : Sp.pagesP.pre a b := ⟨⟨a1, by omega⟩, b1, by omega⟩
  simp only [cond_false]
  have hlen : (Sp.pagesP a b).length ≤ 800 := by unfold Sp.pagesP; rw [List.length_map]; exact (Sp.pieces hp).1
  refine ⟨hp, hp, by unfold Sp.eqL.pre; omega, ?_⟩
  rw [show Sp.eqL (Sp.pagesP a b) (Sp.pagesP a b) = true from decide_eq_true rfl]
  exact hR
