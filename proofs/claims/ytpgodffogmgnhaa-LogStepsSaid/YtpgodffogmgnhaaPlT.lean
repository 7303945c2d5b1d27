/- A log and the document's, step by step: shown of the conditions. Plain theorems. -/
import Derived.Test.YtpgodffogmgnhaaVcT
import Derived.Test.YtpgodffogmgnhaaPlL
set_option linter.unnecessarySimpa false
set_option linter.unusedVariables false
set_option linter.unusedSectionVars false
set_option linter.unusedSimpArgs false
set_option autoImplicit false
open Go Vi

namespace Sp
theorem op_lOk {f n s : Int} {d : DSt} {m : Nat} (hd : dOk m d) (hf : f ≤ 1000) (hn : n ≤ 1000) (h : opErr f n s d = 0) : lOk (f, n, opS f s d, s) ∧ ((opS f s d).length : Int) = s ∧ wholeB (opS f s d) = true := by
  unfold opErr at h
  split at h
  · omega
  rename_i c1
  split at h
  · rename_i c; exact absurd h c
  rename_i c2
  split at h
  · omega
  rename_i c3
  have c1 : ¬ (f < 0 ∨ n < 1 ∨ d.bs.length < n ∨ d.bs.length - n < f ∨ s < 0 ∨ n * 256 < s) := by
    unfold opBad at c1
    exact fun q => c1 (decide_eq_true q)
  have hbl := blocksOf_nat (n := s) (by omega)
  have hl : (opS f s d).length = s.toNat := by
    unfold opS opRd at *
    have := rd_len hd (blocksOf s).toNat f (by omega)
    rw [List.length_take, this]
    omega
  refine ⟨?_, by omega, ?_⟩
  · unfold lOk
    simp only [LSt.frm, LSt.blocks, LSt.b, LSt.sealed]
    omega
  · unfold opS
    cases hw : wholeB ((opRd f s d).1.take s.toNat) with
    | true => rfl
    | false => exact absurd hw c3
theorem eachR_text (s t : Str) (h : (s.length : Int) ≤ 65536) : eachL (textB s ++ t) = (s, t) :: eachL t := by
  have e := takeText_textB (s := s) (by unfold maxBytes; omega) t
  have hne : textB s ++ t ≠ [] := by unfold textB plain; simp
  have := eachL_cons hne (by rw [e])
  rw [e] at this
  exact this
theorem each_catR : ∀ {l : List Str}, anyLong l = false → recsB (catB l) = l ∧ wholeB (catB l) = true
  | [], _ => ⟨rfl, rfl⟩
  | s :: l, h => by
    rw [anyLong, Bool.or_eq_false_iff] at h
    have hs := of_decide_eq_false h.1
    unfold maxBytes at hs
    have ih := each_catR h.2
    have e := eachR_text s (catB l) (by omega)
    rw [catB]
    unfold recsB wholeB at *
    rw [e]
    refine ⟨by rw [List.map_cons, ih.1], ?_⟩
    have h2 := ih.2
    unfold leftP at h2 ⊢
    cases hl : eachL (catB l) with
    | nil => rw [hl] at h2; exact h2
    | cons y r => rw [hl] at h2; rw [List.getLast?_cons_cons]; exact h2
theorem catB_app : ∀ (l m : List Str), catB (l ++ m) = catB l ++ catB m
  | [], m => by simp [catB]
  | x :: l, m => by rw [List.cons_append, catB, catB, catB_app l m, List.append_assoc]
theorem anyLong_app : ∀ {l m : List Str}, anyLong l = false → anyLong m = false → anyLong (l ++ m) = false
  | [], m, _, h => h
  | x :: l, m, hl, h => by
    rw [anyLong, Bool.or_eq_false_iff] at hl
    rw [List.cons_append, anyLong, Bool.or_eq_false_iff]
    exact ⟨hl.1, anyLong_app hl.2 h⟩
theorem catB_count : ∀ (l : List Str), l.length ≤ (catB l).length
  | [] => Nat.zero_le _
  | s :: l => by
    have := catB_count l
    rw [catB, List.length_append]
    have : 1 ≤ (textB s).length := by unfold textB plain; simp
    rw [List.length_cons]; omega

theorem whole_cons {b : Str} (hb : b ≠ []) (h : (takeText b).2.2 = 0) : wholeB b = wholeB (takeText b).2.1 ∧ recsB b = (takeText b).1 :: recsB (takeText b).2.1 := by
  have e := eachL_cons hb h
  unfold wholeB recsB
  rw [e]
  refine ⟨?_, rfl⟩
  unfold leftP
  cases hl : eachL (takeText b).2.1 with
  | nil => rfl
  | cons y r =>
    rw [List.getLast?_cons_cons]
    cases hq : (y :: r).getLast? with
    | none => simp at hq
    | some z => rfl
theorem whole_bad {b : Str} (hb : b ≠ []) (h : ¬ (takeText b).2.2 = 0) : wholeB b = false := by
  unfold wholeB leftP
  rw [eachL_bad h]
  cases b with
  | nil => exact absurd rfl hb
  | cons x l => rfl
theorem rLastW_len (i : Int) : ∀ (ws : List RWr) (b : Str), b.length = 256 → (∀ w, w ∈ ws → w.2.length = 256) → (rLastW i b ws).length = 256
  | [], _, h, _ => h
  | w :: l, b, h, hw => by
    rw [rLastW]
    refine rLastW_len i l _ ?_ (fun x hx => hw x (by simp [hx]))
    split
    · exact hw w (by simp)
    · exact h
theorem rread_256 {n : Nat} {w : RSt} (h : rOk n w) (i : Int) (he : (rRead i w).2 = 0) : (rRead i w).1.length = 256 := by
  unfold rRead at he ⊢
  cases hi : rIn i w with
  | false => rw [hi] at he; simp at he
  | true =>
    rw [hi] at he
    rw [if_neg (by simp)] at he ⊢
    split at he
    · simp at he
    · rename_i c
      rw [if_neg c]
      have hi' : 0 ≤ i ∧ i < w.bs.length := of_decide_eq_true hi
      exact rLastW_len i _ _ (h.2.1 _ (nth_get hi'.1 hi'.2)) (fun x hx => (h.2.2.2.1 x hx).2.2)
theorem rr_abs (d : DSt) : ∀ (k : Nat) (i : Int), rrF (abs d) k i = rdF d k i
  | 0, _ => rfl
  | k + 1, i => by rw [rrF, rdF, abs_read, rr_abs d k (i + 1)]
theorem ro_abs (f s : Int) (n : Int) (d : DSt) : roRd (f, n, s) (abs d) = opRd f s d := by unfold roRd opRd; exact rr_abs d _ _
theorem roErr_abs (f n s : Int) (d : DSt) : roErr (f, n, s) (abs d) = opErr f n s d := by
  have e : roBad (f, n, s) (abs d) = opBad f n s d := by
    have hb : ((abs d).bs.length : Int) = d.bs.length := by show ((d.bs.map List.flatten).length : Int) = _; rw [List.length_map]
    unfold roBad opBad
    rw [hb, Int.mul_comm 256 n]
  unfold roErr opErr
  rw [e, ro_abs]
theorem rr_bad (w : RSt) (k : Nat) (i : Int) (hne : (rrF w k i).2 ≠ 0) : rrF w k i = ([], (rrF w k i).2) := by
  cases k with
  | zero => exact absurd rfl hne
  | succ k =>
    rw [rrF] at hne ⊢
    split at hne
    · rename_i c; rw [if_pos c]
    rename_i c
    rw [if_neg c]
    split at hne
    · rename_i c2; rw [if_pos c2]
    · exact absurd rfl hne

theorem val_snoc (t : Str) (x : UInt8) : val 0 (t ++ [x]) = val 0 t * 256 + x.toNat := by rw [val_app]; rfl
theorem val_pos : ∀ (k : Nat) (t : Str), t.length = k → t ≠ [] → t.head? ≠ some 0 → 0 < val 0 t := by
  intro k
  induction k with
  | zero => intro t h hne _; exact absurd (List.eq_nil_of_length_eq_zero h) hne
  | succ k ih =>
    intro t h hne hh
    obtain ⟨t', x, rfl⟩ : ∃ t' x, t = t' ++ [x] := ⟨t.dropLast, t.getLast hne, (List.dropLast_concat_getLast hne).symm⟩
    rw [val_snoc]
    have hx := x.toNat_lt
    cases t' with
    | nil =>
      have : x ≠ 0 := fun e => hh (by rw [e]; rfl)
      have : x.toNat ≠ 0 := fun e => this (u8_zero.1 (by rw [e]; rfl))
      show 0 < (0 : Int) * 256 + _
      omega
    | cons y r =>
      have := ih (y :: r) (by simp at h ⊢; omega) (by simp) (by simpa using hh)
      omega
theorem digs_of : ∀ (k : Nat) (t : Str), t.length = k → t.head? ≠ some 0 → val 0 t ≤ maxInt → digs (val 0 t) = t := by
  intro k
  induction k with
  | zero => intro t h _ _; rw [List.eq_nil_of_length_eq_zero h]; exact digs_zero (Int.le_refl 0)
  | succ k ih =>
    intro t h hh hm
    have hne : t ≠ [] := fun e => by rw [e] at h; simp at h
    have hp := val_pos (k + 1) t h hne hh
    obtain ⟨t', x, rfl⟩ : ∃ t' x, t = t' ++ [x] := ⟨t.dropLast, t.getLast hne, (List.dropLast_concat_getLast hne).symm⟩
    rw [digs_step hp hm]
    rw [val_snoc] at hm ⊢
    have hx := x.toNat_lt
    have hv : 0 ≤ val 0 t' := (val_bound t' 0 (Int.le_refl 0)).1
    have e1 : (val 0 t' * 256 + (x.toNat : Int)) / 256 = val 0 t' := by omega
    have e2 : (val 0 t' * 256 + (x.toNat : Int)) % 256 = x.toNat := by omega
    rw [e1, e2]
    have hh' : t'.head? ≠ some 0 := by
      cases t' with
      | nil => simp
      | cons y r => simpa using hh
    rw [ih t' (by simp at h; omega) hh' (by omega)]
    have : byte (x.toNat : Int) = x := by unfold byte; rw [Int.toNat_natCast]; simp
    rw [this]
theorem takeNum_inv {b : Str} (h : (takeNum b).2.2 = 0) : b = plain (takeNum b).1 ++ (takeNum b).2.1 ∧ (takeNum b).1 ≤ maxInt := by
  cases b with
  | nil => simp [takeNum] at h
  | cons k t =>
    rw [takeNum] at h ⊢
    split at h
    · simp at h
    rename_i c1
    rw [if_neg c1]
    cases hz : ((t.take k.toNat).head? == some 0) with
    | true => rw [hz] at h; simp at h
    | false =>
      rw [hz] at h
      simp only [cond_false] at h ⊢
      split at h
      · simp at h
      rename_i c2
      rw [if_neg c2]
      simp only
      have hk : k.toNat ≤ t.length := by omega
      have hh : (t.take k.toNat).head? ≠ some 0 := fun e => by rw [e] at hz; simp at hz
      have hd := digs_of _ (t.take k.toNat) rfl hh (by omega)
      refine ⟨?_, by omega⟩
      unfold plain
      rw [hd, List.length_take, Nat.min_eq_left hk]
      have : byte (k.toNat : Int) = k := by unfold byte; rw [Int.toNat_natCast]; simp
      rw [this]
      show k :: t = k :: (t.take k.toNat ++ t.drop k.toNat)
      rw [List.take_append_drop]
theorem takeText_inv {b : Str} (h : (takeText b).2.2 = 0) : b = textB (takeText b).1 ++ (takeText b).2.1 ∧ ((takeText b).1.length : Int) ≤ 65536 := by
  unfold takeText at h ⊢
  split at h
  · simp at h
  rename_i c
  rw [if_neg c]
  have c1 : (takeNum b).2.2 = 0 := by
    by_cases q : (takeNum b).2.2 = 0
    · exact q
    · exact absurd (.inl q) c
  have c2 : ¬ maxBytes < (takeNum b).1 := fun q => c (.inr (.inl q))
  have c3 : ¬ ((takeNum b).2.1.length : Int) < (takeNum b).1 := fun q => c (.inr (.inr q))
  obtain ⟨e, _⟩ := takeNum_inv c1
  have h0 := takeNum_nonneg b
  unfold maxBytes at c2
  simp only
  have hl : ((takeNum b).2.1.take (takeNum b).1.toNat).length = (takeNum b).1.toNat := by rw [List.length_take]; omega
  refine ⟨?_, by omega⟩
  unfold textB
  rw [hl, show (((takeNum b).1.toNat : Nat) : Int) = (takeNum b).1 by omega, List.append_assoc, List.take_append_drop]
  exact e
theorem whole_inv : ∀ (k : Nat) (b : Str), b.length ≤ k → wholeB b = true → b = catB (recsB b) ∧ anyLong (recsB b) = false := by
  intro k
  induction k with
  | zero =>
    intro b h _
    rw [List.eq_nil_of_length_eq_zero (by omega : b.length = 0)]
    exact ⟨rfl, rfl⟩
  | succ k ih =>
    intro b h hw
    by_cases hb : b = []
    · subst hb; exact ⟨rfl, rfl⟩
    by_cases ht : (takeText b).2.2 = 0
    · obtain ⟨w1, w2⟩ := whole_cons hb ht
      obtain ⟨e, hl⟩ := takeText_inv ht
      have hless := takeText_less ht
      obtain ⟨i1, i2⟩ := ih (takeText b).2.1 (by omega) (by rw [← w1]; exact hw)
      rw [w2, catB, anyLong, i2, ← i1]
      refine ⟨e, ?_⟩
      rw [Bool.or_false]
      exact decide_eq_false (by unfold maxBytes; omega)
    · rw [whole_bad hb ht] at hw; cases hw
theorem rel_sealed {m : MSt} (h0 : 0 ≤ m.2.2.1) (h1 : m.2.2.1 ≤ m.2.2.2.length) : mSealed m ≤ (catB m.2.2.2).length ∧ (catB m.2.2.2).take (mSealed m).toNat = catB (m.2.2.2.take m.2.2.1.toNat) := by
  unfold mSealed
  have e : catB m.2.2.2 = catB (m.2.2.2.take m.2.2.1.toNat) ++ catB (m.2.2.2.drop m.2.2.1.toNat) := by rw [← catB_app, List.take_append_drop]
  have hl := congrArg List.length e
  rw [List.length_append] at hl
  refine ⟨by omega, ?_⟩
  rw [Int.toNat_natCast, e, List.take_append_of_le_length (Nat.le_refl _), List.take_of_length_le (Nat.le_refl _)]
theorem rel_mOk {l : LSt} {m : MSt} (hl : lOk l) (hr : Rel l m) : mOk m := by
  obtain ⟨h1, h2, h3, h4, h5, h6, h7⟩ := hl
  obtain ⟨r1, r2, r3, r4, r5, r6, r7⟩ := hr
  simp only [LSt.frm, LSt.blocks, LSt.b, LSt.sealed] at h1 h2 h3 h4 h5 h6 h7
  unfold mOk
  rw [r4] at h7
  omega
theorem add_rel (s : Str) {l : LSt} {m : MSt} (hl : lOk l) (hr : Rel l m) : (lAdd s l).2 = (mAdd s m).2 ∧ Rel (lAdd s l).1 (mAdd s m).1 := by
  obtain ⟨r1, r2, r3, r4, r5, r6, r7⟩ := hr
  by_cases c : (textP s).2 = 0
  · have e1 : lAdd s l = if lRoom l < ((textP s).1.length : Int) then (l, 5) else ((l.frm, l.blocks, l.b ++ (textP s).1, l.sealed), 0) := by unfold lAdd; rw [if_neg (fun q => q c)]
    have e2 : mAdd s m = if 256 * m.2.1 < (catB m.2.2.2).length + (textP s).1.length then (m, 5) else ((m.1, m.2.1, m.2.2.1, m.2.2.2 ++ [s]), 0) := by unfold mAdd; rw [if_neg (fun q => q c)]
    rw [e1, e2]
    obtain ⟨t1, t2⟩ := textP_len c
    have hroom : lRoom l < ((textP s).1.length : Int) ↔ 256 * m.2.1 < ((catB m.2.2.2).length : Int) + (textP s).1.length := by
      unfold lRoom
      simp only [LSt.blocks, LSt.b]
      rw [r2, r4]; omega
    by_cases c2 : lRoom l < ((textP s).1.length : Int)
    · rw [if_pos c2, if_pos (hroom.1 c2)]
      exact ⟨rfl, r1, r2, r3, r4, r5, r6, r7⟩
    · rw [if_neg c2, if_neg (fun q => c2 (hroom.2 q))]
      have hc1 : catB [s] = textB s := by simp [catB]
      refine ⟨rfl, r1, r2, anyLong_app r3 ?_, ?_, r5, ?_, ?_⟩
      · rw [anyLong, anyLong, Bool.or_false]; exact decide_eq_false (by unfold maxBytes; omega)
      · show l.2.2.1 ++ (textP s).1 = catB (m.2.2.2 ++ [s])
        rw [catB_app, hc1, r4, t2]; rfl
      · show m.2.2.1 ≤ ((m.2.2.2 ++ [s]).length : Int)
        rw [List.length_append]; omega
      · show l.2.2.2 = mSealed (m.1, m.2.1, m.2.2.1, m.2.2.2 ++ [s])
        rw [r7]
        unfold mSealed
        simp only
        rw [List.take_append_of_le_length (by omega)]
  · have e1 : lAdd s l = (l, (textP s).2) := by unfold lAdd; rw [if_pos c]
    have e2 : mAdd s m = (m, (textP s).2) := by unfold mAdd; rw [if_pos c]
    rw [e1, e2]
    exact ⟨rfl, r1, r2, r3, r4, r5, r6, r7⟩
theorem mw_skip {m : MSt} : ∀ (k : Nat) (i : Int) (w : RSt), (∀ j : Int, i ≤ j → 256 * j + 256 ≤ mSealed m ∨ ((catB m.2.2.2).length : Int) ≤ 256 * j ∨ mSealed m = (catB m.2.2.2).length) → mwF m k i w = (w, 0)
  | 0, _, _, _ => rfl
  | k + 1, i, w, h => by
    rw [mwF, if_pos (h i (Int.le_refl _))]
    exact mw_skip k (i + 1) w (fun j hj => h j (by omega))
theorem mw_run {l : LSt} {m : MSt} (hf : l.1 = m.1) (hb : l.2.2.1 = catB m.2.2.2) (h0 : 0 ≤ m.1) (hf2 : m.1 ≤ 1000) (hlt : mSealed m < (catB m.2.2.2).length) :
    ∀ (k : Nat) (i : Nat) {n : Nat} (d : DSt), dOk n d → i + k ≤ 1001 → mSealed m / 256 ≤ i → blocksOf (catB m.2.2.2).length ≤ i + k → mwF m k (i : Int) (abs d) = (abs (wrF l (blocksOf (catB m.2.2.2).length - (i : Int)).toNat (i : Int) d).1, (wrF l (blocksOf (catB m.2.2.2).length - (i : Int)).toNat (i : Int) d).2)
  | 0, i, n, d, hd, _, _, hk => by
    rw [show (blocksOf (catB m.2.2.2).length - (i : Int)).toNat = 0 by omega]; rfl
  | k + 1, i, n, d, hd, hi, hs, hk => by
    have hbl := blocksOf_nat (n := ((catB m.2.2.2).length : Int)) (by omega)
    rw [mwF]
    by_cases c : ((catB m.2.2.2).length : Int) ≤ 256 * (i : Int)
    · rw [if_pos (.inr (.inl c)), mw_skip k _ _ (fun j hj => .inr (.inl (by omega)))]
      have : blocksOf (catB m.2.2.2).length ≤ i := by unfold blocksOf; omega
      rw [show (blocksOf (catB m.2.2.2).length - (i : Int)).toNat = 0 by omega]; rfl
    · rw [if_neg (by omega)]
      obtain ⟨k', hk'⟩ : ∃ k', (blocksOf (catB m.2.2.2).length - (i : Int)).toNat = k' + 1 := ⟨(blocksOf (catB m.2.2.2).length - (i : Int)).toNat - 1, by unfold blocksOf at *; omega⟩
      rw [hk', wrF]
      have hfr : l.frm = m.1 := hf
      have hbb : l.b = catB m.2.2.2 := hb
      rw [hfr, hbb, abs_write _ _ hd]
      simp only
      have hwo := write_ok (i := m.1 + (i : Int)) hd (by omega) (page_len (catB m.2.2.2) (i : Int))
      split
      · rfl
      · have ih := mw_run hf hb h0 hf2 hlt k (i + 1) _ hwo (by omega) (by omega) (by omega)
        rw [show (((i + 1 : Nat) : Int)) = (i : Int) + 1 by omega] at ih
        rw [ih, show (blocksOf (catB m.2.2.2).length - ((i : Int) + 1)).toNat = k' by omega]
theorem write_rel {n : Nat} {l : LSt} {m : MSt} {d : DSt} (hl : lOk l) (hr : Rel l m) (hd : dOk n d) : mWrite m (abs d) = (abs (lWrite l d).1, (lWrite l d).2) := by
  have hm := rel_mOk hl hr
  obtain ⟨m1, m2, m3, m4, m5, m6, m7⟩ := hm
  obtain ⟨r1, r2, r3, r4, r5, r6, r7⟩ := hr
  have hse := (rel_sealed m5 m6).1
  have hs0 : 0 ≤ mSealed m := by unfold mSealed; omega
  have hbl := blocksOf_nat (n := ((catB m.2.2.2).length : Int)) (by omega)
  unfold mWrite lWrite
  simp only [LSt.b, LSt.sealed]
  rw [r4, r7]
  by_cases c : mSealed m < (catB m.2.2.2).length
  · rw [if_pos c]
    obtain ⟨i0, hi0⟩ : ∃ i0 : Nat, mSealed m / 256 = i0 := ⟨(mSealed m / 256).toNat, by omega⟩
    have skip : ∀ (j : Nat) (k : Nat), j + k = m.2.1.toNat → j ≤ i0 → mwF m k (j : Int) (abs d) = mwF m (m.2.1.toNat - i0) (i0 : Int) (abs d) := by
      have key : ∀ (q j k : Nat), j + k = m.2.1.toNat → j + q = i0 → mwF m k (j : Int) (abs d) = mwF m (m.2.1.toNat - i0) (i0 : Int) (abs d) := by
        intro q
        induction q with
        | zero =>
          intro j k h1 h2
          have : j = i0 := by omega
          subst this
          rw [show k = m.2.1.toNat - j by omega]
        | succ q ih =>
          intro j k h1 h2
          obtain ⟨k, rfl⟩ : ∃ k', k = k' + 1 := ⟨k - 1, by unfold blocksOf at *; omega⟩
          rw [mwF, if_pos (.inl (by omega))]
          rw [show ((j : Int) + 1) = ((j + 1 : Nat) : Int) by omega]
          exact ih (j + 1) k (by omega) (by omega)
      intro j k h1 h2
      exact key (i0 - j) j k h1 (by omega)
    have h1 := skip 0 m.2.1.toNat (by omega) (by omega)
    rw [show (((0 : Nat) : Int)) = 0 from rfl] at h1
    rw [h1, hi0]
    exact mw_run r1 r4 m1 m2 c (m.2.1.toNat - i0) i0 d hd (by omega) (by omega) (by unfold blocksOf at *; omega)
  · rw [if_neg c]
    exact mw_skip _ _ _ (fun j _ => .inr (.inr (by omega)))
theorem seal_rel {l : LSt} {m : MSt} (hr : Rel l m) : Rel (lSeal l) (mSeal m) := by
  obtain ⟨r1, r2, r3, r4, r5, r6, r7⟩ := hr
  refine ⟨r1, r2, r3, r4, by show (0 : Int) ≤ (m.2.2.2.length : Int); omega, by show ((m.2.2.2.length : Int)) ≤ m.2.2.2.length; omega, ?_⟩
  show (l.2.2.1.length : Int) = mSealed (mSeal m)
  unfold mSealed mSeal
  simp only [Int.toNat_natCast]
  rw [List.take_of_length_le (Nat.le_refl _), r4]
theorem drop_rel {l : LSt} {m : MSt} (hr : Rel l m) : Rel (lDrop l) (mDrop m) := by
  obtain ⟨r1, r2, r3, r4, r5, r6, r7⟩ := hr
  have hse := rel_sealed r5 r6
  have hlen : (m.2.2.2.take m.2.2.1.toNat).length = m.2.2.1.toNat := by rw [List.length_take]; omega
  have hal : anyLong (m.2.2.2.take m.2.2.1.toNat) = false := by
    have : ∀ (l : List Str) (k : Nat), anyLong l = false → anyLong (l.take k) = false := by
      intro l
      induction l with
      | nil => intro k _; simp [anyLong]
      | cons x l ih =>
        intro k h
        rw [anyLong, Bool.or_eq_false_iff] at h
        cases k with
        | zero => rfl
        | succ k => rw [List.take_succ_cons, anyLong, h.1, ih k h.2]; rfl
    exact this _ _ r3
  refine ⟨r1, r2, hal, ?_, r5, by show m.2.2.1 ≤ ((m.2.2.2.take m.2.2.1.toNat).length : Int); omega, ?_⟩
  · show l.2.2.1.take l.2.2.2.toNat = catB (m.2.2.2.take m.2.2.1.toNat)
    rw [r4, r7]; exact hse.2
  · show l.2.2.2 = mSealed (mDrop m)
    rw [r7]
    unfold mSealed mDrop
    simp only
    rw [List.take_take, Nat.min_self]
theorem open_rel {n : Nat} {d : DSt} {f b s : Int} (hd : dOk n d) (hf : f ≤ 1000) (hb : b ≤ 1000) (h : opErr f b s d = 0) : lOk (f, b, opS f s d, s) ∧ Rel (f, b, opS f s d, s) (f, b, ((roL (f, b, s) (abs d)).length : Int), roL (f, b, s) (abs d)) := by
  obtain ⟨h1, h2, h3⟩ := op_lOk hd hf hb h
  have e : roL (f, b, s) (abs d) = recsB (opS f s d) := by unfold roL; rw [ro_abs]; rfl
  obtain ⟨w1, w2⟩ := whole_inv _ (opS f s d) (Nat.le_refl _) h3
  rw [e]
  refine ⟨h1, rfl, rfl, w2, w1, by show (0 : Int) ≤ ((recsB (opS f s d)).length : Int); omega, by show ((recsB (opS f s d)).length : Int) ≤ (recsB (opS f s d)).length; omega, ?_⟩
  show s = mSealed (f, b, ((recsB (opS f s d)).length : Int), recsB (opS f s d))
  unfold mSealed
  simp only [Int.toNat_natCast]
  rw [List.take_of_length_le (Nat.le_refl _), ← w1]
  exact h2.symm
end Sp

/- A log and the document's, step by step: the laws. Plain theorems. -/

theorem rectoref29_Plain.ok (R : List UInt8 → Prop) (l : List Str) (h : Sp.catB.pre l) (hR : R (Sp.catB l)) : rectoref29_Plain.vc R l := by
  obtain ⟨h1, h2⟩ := h
  have hle : ∀ p : Nat, (Sp.catB (l.take p)).length + (Sp.catB (l.drop p)).length = (Sp.catB l).length := fun p => by
    rw [← List.length_append, ← Sp.catB_app, List.take_append_drop]
  refine Lp_rule (fun v => ∃ p : Nat, v = (Sp.catB (l.take p), l, (l.length : Int), (p : Int), ()) ∧ p ≤ l.length) (fun v => l.length - v.2.2.2.1.toNat) ?_ ⟨0, rfl, Nat.zero_le _⟩
  rintro _ K ⟨p, rfl, hp⟩ hK
  simp only [rectoref29_Plain.L0]
  rw [cond_dec]
  split
  · have hp' : p < l.length := by omega
    have h3 := hle p
    rw [drop_cons (d := ([] : Str)) hp', Sp.catB, List.length_append] at h3
    unfold Sp.textB at h3
    rw [List.length_append] at h3
    have ht := take_succ (d := ([] : Str)) hp'
    generalize nth l (p : Int) [] = s at *
    refine ⟨by rw [ix_iff]; omega, ⟨by omega, by unfold Sp.maxInt; omega⟩, by omega, by rw [List.length_append]; omega, by rw [rg64]; omega, hK _ ⟨p + 1, ?_, by omega⟩ (by simp only; omega)⟩
    rw [ht, Sp.catB_app, show Sp.catB [s] = Sp.textB s by simp [Sp.catB]]
    unfold Sp.textB
    rw [List.append_assoc]; rfl
  · rw [List.take_of_length_le (by omega)]
    exact hR
theorem Of_own.ok (R : Bool → List Str → Prop) (b : Str) (h : Sp.ofB.pre b) (hR : R (Sp.ofB b).2 (Sp.ofB b).1) : Of_own.vc R b := by
  have h : b.length ≤ 1000000 := h
  unfold Of_own.vc
  refine Lp_rule (fun v => ∃ (rest : Str) (out : List Str), v = (rest, false, [], true, out, ()) ∧ Sp.wholeB b = Sp.wholeB rest ∧ Sp.recsB b = out ++ Sp.recsB rest ∧ out.length + rest.length ≤ b.length) (fun v => v.1.length) ?_
    ⟨b, [], rfl, rfl, rfl, by simp⟩
  rintro _ K ⟨rest, out, rfl, hw, hr, hl⟩ hK
  show Of_own.L0 R rest false [] true out K
  unfold Of_own.L0
  rw [cond_ndec]
  split
  · rename_i c
    subst c
    have e : Sp.ofB b = (out, true) := by
      unfold Sp.ofB
      rw [hw, hr, if_pos (show Sp.wholeB [] = true from rfl)]
      show (out ++ [], true) = _
      rw [List.append_nil]
    rw [e] at hR
    exact hR
  · rename_i c
    refine ⟨by unfold Sp.takenT.pre; omega, ?_⟩
    rw [cond_ndec]
    have e2 : (Sp.takenT rest).2.2.2.2 = (Sp.takeText rest).2.2 := rfl
    split
    · rename_i c2
      rw [e2] at c2
      obtain ⟨w1, w2⟩ := Sp.whole_cons c c2
      have hl2 := Sp.takeText_less c2
      refine ⟨by rw [gr_iff]; omega, hK _ ⟨(Sp.takeText rest).2.1, out ++ [(Sp.takeText rest).1], rfl, hw.trans w1, ?_, ?_⟩ hl2⟩
      · rw [hr, w2, List.append_assoc]; rfl
      · rw [List.length_append, List.length_singleton]; omega
    · rename_i c2
      rw [e2] at c2
      have e : Sp.ofB b = ([], false) := by
        unfold Sp.ofB
        rw [hw, Sp.whole_bad c c2, if_neg (by simp)]
      rw [e] at hR
      exact hR

theorem Open_own.ok (R0 : Int → Bool → Bool → Int → Bool → List Int → List (List UInt8) → List (Int × List UInt8) → Prop) (R1 : Int → Bool → Bool → Int → Bool → List Int → List (List UInt8) → List (Int × List UInt8) → Int → Int → Int → List (List UInt8) → Prop)
    (q : Int × Int × Int) (rdown rarmed : Bool) (rafter : Int) (racut : Bool) (rkeep : List Int) (rbs : List Str) (rws : List (Int × Str)) (h : Sp.roPre q (rdown, rarmed, rafter, racut, rkeep, rbs, rws))
    (h0 : Sp.roNil q (rdown, rarmed, rafter, racut, rkeep, rbs, rws) = true → R0 (Sp.roErr q (rdown, rarmed, rafter, racut, rkeep, rbs, rws)) rdown rarmed rafter racut rkeep rbs rws)
    (h1 : Sp.roNil q (rdown, rarmed, rafter, racut, rkeep, rbs, rws) = false → R1 0 rdown rarmed rafter racut rkeep rbs rws q.1 q.2.1 ((Sp.roL q (rdown, rarmed, rafter, racut, rkeep, rbs, rws)).length : Int) (Sp.roL q (rdown, rarmed, rafter, racut, rkeep, rbs, rws))) : Open_own.vc R0 R1 q rdown rarmed rafter racut rkeep rbs rws := by
  have h : Sp.rOk 90000 (rdown, rarmed, rafter, racut, rkeep, rbs, rws) := h
  have hp := Sp.rOk_up h (by omega)
  have hbsl : (rbs.length : Nat) ≤ 1000 := h.1
  obtain ⟨f, n, s⟩ := q
  unfold Open_own.vc
  unfold Sp.roNil at h0 h1
  show bif decide (f < 0) then _ else _
  simp only at h0 h1
  have bad (hb : f < 0 ∨ n < 1 ∨ (rbs.length : Int) < n ∨ (rbs.length : Int) - n < f ∨ s < 0 ∨ 256 * n < s) : R0 1 rdown rarmed rafter racut rkeep rbs rws := by
    have e : Sp.roErr (f, n, s) (rdown, rarmed, rafter, racut, rkeep, rbs, rws) = 1 := by
      unfold Sp.roErr Sp.roBad
      rw [if_pos (decide_eq_true hb)]
    rw [e] at h0
    exact h0 rfl
  rw [cond_dec]
  split
  · rename_i c; exact bad (.inl c)
  rename_i c1
  rw [cond_dec]
  split
  · rename_i c; exact bad (.inr (.inl c))
  rename_i c2
  have c2 : ¬ n < 1 := c2
  rw [cond_dec]
  split
  · rename_i c; exact bad (.inr (.inr (.inl c)))
  rename_i c3
  have c3 : ¬ (rbs.length : Int) < n := c3
  refine ⟨by rw [rg64]; show -9223372036854775808 ≤ (rbs.length : Int) - n ∧ (rbs.length : Int) - n ≤ 9223372036854775807; omega, ?_⟩
  rw [cond_dec]
  split
  · rename_i c; exact bad (.inr (.inr (.inr (.inl c))))
  rename_i c4
  have c4 : ¬ (rbs.length : Int) - n < f := c4
  rw [cond_dec]
  split
  · rename_i c; exact bad (.inr (.inr (.inr (.inr (.inl c)))))
  rename_i c5
  have c5 : ¬ s < 0 := c5
  refine ⟨by rw [rg64]; show -9223372036854775808 ≤ 256 * n ∧ 256 * n ≤ 9223372036854775807; omega, ?_⟩
  rw [cond_dec]
  split
  · rename_i c; exact bad (.inr (.inr (.inr (.inr (.inr c)))))
  rename_i c6
  have c6 : ¬ 256 * n < s := c6
  have hbl := Sp.blocksOf_nat (n := s) (by omega)
  obtain ⟨m, hm⟩ : ∃ m : Nat, Sp.blocksOf s = m := ⟨(Sp.blocksOf s).toNat, by omega⟩
  have hgood : Sp.roErr (f, n, s) (rdown, rarmed, rafter, racut, rkeep, rbs, rws) = if (Sp.roRd (f, n, s) (rdown, rarmed, rafter, racut, rkeep, rbs, rws)).2 ≠ 0 then (Sp.roRd (f, n, s) (rdown, rarmed, rafter, racut, rkeep, rbs, rws)).2 else if Sp.wholeB ((Sp.roRd (f, n, s) (rdown, rarmed, rafter, racut, rkeep, rbs, rws)).1.take s.toNat) = false then 290 else 0 := by
    unfold Sp.roErr Sp.roBad
    rw [if_neg]
    intro hb
    have hb := of_decide_eq_true hb
    simp only [Sp.RSt.bs] at hb
    omega
  have hrd : Sp.roRd (f, n, s) (rdown, rarmed, rafter, racut, rkeep, rbs, rws) = Sp.rrF (rdown, rarmed, rafter, racut, rkeep, rbs, rws) m f := by unfold Sp.roRd; rw [hm]; rfl
  unfold Sp.roL at h1
  rw [hgood] at h0 h1
  rw [hrd] at h0 h1
  clear hgood hrd bad
  refine Lp_rule (fun v => ∃ (p : Nat) (all : Str), v = (all, f + (p : Int), Sp.q7 (rdown, rarmed, rafter, racut, rkeep, rbs, rws) (f, n, s, 0, ())) ∧ p ≤ m ∧ all.length = 256 * p ∧
      Sp.rrF (rdown, rarmed, rafter, racut, rkeep, rbs, rws) m f = if (Sp.rrF (rdown, rarmed, rafter, racut, rkeep, rbs, rws) (m - p) (f + p)).2 ≠ 0 then ([], (Sp.rrF (rdown, rarmed, rafter, racut, rkeep, rbs, rws) (m - p) (f + p)).2) else (all ++ (Sp.rrF (rdown, rarmed, rafter, racut, rkeep, rbs, rws) (m - p) (f + p)).1, 0))
    (fun v => s.toNat + 256 - v.1.length) ?_ ⟨0, [], by rw [show f + ((0 : Nat) : Int) = f by omega], Nat.zero_le _, rfl, ?_⟩
  · rintro _ K ⟨p, all, rfl, hpm, hbuf, he⟩ hK
    show Open_own.L0 R0 R1 all (f + (p : Int)) rdown rarmed rafter racut rkeep rbs rws f n s 0 K
    unfold Open_own.L0
    generalize hd : ((rdown, rarmed, rafter, racut, rkeep, rbs, rws) : Sp.RSt) = d at *
    rw [cond_dec]
    split
    · rename_i c7
      obtain ⟨k, hk⟩ : ∃ k, m - p = k + 1 := ⟨m - p - 1, by omega⟩
      rw [hk] at he
      refine ⟨hp, ?_⟩
      rw [cond_ndec]
      split
      · rename_i c8
        have h256 := Sp.rread_256 h _ c8
        have e1 : Sp.rrF d (k + 1) (f + (p : Int)) = if (Sp.rrF d k (f + (p : Int) + 1)).2 ≠ 0 then ([], (Sp.rrF d k (f + (p : Int) + 1)).2) else ((Sp.rRead (f + (p : Int)) d).1 ++ (Sp.rrF d k (f + (p : Int) + 1)).1, 0) := by rw [Sp.rrF, if_neg (fun q => q c8)]
        rw [e1] at he
        have hl2 : (all ++ (Sp.rRead (f + (p : Int)) d).1).length = 256 * (p + 1) := by rw [List.length_append, h256, hbuf]; omega
        refine ⟨by rw [h256]; omega, by rw [rg64]; omega, hK _ ⟨p + 1, all ++ (Sp.rRead (f + (p : Int)) d).1, by rw [show f + ((p + 1 : Nat) : Int) = f + (p : Int) + 1 by omega, ← hd], by omega, hl2, ?_⟩ (by show s.toNat + 256 - (all ++ (Sp.rRead (f + (p : Int)) d).1).length < s.toNat + 256 - all.length; rw [hl2]; omega)⟩
        rw [he, show m - (p + 1) = k by omega, show f + ((p + 1 : Nat) : Int) = f + (p : Int) + 1 by omega]
        by_cases c9 : (Sp.rrF d k (f + (p : Int) + 1)).2 = 0
        · simp only [c9, ne_eq, not_true_eq_false, if_false, List.append_assoc]
        · simp only [c9, ne_eq, not_false_eq_true, if_true]
      · rename_i c8
        have e1 : Sp.rrF d (k + 1) (f + (p : Int)) = ([], (Sp.rRead (f + (p : Int)) d).2) := by rw [Sp.rrF, if_pos c8]
        rw [e1] at he
        simp only [c8, ne_eq, not_false_eq_true, if_true] at he
        rw [he] at h0
        simp only [c8, ne_eq, not_false_eq_true, if_true, decide_false, Bool.not_false] at h0
        exact h0 trivial
    · rename_i c7
      have hpe : p = m := by omega
      subst hpe
      rw [Nat.sub_self, Sp.rrF] at he
      simp only [ne_eq, not_true_eq_false, if_false, List.append_nil] at he
      rw [he] at h0 h1
      have es : sub all 0 s = all.take s.toNat := by unfold sub; rfl
      rw [es, sb_iff, hbuf]
      simp only [ne_eq, not_true_eq_false, if_false] at h0 h1
      refine ⟨by omega, by unfold Sp.ofB.pre; rw [List.length_take]; omega, ?_⟩
      unfold Sp.ofB
      cases hw : Sp.wholeB (all.take s.toNat) with
      | false =>
        rw [hw] at h0
        exact h0 rfl
      | true =>
        rw [hw] at h1
        exact h1 rfl
  · rw [Nat.sub_zero, show f + ((0 : Nat) : Int) = f by omega]
    by_cases c9 : (Sp.rrF (rdown, rarmed, rafter, racut, rkeep, rbs, rws) m f).2 = 0
    · rw [if_neg (fun q => q c9)]
      rw [← c9]; rfl
    · rw [if_pos c9]
      exact Sp.rr_bad _ _ _ c9


theorem rectoref29_Log_Add.ok (R : Int → Int → Int → Int → List Str → Prop) (s : Str) (mf mb ms : Int) (ml : List Str) (h : Sp.mOk (mf, mb, ms, ml)) (hR : R (Sp.mAdd s (mf, mb, ms, ml)).2 (Sp.mAdd s (mf, mb, ms, ml)).1.1 (Sp.mAdd s (mf, mb, ms, ml)).1.2.1 (Sp.mAdd s (mf, mb, ms, ml)).1.2.2.1 (Sp.mAdd s (mf, mb, ms, ml)).1.2.2.2) : rectoref29_Log_Add.vc R s mf mb ms ml := by
  obtain ⟨m1, m2, m3, m4, m5, m6, m7⟩ := h
  simp only at m1 m2 m3 m4 m5 m6 m7
  have hc := Sp.catB_count ml
  unfold rectoref29_Log_Add.vc
  unfold Sp.mAdd at hR
  rw [cond_ndec]
  split
  case isFalse => rename_i c; rw [if_pos c] at hR; exact hR
  rename_i c
  rw [if_neg (fun q => q c)] at hR
  have hs := Sp.textP_size c
  have hs2 := (Sp.textP_len c).1
  refine ⟨⟨by omega, by omega⟩, by rw [rg64]; omega, by rw [rg64]; omega, ?_⟩
  rw [cond_dec]
  split
  · rename_i c2; rw [if_pos c2] at hR; exact hR
  · rename_i c2
    rw [if_neg c2] at hR
    exact ⟨by rw [gr_iff]; omega, hR⟩
theorem rectoref29_Log_Drop.ok (R : Int → Int → Int → List Str → Prop) (mf mb ms : Int) (ml : List Str) (h : Sp.mOk (mf, mb, ms, ml)) (hR : R (Sp.mDrop (mf, mb, ms, ml)).1 (Sp.mDrop (mf, mb, ms, ml)).2.1 (Sp.mDrop (mf, mb, ms, ml)).2.2.1 (Sp.mDrop (mf, mb, ms, ml)).2.2.2) : rectoref29_Log_Drop.vc R mf mb ms ml := by
  obtain ⟨m1, m2, m3, m4, m5, m6, m7⟩ := h
  simp only at m1 m2 m3 m4 m5 m6 m7
  have hc := Sp.catB_count ml
  have e : sub ml 0 ms = ml.take ms.toNat := by unfold sub; simp
  unfold rectoref29_Log_Drop.vc
  rw [e]
  exact ⟨by rw [sb_iff]; omega, by rw [gr_iff, List.length_take]; omega, hR⟩
theorem rectoref29_Log_Write_L2 : @rectoref29_Log_Write.L2 = @rectoref29_Log_Write.L1 := rfl
set_option maxRecDepth 20000 in
theorem rectoref29_Log_Write.ok (R : Int → Int → Int → Int → Bool → Bool → Int → Bool → List Int → List Str → List Str → List (Int × Str) → Prop) (mf mb ms : Int) (rdown rarmed : Bool) (rafter : Int) (racut : Bool) (rkeep : List Int) (ml : List Str) (rbs : List Str) (rws : List (Int × Str))
    (h : Sp.mWrite.pre (mf, mb, ms, ml) (rdown, rarmed, rafter, racut, rkeep, rbs, rws))
    (hR : (fun (x : Sp.RSt × Int) => R x.2 mf mb ms x.1.1 x.1.2.1 x.1.2.2.1 x.1.2.2.2.1 x.1.2.2.2.2.1 ml x.1.2.2.2.2.2.1 x.1.2.2.2.2.2.2) (Sp.mWrite (mf, mb, ms, ml) (rdown, rarmed, rafter, racut, rkeep, rbs, rws))) : rectoref29_Log_Write.vc R mf mb ms rdown rarmed rafter racut rkeep ml rbs rws := by
  obtain ⟨⟨m1, m2, m3, m4, m5, m6, m7⟩, d0, hd0, hw⟩ := h
  simp only at m1 m2 m3 m4 m5 m6 m7
  have hc := Sp.catB_count ml
  have e : sub ml 0 ms = ml.take ms.toNat := by unfold sub; simp
  have hse := Sp.rel_sealed (m := (mf, mb, ms, ml)) m5 m6
  have hn : ((Sp.catB (ml.take ms.toNat)).length : Int) = Sp.mSealed (mf, mb, ms, ml) := rfl
  unfold rectoref29_Log_Write.vc
  rw [e, hn]
  refine ⟨⟨by omega, by omega⟩, by rw [sb_iff]; omega, ⟨by rw [List.length_take]; omega, by have := hse.1; rw [← hn] at this; simp only at this; omega⟩, ?_⟩
  have hs0 : 0 ≤ Sp.mSealed (mf, mb, ms, ml) := by rw [← hn]; omega
  have hs1 := hse.1
  simp only at hs1
  have hw : ((rdown, rarmed, rafter, racut, rkeep, rbs, rws) : Sp.RSt) = Sp.abs d0 := hw
  rw [hw] at hR
  unfold Sp.mWrite at hR
  have hMW : ∀ k i w, Sp.mwF (mf, mb, ms, ml) (k + 1) i w = if 256 * i + 256 ≤ Sp.mSealed (mf, mb, ms, ml) ∨ ((Sp.catB ml).length : Int) ≤ 256 * i ∨ Sp.mSealed (mf, mb, ms, ml) = (Sp.catB ml).length then Sp.mwF (mf, mb, ms, ml) k (i + 1) w else
    if (Sp.rWrite (mf + i) (Sp.pageB (Sp.catB ml) i) w).2 ≠ 0 then Sp.rWrite (mf + i) (Sp.pageB (Sp.catB ml) i) w else Sp.mwF (mf, mb, ms, ml) k (i + 1) (Sp.rWrite (mf + i) (Sp.pageB (Sp.catB ml) i) w).1 := fun k i w => rfl
  generalize Sp.mSealed (mf, mb, ms, ml) = n at *
  generalize hB : Sp.catB ml = B at *
  refine Lp_rule (fun v => ∃ (i k : Nat) (d : Sp.DSt), v = (B, n, (i : Int), mf, mb, ms, (Sp.abs d).1, (Sp.abs d).2.1, (Sp.abs d).2.2.1, (Sp.abs d).2.2.2.1, (Sp.abs d).2.2.2.2.1, ml, (Sp.abs d).2.2.2.2.2.1, (Sp.abs d).2.2.2.2.2.2, ()) ∧ (i : Int) + k = mb ∧ Sp.dOk (90000 + i) d ∧ Sp.mwF (mf, mb, ms, ml) k (i : Int) (Sp.abs d) = Sp.mwF (mf, mb, ms, ml) mb.toNat 0 (Sp.abs d0)) (fun v => (mb - v.2.2.1).toNat) ?_
    ⟨0, mb.toNat, d0, ?_, by omega, Sp.dOk_le hd0 (by omega), rfl⟩
  rotate_left
  · rw [← hw]; rfl
  rintro _ K ⟨i, k, d, rfl, hik, hdo, he⟩ hK
  simp only [rectoref29_Log_Write.L0, rectoref29_Log_Write_L2]
  rw [cond_dec]
  split
  case isFalse =>
    have : k = 0 := by omega
    subst this
    rw [Sp.mwF] at he
    rw [← he] at hR
    exact hR
  rename_i c0
  obtain ⟨k, rfl⟩ : ∃ k', k = k' + 1 := ⟨k - 1, by omega⟩
  rw [hMW] at he
  have skip (q : 256 * (i : Int) + 256 ≤ n ∨ (B.length : Int) ≤ 256 * (i : Int) ∨ n = B.length) : Rg IntKind.i64 ((i : Int) + 1) ∧ K (B, n, (i : Int) + 1, mf, mb, ms, (Sp.abs d).1, (Sp.abs d).2.1, (Sp.abs d).2.2.1, (Sp.abs d).2.2.2.1, (Sp.abs d).2.2.2.2.1, ml, (Sp.abs d).2.2.2.2.2.1, (Sp.abs d).2.2.2.2.2.2, ()) := by
    rw [if_pos q] at he
    exact ⟨by rw [rg64]; omega, hK _ ⟨i + 1, k, d, rfl, by omega, Sp.dOk_le hdo (by omega), he⟩ (by simp only; omega)⟩
  refine ⟨by rw [rg64]; omega, by rw [rg64]; omega, ?_⟩
  rw [cond_dec]
  split
  · rename_i c; exact skip (.inl c)
  rename_i c1
  refine ⟨by rw [rg64]; omega, ?_⟩
  rw [cond_dec]
  split
  · rename_i c; exact skip (.inr (.inl c))
  rename_i c2
  rw [cond_dec]
  split
  · rename_i c; exact skip (.inr (.inr c))
  rename_i c3
  clear skip
  rw [if_neg (fun q => q.elim c1 (fun q => q.elim c2 c3))] at he
  have es : sub B (256 * (i : Int)) (B.length : Int) = B.drop (256 * i) := by
    unfold sub
    rw [Int.toNat_natCast, List.take_of_length_le (Nat.le_refl _), show (256 * (i : Int)).toNat = 256 * i by omega]
  refine ⟨by rw [rg64]; omega, by rw [sb_iff]; omega, ?_⟩
  rw [es]
  -- the block, filled up
  have pad (s : Str) (hs : s = (B.drop (256 * i)).take 256) : Lp (fun v K1 => rectoref29_Log_Write.L1 R K v.1 v.2.1 v.2.2.1 v.2.2.2.1 v.2.2.2.2.1 v.2.2.2.2.2.1 v.2.2.2.2.2.2.1 v.2.2.2.2.2.2.2.1 v.2.2.2.2.2.2.2.2.1 v.2.2.2.2.2.2.2.2.2.1 v.2.2.2.2.2.2.2.2.2.2.1 v.2.2.2.2.2.2.2.2.2.2.2.1 v.2.2.2.2.2.2.2.2.2.2.2.2.1 v.2.2.2.2.2.2.2.2.2.2.2.2.2.1 v.2.2.2.2.2.2.2.2.2.2.2.2.2.2.1 K1)
      (B, n, (i : Int), s, mf, mb, ms, (Sp.abs d).1, (Sp.abs d).2.1, (Sp.abs d).2.2.1, (Sp.abs d).2.2.2.1, (Sp.abs d).2.2.2.2.1, ml, (Sp.abs d).2.2.2.2.2.1, (Sp.abs d).2.2.2.2.2.2, ()) := by
    have hl256 : s.length ≤ 256 := by rw [hs, List.length_take]; omega
    refine Lp_rule (fun v => ∃ j : Nat, v = (B, n, (i : Int), s ++ List.replicate j 0, mf, mb, ms, (Sp.abs d).1, (Sp.abs d).2.1, (Sp.abs d).2.2.1, (Sp.abs d).2.2.2.1, (Sp.abs d).2.2.2.2.1, ml, (Sp.abs d).2.2.2.2.2.1, (Sp.abs d).2.2.2.2.2.2, ()) ∧ s.length + j ≤ 256) (fun v => 256 - v.2.2.2.1.length) ?_ ⟨0, by rw [List.replicate_zero, List.append_nil], by omega⟩
    rintro _ K1 ⟨j, rfl, hj⟩ hK1
    show rectoref29_Log_Write.L1 R K B n (i : Int) (s ++ List.replicate j 0) mf mb ms (Sp.abs d).1 (Sp.abs d).2.1 (Sp.abs d).2.2.1 (Sp.abs d).2.2.2.1 (Sp.abs d).2.2.2.2.1 ml (Sp.abs d).2.2.2.2.2.1 (Sp.abs d).2.2.2.2.2.2 K1
    unfold rectoref29_Log_Write.L1
    have hlen : (s ++ List.replicate j (0 : UInt8)).length = s.length + j := by rw [List.length_append, List.length_replicate]
    rw [cond_dec]
    split
    · rename_i c4
      refine ⟨by rw [hlen]; omega, hK1 _ ⟨j + 1, ?_, by omega⟩ (by simp only [List.length_append, List.length_replicate, List.length_singleton]; omega)⟩
      rw [List.replicate_succ', ← List.append_assoc]
    · rename_i c4
      have hp : s ++ List.replicate j (0 : UInt8) = Sp.pageB B (i : Int) := by
        unfold Sp.pageB
        rw [Int.toNat_natCast, ← hs, show 256 - s.length = j by omega]
      rw [hp]
      have hpl := Sp.page_len B (i : Int)
      have hwo := Sp.write_ok (i := mf + (i : Int)) hdo (by omega) hpl
      have haw := Sp.abs_write (mf + (i : Int)) (Sp.pageB B (i : Int)) hdo
      have ht : ((Sp.abs d).1, (Sp.abs d).2.1, (Sp.abs d).2.2.1, (Sp.abs d).2.2.2.1, (Sp.abs d).2.2.2.2.1, (Sp.abs d).2.2.2.2.2.1, (Sp.abs d).2.2.2.2.2.2) = Sp.abs d := rfl
      rw [ht]
      rw [haw] at he ⊢
      refine ⟨by rw [rg64]; omega, ⟨Sp.rOk_up (Sp.abs_ok hdo) (by omega), by rw [hpl]; omega⟩, ?_⟩
      rw [cond_ndec]
      split
      · rename_i c5
        rw [if_neg (fun q => q c5)] at he
        exact ⟨by rw [rg64]; omega, hK _ ⟨i + 1, k, _, rfl, by omega, Sp.dOk_le hwo (by omega), he⟩ (by simp only; omega)⟩
      · rename_i c5
        rw [if_pos c5] at he
        rw [← he] at hR
        exact hR
  rw [cond_dec]
  split
  · rename_i c4
    refine ⟨by rw [sb_iff]; omega, ?_⟩
    exact pad _ (by unfold sub; rfl)
  · rename_i c4
    exact pad _ (by rw [List.take_of_length_le (by omega)])

/- A log and the document's, step by step: steps. Plain theorems. -/

namespace Sp
abbrev R9 := Bool → Bool → Bool → Int → Bool → List Int → Bool → Bool → Int → Bool → List Int → Int → Int → List UInt8 → Int → Int → Int → Int → List (List (List UInt8)) → List (Int × List (List UInt8)) → List (List UInt8) → List (Int × List UInt8) → List (List UInt8) → Prop
abbrev ap9 (R : R9) (ok : Bool) (d : DSt) (w : RSt) (l : LSt) (m : MSt) : Prop :=
  R ok d.1 d.2.1 d.2.2.1 d.2.2.2.1 d.2.2.2.2.1 w.1 w.2.1 w.2.2.1 w.2.2.2.1 w.2.2.2.2.1 l.1 l.2.1 l.2.2.1 l.2.2.2 m.1 m.2.1 m.2.2.1 d.2.2.2.2.2.1 d.2.2.2.2.2.2 w.2.2.2.2.2.1 w.2.2.2.2.2.2 m.2.2.2
/-- The step, of what is the same. -/
theorem step9 {n : Nat} {s : Step9} {d : DSt} {l : LSt} {m : MSt} (hd : dOk n d) (hn : n ≤ 80000) (hl : lOk l) (hr : Rel l m) (hk : s.2.2.2.length ≤ 1000000) (ha : -9223372036854775808 ≤ s.2.1 ∧ s.2.1 ≤ 9223372036854775807) :
    dOk (n + 1000) (d9 s d l) ∧ w9 s (abs d) m = abs (d9 s d l) ∧ lOk (l9 s d l) ∧ Rel (l9 s d l) (m9 s (abs d) m) ∧ (l9 s d l).2.1 = l.2.1 ∧ (d9 s d l).bs.length = d.bs.length := by
  have hm := rel_mOk hl hr
  have hr2 := hr
  obtain ⟨r1, r2, r3, r4, r5, r6, r7⟩ := hr2
  have hwr := write_rel hl hr hd
  have hwl : dOk (n + 1000) (lWrite l d).1 ∧ (lWrite l d).1.bs.length = d.bs.length := by
    obtain ⟨h1, h2, h3, h4, h5, h6, h7⟩ := hl
    have hbl := blocksOf_nat (n := (l.b.length : Int)) (by omega)
    have key : ∀ (k i : Nat) {n : Nat} {d : DSt}, i + k ≤ 1000 → dOk n d → dOk (n + k) (wrF l k (i : Int) d).1 ∧ (wrF l k (i : Int) d).1.bs.length = d.bs.length := by
      intro k
      induction k with
      | zero => intro i n d _ h; exact ⟨h, rfl⟩
      | succ k ih =>
        intro i n d hk h
        have hw := write_ok (i := l.frm + (i : Int)) h (by omega) (page_len l.b (i : Int))
        have hb := write_bs (l.frm + (i : Int)) (pageB l.b (i : Int)) h
        rw [wrF]
        split
        · exact ⟨dOk_le hw (by omega), hb⟩
        · rw [show ((i : Int) + 1) = ((i + 1 : Nat) : Int) by omega]
          have := ih (i + 1) (by omega) hw
          exact ⟨dOk_le this.1 (by omega), this.2.trans hb⟩
    unfold lWrite
    split
    · obtain ⟨i0, hi0⟩ : ∃ i0 : Nat, l.sealed / 256 = i0 := ⟨(l.sealed / 256).toNat, by omega⟩
      rw [hi0]
      have := key (blocksOf (l.b.length : Int) - (i0 : Int)).toNat i0 (by omega) hd
      exact ⟨dOk_le this.1 (by omega), this.2⟩
    · exact ⟨dOk_le hd (by omega), rfl⟩
  have hcb : ∀ keep, (dCrash keep d).1.bs.length = d.bs.length := by
    intro keep
    unfold dCrash
    split
    · rfl
    · exact (fallF_ok (keep := keep) (k := 0) hd.2.1 hd.2.2.2.1).1
  have hsb : ∀ d' : DSt, (dStart d').1.bs.length = d'.bs.length := fun d' => by unfold dStart; split <;> rfl
  obtain ⟨k, N, S, keep⟩ := s
  simp only at hk ha
  have hcas : ∀ d1, d1 = (dStart (dCrash keep d).1).1 → dOk (n + 1000) d1 ∧ (rStart (rCrash keep (abs d)).1).1 = abs d1 ∧ d1.bs.length = d.bs.length := by
    rintro d1 rfl
    refine ⟨dOk_le (start_ok (crash_ok keep hd)) (by omega), ?_, (hsb _).trans (hcb keep)⟩
    rw [abs_crash keep hd, abs_start]
  have hset : dOk (n + 1000) (dSet (N, false, keep) d).1 ∧ (dSet (N, false, keep) d).1.bs.length = d.bs.length := by
    unfold dSet
    split
    · exact ⟨dOk_le hd (by omega), rfl⟩
    split
    · exact ⟨dOk_le hd (by omega), rfl⟩
    · exact ⟨⟨hd.1, hd.2.1, by show d.ws.length ≤ n + 1000; have := hd.2.2.1; omega, hd.2.2.2.1, ha.1, ha.2, hk⟩, rfl⟩
  have stay : dOk (n + 1000) d := dOk_le hd (by omega)
  obtain ⟨a1, a2⟩ := add_rel S hl hr
  have c7 : opErr l.1 l.2.1 N d = 0 → lOk (l.1, l.2.1, opS l.1 N d, N) ∧ Rel (l.1, l.2.1, opS l.1 N d, N) (m.1, m.2.1, ((roL (m.1, m.2.1, N) (abs d)).length : Int), roL (m.1, m.2.1, N) (abs d)) := fun e => by
    have := open_rel (f := l.1) (b := l.2.1) (s := N) hd (by have := hl.2.1; exact this) (by have := hl.2.2.2.1; exact this) e
    rw [r1, r2] at this ⊢
    exact this
  have hro : roErr (m.1, m.2.1, N) (abs d) = opErr l.1 l.2.1 N d := by rw [roErr_abs, r1, r2]
  unfold d9 w9 l9 m9
  simp only
  by_cases k012 : k = 0 ∨ k = 1 ∨ k = 2
  · rw [if_neg (by omega), if_neg (by omega), if_neg (by omega), if_neg (by omega), if_neg (by omega), if_neg (by omega), if_neg (by omega), if_neg (by omega), if_pos k012, if_pos k012]
    exact ⟨stay, rfl, lAdd_ok hl, a2, by unfold lAdd; split <;> first | rfl | (split <;> rfl), rfl⟩
  rw [if_neg k012, if_neg k012]
  by_cases k3 : k = 3
  · rw [if_pos k3, if_pos k3, if_neg (by omega), if_neg (by omega), if_neg (by omega), if_neg (by omega), if_neg (by omega), if_neg (by omega), hwr]
    exact ⟨hwl.1, rfl, hl, hr, rfl, hwl.2⟩
  rw [if_neg k3, if_neg k3]
  by_cases k4 : k = 4
  · rw [if_pos k4, if_pos k4, if_neg (by omega), if_neg (by omega), if_neg (by omega), if_neg (by omega), if_neg (by omega), if_neg (by omega), abs_flush hd]
    exact ⟨dOk_le (flush_ok hd) (by omega), rfl, hl, hr, rfl, flush_bs hd⟩
  rw [if_neg k4, if_neg k4]
  by_cases k5 : k = 5
  · rw [if_neg (by omega), if_neg (by omega), if_neg (by omega), if_neg (by omega), if_pos k5, if_pos k5]
    have hls : lOk (lSeal l) := by
      obtain ⟨h1, h2, h3, h4, h5, h6, h7⟩ := hl
      unfold lSeal lOk
      simp only [LSt.frm, LSt.blocks, LSt.b, LSt.sealed] at *
      omega
    exact ⟨stay, rfl, hls, seal_rel hr, rfl, rfl⟩
  rw [if_neg k5, if_neg k5]
  by_cases k6 : k = 6
  · rw [if_neg (by omega), if_neg (by omega), if_neg (by omega), if_neg (by omega), if_pos k6, if_pos k6]
    have hls : lOk (lDrop l) := by
      obtain ⟨h1, h2, h3, h4, h5, h6, h7⟩ := hl
      unfold lDrop lOk
      simp only [LSt.frm, LSt.blocks, LSt.b, LSt.sealed, List.length_take] at *
      omega
    exact ⟨stay, rfl, hls, drop_rel hr, rfl, rfl⟩
  rw [if_neg k6, if_neg k6]
  by_cases k7 : k = 7
  · rw [if_neg (by omega), if_neg (by omega), if_neg (by omega), if_neg (by omega), hro]
    by_cases e : opErr l.1 l.2.1 N d = 0
    · rw [if_pos ⟨k7, e⟩, if_pos ⟨k7, e⟩]
      exact ⟨stay, rfl, (c7 e).1, (c7 e).2, rfl, rfl⟩
    · rw [if_neg (show ¬ (k = 7 ∧ opErr l.1 l.2.1 N d = 0) from fun q => e q.2), if_neg (show ¬ (k = 7 ∧ opErr l.1 l.2.1 N d = 0) from fun q => e q.2)]
      exact ⟨stay, rfl, hl, hr, rfl, rfl⟩
  rw [if_neg (show ¬ (k = 7 ∧ opErr l.1 l.2.1 N d = 0) from fun q => k7 q.1), if_neg (show ¬ (k = 7 ∧ roErr (m.1, m.2.1, N) (abs d) = 0) from fun q => k7 q.1)]
  by_cases k8 : k = 8
  · rw [if_pos k8, if_pos k8]
    obtain ⟨q1, q2, q3⟩ := hcas _ rfl
    exact ⟨q1, q2, hl, hr, rfl, q3⟩
  rw [if_neg k8, if_neg k8]
  by_cases k9 : k = 9
  · rw [if_pos k9, if_pos k9, abs_set]
    exact ⟨hset.1, rfl, hl, hr, rfl, hset.2⟩
  · rw [if_neg k9, if_neg k9]
    exact ⟨stay, rfl, hl, hr, rfl, rfl⟩
end Sp

set_option maxRecDepth 20000 in
theorem rectolaw29_Pair_does.ok (R : Sp.R9) (s : Int × Int × Str × List Int) (down armed : Bool) (after : Int) (acut : Bool) (keep : List Int) (rdown rarmed : Bool) (rafter : Int) (racut : Bool) (rkeep : List Int) (from_ blocks : Int) (b : Str) (sealed : Int) (mf mb ms : Int) (bs : List (List Str)) (ws : List (Int × List Str)) (rbs : List Str) (rws : List (Int × Str)) (ml : List Str)
    (h : Sp.does9.pre s (down, armed, after, acut, keep, bs, ws) (rdown, rarmed, rafter, racut, rkeep, rbs, rws) (from_, blocks, b, sealed) (mf, mb, ms, ml))
    (hR : Sp.ap9 R true (Sp.d9 s (down, armed, after, acut, keep, bs, ws) (from_, blocks, b, sealed)) (Sp.w9 s (rdown, rarmed, rafter, racut, rkeep, rbs, rws) (mf, mb, ms, ml)) (Sp.l9 s (down, armed, after, acut, keep, bs, ws) (from_, blocks, b, sealed)) (Sp.m9 s (rdown, rarmed, rafter, racut, rkeep, rbs, rws) (mf, mb, ms, ml))) :
    rectolaw29_Pair_does.vc R s down armed after acut keep rdown rarmed rafter racut rkeep from_ blocks b sealed mf mb ms bs ws rbs rws ml := by
  obtain ⟨hd, hw, hl, hr, hk, ha1, ha2⟩ := h
  have hm := Sp.rel_mOk hl hr
  have hwr := Sp.write_rel hl hr hd
  have hadd := fun S => (Sp.add_rel S hl hr).1
  have hdp := Sp.dOk_up hd (by omega)
  have hrp := Sp.rOk_up (Sp.abs_ok hd) (by omega)
  have hr9 := Sp.abs_ok hd
  have hsp := hr.1
  have hsp2 := hr.2.1
  unfold Sp.absR at hw
  simp only [Sp.DSt.down, Sp.DSt.armed, Sp.DSt.after, Sp.DSt.acut, Sp.DSt.keep, Sp.DSt.bs, Sp.DSt.ws, Prod.mk.injEq] at hw
  obtain ⟨rfl, rfl, rfl, rfl, rfl, rfl, rfl⟩ := hw
  have hA : ((rdown, rarmed, rafter, racut, rkeep, bs.map List.flatten, ws.map fun w => (w.1, w.2.flatten)) : Sp.RSt) = Sp.abs (rdown, rarmed, rafter, racut, rkeep, bs, ws) := rfl
  unfold rectolaw29_Pair_does.vc
  simp only [hA] at hR ⊢
  have hcr := fun kp => Sp.abs_crash kp hd
  have hfl := Sp.abs_flush hd
  have hst := fun d => Sp.abs_start d
  have hse := fun a => Sp.abs_set a (rdown, rarmed, rafter, racut, rkeep, bs, ws)
  have hro : ∀ N, Sp.roErr (mf, mb, N) (Sp.abs (rdown, rarmed, rafter, racut, rkeep, bs, ws)) = Sp.opErr mf mb N (rdown, rarmed, rafter, racut, rkeep, bs, ws) := fun N => Sp.roErr_abs _ _ _ _
  have hcd := fun kp => Sp.crash_ok kp hd
  have hnil : ∀ N, Sp.roNil (mf, mb, N) (Sp.abs (rdown, rarmed, rafter, racut, rkeep, bs, ws)) = Sp.opNil mf mb N (rdown, rarmed, rafter, racut, rkeep, bs, ws) := fun N => by unfold Sp.roNil Sp.opNil; rw [hro]
  have hf1 : from_ = mf := hsp
  have hf2 : blocks = mb := hsp2
  obtain ⟨k, N, S, kp⟩ := s
  simp only at hR hk ha1 ha2 ⊢
  have hadd := hadd S
  have hcr := hcr kp
  have hse := hse (N, false, kp)
  have hro := hro N
  have hnil := hnil N
  have hcd := hcd kp
  have hd0 := hd
  clear hd hr hA hsp hsp2
  have e3 : (Sp.lWrite (from_, blocks, b, sealed) (rdown, rarmed, rafter, racut, rkeep, bs, ws)).2 = (Sp.mWrite (mf, mb, ms, ml) (Sp.abs (rdown, rarmed, rafter, racut, rkeep, bs, ws))).2 := by rw [hwr]
  have e4 : (Sp.dFlush (rdown, rarmed, rafter, racut, rkeep, bs, ws)).2 = (Sp.rFlush (Sp.abs (rdown, rarmed, rafter, racut, rkeep, bs, ws))).2 := by rw [hfl]
  have e8 : (Sp.dCrash kp (rdown, rarmed, rafter, racut, rkeep, bs, ws)).2 = (Sp.rCrash kp (Sp.abs (rdown, rarmed, rafter, racut, rkeep, bs, ws))).2 := by rw [hcr]
  have e8b : (Sp.dStart (Sp.dCrash kp (rdown, rarmed, rafter, racut, rkeep, bs, ws)).1).2 = (Sp.rStart (Sp.rCrash kp (Sp.abs (rdown, rarmed, rafter, racut, rkeep, bs, ws))).1).2 := by rw [hcr, hst]
  have e8c : Sp.rPre (Sp.rCrash kp (Sp.abs (rdown, rarmed, rafter, racut, rkeep, bs, ws))).1 := by rw [hcr]; exact Sp.rOk_up (Sp.abs_ok hcd) (by omega)
  have e9 : (Sp.dSet (N, false, kp) (rdown, rarmed, rafter, racut, rkeep, bs, ws)).2 = (Sp.rSet (N, false, kp) (Sp.abs (rdown, rarmed, rafter, racut, rkeep, bs, ws))).2 := by rw [hse]
  have h9 : Sp.dOk 90000 (rdown, rarmed, rafter, racut, rkeep, bs, ws) := Sp.dOk_le hd0 (by omega)
  rw [cond_dec]
  split
  · rename_i c; subst c; rw [decide_eq_true hadd]; exact ⟨hl, hm, hR⟩
  rename_i n0
  rw [cond_dec]
  split
  · rename_i c; subst c; rw [decide_eq_true hadd]; exact ⟨hl, hm, hR⟩
  rename_i n1
  rw [cond_dec]
  split
  · rename_i c; subst c; rw [decide_eq_true hadd]; exact ⟨hl, hm, hR⟩
  rename_i n2
  rw [cond_dec]
  split
  · rename_i c; subst c; rw [decide_eq_true e3]; exact ⟨⟨hl, h9⟩, ⟨hm, _, h9, rfl⟩, hR⟩
  rename_i n3
  rw [cond_dec]
  split
  · rename_i c; subst c; rw [decide_eq_true e4]; exact ⟨hdp, hrp, hR⟩
  rename_i n4
  rw [cond_dec]
  split
  · rename_i c; subst c; exact hR
  rename_i n5
  rw [cond_dec]
  split
  · rename_i c; subst c; exact ⟨hl, hm, hR⟩
  rename_i n6
  rw [cond_dec]
  split
  · rename_i c
    subst c
    subst hf1
    subst hf2
    refine ⟨h9, ?_⟩
    rw [hnil, hro]
    have hop : Sp.opNil from_ blocks N (rdown, rarmed, rafter, racut, rkeep, bs, ws) = !decide (Sp.opErr from_ blocks N (rdown, rarmed, rafter, racut, rkeep, bs, ws) = 0) := rfl
    rw [hop]
    by_cases e : Sp.opErr from_ blocks N (rdown, rarmed, rafter, racut, rkeep, bs, ws) = 0
    · have q1 : Sp.l9 (7, N, S, kp) (rdown, rarmed, rafter, racut, rkeep, bs, ws) (from_, blocks, b, sealed) = (from_, blocks, Sp.opS from_ N (rdown, rarmed, rafter, racut, rkeep, bs, ws), N) := by
        show (if (7 : Int) = 7 ∧ Sp.opErr from_ blocks N (rdown, rarmed, rafter, racut, rkeep, bs, ws) = 0 then _ else _) = _
        rw [if_pos ⟨rfl, e⟩]
      have q2 : Sp.m9 (7, N, S, kp) (Sp.abs (rdown, rarmed, rafter, racut, rkeep, bs, ws)) (from_, blocks, ms, ml) = (from_, blocks, ((Sp.roL (from_, blocks, N) (Sp.abs (rdown, rarmed, rafter, racut, rkeep, bs, ws))).length : Int), Sp.roL (from_, blocks, N) (Sp.abs (rdown, rarmed, rafter, racut, rkeep, bs, ws))) := by
        show (if (7 : Int) = 7 ∧ Sp.roErr (from_, blocks, N) (Sp.abs (rdown, rarmed, rafter, racut, rkeep, bs, ws)) = 0 then _ else _) = _
        rw [if_pos ⟨rfl, hro.trans e⟩]
      rw [q1, q2] at hR
      rw [decide_eq_true e]
      exact ⟨Sp.abs_ok h9, hR⟩
    · have q1 : Sp.l9 (7, N, S, kp) (rdown, rarmed, rafter, racut, rkeep, bs, ws) (from_, blocks, b, sealed) = (from_, blocks, b, sealed) := by
        show (if (7 : Int) = 7 ∧ Sp.opErr from_ blocks N (rdown, rarmed, rafter, racut, rkeep, bs, ws) = 0 then _ else _) = _
        rw [if_neg (fun q => e q.2)]
      have q2 : Sp.m9 (7, N, S, kp) (Sp.abs (rdown, rarmed, rafter, racut, rkeep, bs, ws)) (from_, blocks, ms, ml) = (from_, blocks, ms, ml) := by
        show (if (7 : Int) = 7 ∧ Sp.roErr (from_, blocks, N) (Sp.abs (rdown, rarmed, rafter, racut, rkeep, bs, ws)) = 0 then _ else _) = _
        rw [if_neg (fun q => e (hro ▸ q.2))]
      rw [q1, q2] at hR
      rw [decide_eq_false e, decide_eq_true rfl]
      exact ⟨Sp.abs_ok h9, hR⟩
  rename_i n7
  rw [cond_dec]
  split
  · rename_i c; subst c; rw [decide_eq_true e8, decide_eq_true e8b]; exact ⟨⟨hdp, hk⟩, ⟨hrp, hk⟩, Sp.dOk_up hcd (by omega), e8c, hR⟩
  rename_i n8
  rw [cond_dec]
  split
  · rename_i c; subst c; rw [decide_eq_true e9]; exact ⟨⟨hdp, by simp only; exact hk⟩, ⟨hrp, by simp only; exact hk⟩, hR⟩
  rename_i n9
  have q1 : Sp.d9 (k, N, S, kp) (rdown, rarmed, rafter, racut, rkeep, bs, ws) (from_, blocks, b, sealed) = (rdown, rarmed, rafter, racut, rkeep, bs, ws) := by unfold Sp.d9; simp only; rw [if_neg n3, if_neg n4, if_neg n8, if_neg n9]
  have q2 : Sp.w9 (k, N, S, kp) (Sp.abs (rdown, rarmed, rafter, racut, rkeep, bs, ws)) (mf, mb, ms, ml) = Sp.abs (rdown, rarmed, rafter, racut, rkeep, bs, ws) := by unfold Sp.w9; simp only; rw [if_neg n3, if_neg n4, if_neg n8, if_neg n9]
  have q3 : Sp.l9 (k, N, S, kp) (rdown, rarmed, rafter, racut, rkeep, bs, ws) (from_, blocks, b, sealed) = (from_, blocks, b, sealed) := by unfold Sp.l9; simp only; rw [if_neg (by omega), if_neg n5, if_neg n6, if_neg (fun q => n7 q.1)]
  have q4 : Sp.m9 (k, N, S, kp) (Sp.abs (rdown, rarmed, rafter, racut, rkeep, bs, ws)) (mf, mb, ms, ml) = (mf, mb, ms, ml) := by unfold Sp.m9; simp only; rw [if_neg (by omega), if_neg n5, if_neg n6, if_neg (fun q => n7 q.1)]
  rw [q1, q2, q3, q4] at hR
  exact hR
theorem rectolaw29_long.ok (R : Bool → Prop) (l : List Sp.Step9) (h : Sp.long29.pre l) (hR : R (Sp.long29 l)) : rectolaw29_long.vc R l := by
  have h : l.length ≤ 9223372036854775807 := h
  refine Lp_rule (fun v => ∃ (p : Nat) (n : Int), v = (n, l, (l.length : Int), (p : Int), ()) ∧ p ≤ l.length ∧ 0 ≤ n ∧ n ≤ 140000 ∧ Sp.longF9 (p : Int) n (l.drop p) = Sp.long29 l) (fun v => l.length - v.2.2.2.1.toNat) ?_ ⟨0, 0, rfl, Nat.zero_le _, by omega, by omega, rfl⟩
  rintro _ K ⟨p, n, rfl, hp, h0, hn, hf⟩ hK
  simp only [rectolaw29_long.L0]
  rw [cond_dec]
  split
  case isFalse =>
    have : p = l.length := by omega
    subst this
    rw [List.drop_length, Sp.longF9] at hf
    rw [← hf] at hR; exact hR
  rename_i c1
  rw [drop_cons (d := ((0 : Int), (0 : Int), ([] : Str), ([] : List Int))) (show p < l.length by omega), Sp.longF9] at hf
  refine ⟨by rw [ix_iff]; omega, ?_⟩
  generalize nth l (p : Int) (0, 0, [], []) = s at *
  rw [cond_dec]
  split
  · rename_i c2; rw [if_pos (.inl c2)] at hf; rw [← hf] at hR; exact hR
  rename_i c2
  rw [cond_dec]
  split
  · rename_i c3; rw [if_pos (.inr (.inl c3))] at hf; rw [← hf] at hR; exact hR
  rename_i c3
  rw [cond_dec]
  split
  · rename_i c4; rw [if_pos (.inr (.inr (.inl c4)))] at hf; rw [← hf] at hR; exact hR
  rename_i c4
  refine ⟨by rw [rg64]; omega, ?_⟩
  rw [cond_dec]
  split
  · rename_i c5; rw [if_pos (.inr (.inr (.inr c5)))] at hf; rw [← hf] at hR; exact hR
  · rename_i c5
    rw [if_neg (fun q => q.elim c2 (fun q => q.elim c3 (fun q => q.elim c4 c5)))] at hf
    exact ⟨by rw [rg64]; omega, hK _ ⟨p + 1, _, rfl, by omega, by omega, by omega, hf⟩ (by simp only; omega)⟩
namespace Sp
theorem longF9_false : ∀ {l : List Step9} {i n : Int}, longF9 i n l = false → (∀ s, s ∈ l → s.2.2.2.length ≤ 40) ∧ (i + l.length ≤ 41 ∨ l = [])
  | [], _, _, _ => ⟨fun s hs => absurd hs List.not_mem_nil, .inr rfl⟩
  | s :: l, i, n, h => by
    rw [longF9] at h
    split at h
    · cases h
    rename_i c
    obtain ⟨h1, h2⟩ := longF9_false h
    refine ⟨fun x hx => ?_, .inl ?_⟩
    · rcases List.mem_cons.1 hx with rfl | hx
      · omega
      · exact h1 x hx
    · rw [List.length_cons]
      rcases h2 with h2 | h2
      · omega
      · rw [h2, List.length_nil]; omega
abbrev q9 (d : DSt) (w : RSt) (l : LSt) (m : MSt) {γ : Type} (r : γ) := (d.1, d.2.1, d.2.2.1, d.2.2.2.1, d.2.2.2.2.1, w.1, w.2.1, w.2.2.1, w.2.2.2.1, w.2.2.2.2.1, l.1, l.2.1, l.2.2.1, l.2.2.2, m.1, m.2.1, m.2.2.1, d.2.2.2.2.2.1, d.2.2.2.2.2.2, w.2.2.2.2.2.1, w.2.2.2.2.2.2, m.2.2.2, r)
end Sp
abbrev Sp.ST9 : Ty := .pair (.int .i64) (.pair (.int .i64) (.pair .str (.sl (.int .i64))))
set_option maxRecDepth 20000 in
theorem rectolaw29_LogSteps.ok (R : Bool → Prop) (t o : Int) (A : List Sp.Step9) (h : Sz (.int .i64) t ∧ Sz (.int .i64) o ∧ Sz (.sl Sp.ST9) A) (hR : R Sp.tt) : rectolaw29_LogSteps.vc R t o A := by
  obtain ⟨ht, ho, hA⟩ := h
  unfold rectolaw29_LogSteps.vc
  refine ⟨hA.sl, ?_⟩
  cases hlong : Sp.long29 A with
  | true => exact hR
  | false =>
  obtain ⟨hkeep, hlen⟩ := Sp.longF9_false hlong
  have hlen : A.length ≤ 41 := by
    rcases hlen with h | h
    · omega
    · rw [h]; simp
  rw [cond_false]
  have e0 : ((false, false, (Sp.dNew 8).2.2.1, false, (Sp.dNew 8).2.2.2.2) : Sp.DSt) = Sp.dNew 8 := rfl
  have e1 : ((false, false, (Sp.rNew 8).2.2.1, false, (Sp.rNew 8).2.2.2.2) : Sp.RSt) = Sp.rNew 8 := rfl
  have e2 : Sp.rNew 8 = Sp.abs (Sp.dNew 8) := (Sp.abs_new 8).symm
  rw [e0, e1, e2]
  have h0 : Sp.dOk 0 (Sp.dNew 8) := Sp.new_ok (by omega)
  have h9 : Sp.dOk 90000 (Sp.dNew 8) := Sp.dOk_le h0 (by omega)
  have hr9 := Sp.abs_ok h9
  have hro : Sp.roErr (t, o, 0) (Sp.abs (Sp.dNew 8)) = Sp.opErr t o 0 (Sp.dNew 8) := Sp.roErr_abs _ _ _ _
  have hn1 : Sp.roNil (t, o, 0) (Sp.abs (Sp.dNew 8)) = Sp.opNil t o 0 (Sp.dNew 8) := by unfold Sp.roNil Sp.opNil; rw [hro]
  have hop : Sp.opNil t o 0 (Sp.dNew 8) = !decide (Sp.opErr t o 0 (Sp.dNew 8) = 0) := rfl
  refine ⟨by unfold Sp.rNew.pre; omega, h9, ?_⟩
  rw [hn1, hro, hop]
  by_cases e : Sp.opErr t o 0 (Sp.dNew 8) = 0
  case neg =>
    rw [decide_eq_false e, decide_eq_true rfl]
    exact ⟨hr9, hR⟩
  rw [decide_eq_true e]
  refine ⟨hr9, ?_⟩
  have hbnd : t ≤ 1000 ∧ o ≤ 1000 := by
    unfold Sp.opErr at e
    split at e
    · omega
    rename_i c
    have c : ¬ (t < 0 ∨ o < 1 ∨ ((Sp.dNew 8).bs.length : Int) < o ∨ ((Sp.dNew 8).bs.length : Int) - o < t ∨ (0 : Int) < 0 ∨ o * 256 < 0) := fun q => c (by unfold Sp.opBad; exact decide_eq_true q)
    have hl : (Sp.dNew 8).bs.length = 8 := by show (List.replicate (8 : Int).toNat Sp.zeroB).length = 8; rw [List.length_replicate]; rfl
    rw [hl] at c
    omega
  obtain ⟨o1, o2⟩ := Sp.open_rel h0 hbnd.1 hbnd.2 e
  generalize hL0 : ((t, o, Sp.opS t 0 (Sp.dNew 8), 0) : Sp.LSt) = L0 at *
  generalize hM0 : ((t, o, ((Sp.roL (t, o, 0) (Sp.abs (Sp.dNew 8))).length : Int), Sp.roL (t, o, 0) (Sp.abs (Sp.dNew 8))) : Sp.MSt) = M0 at *
  refine Lp_rule (fun v => ∃ (p : Nat) (d : Sp.DSt) (l : Sp.LSt) (m : Sp.MSt), v = (o, A, (A.length : Int), (p : Int), Sp.q9 d (Sp.abs d) l m ()) ∧ p ≤ A.length ∧ Sp.dOk (1000 * p) d ∧ Sp.lOk l ∧ Sp.Rel l m ∧ l.2.1 = o) (fun v => A.length - v.2.2.2.1.toNat) ?_
    ⟨0, Sp.dNew 8, L0, M0, ?_, Nat.zero_le _, h0, o1, o2, by rw [← hL0]⟩
  rotate_left
  · rw [← hL0, ← hM0]; rfl
  rintro _ K ⟨p, d, l, m, rfl, hp, hd, hl, hr, hlo⟩ hK
  show rectolaw29_LogSteps.L0 R o A (A.length : Int) (p : Int) d.1 d.2.1 d.2.2.1 d.2.2.2.1 d.2.2.2.2.1 (Sp.abs d).1 (Sp.abs d).2.1 (Sp.abs d).2.2.1 (Sp.abs d).2.2.2.1 (Sp.abs d).2.2.2.2.1 l.1 l.2.1 l.2.2.1 l.2.2.2 m.1 m.2.1 m.2.2.1 d.2.2.2.2.2.1 d.2.2.2.2.2.2 (Sp.abs d).2.2.2.2.2.1 (Sp.abs d).2.2.2.2.2.2 m.2.2.2 K
  unfold rectolaw29_LogSteps.L0
  simp only [Sp.mk_eta]
  rw [cond_dec]
  split
  case isFalse => exact hR
  rename_i c0
  have hp' : p < A.length := by omega
  have hmem := Sp.nth_get (l := A) (d := ((0 : Int), (0 : Int), ([] : Str), ([] : List Int))) (show 0 ≤ (p : Int) by omega) (by omega)
  have hsz := hA.mem _ hmem
  have hkp := hkeep _ hmem
  generalize nth A (p : Int) (0, 0, [], []) = s at *
  have hN := hsz.pair.2.pair.1.int
  obtain ⟨s1, s2, s3, s4, s5, s6⟩ := Sp.step9 hd (by omega) hl hr (by omega) hN
  refine ⟨by rw [ix_iff]; omega, ⟨Sp.dOk_le hd (by omega), rfl, hl, hr, by omega, hN.1, hN.2⟩, ?_⟩
  rw [s2]
  have s5 : (Sp.l9 s d l).2.1 = o := s5.trans hlo
  generalize Sp.d9 s d l = d' at *
  generalize Sp.l9 s d l = l' at *
  generalize Sp.m9 s (Sp.abs d) m = m' at *
  have hm' := Sp.rel_mOk s3 s4
  obtain ⟨m1, m2, m3, m4, m5, m6, m7⟩ := hm'
  obtain ⟨r1, r2, r3, r4, r5, r6, r7⟩ := s4
  have hcc := Sp.catB_count m'.2.2.2
  have es : sub m'.2.2.2 0 m'.2.2.1 = m'.2.2.2.take m'.2.2.1.toNat := by unfold sub; simp
  have hse := Sp.rel_sealed r5 r6
  have hrec : Sp.lRecs l' = m'.2.2.2 := by
    unfold Sp.lRecs
    have : l'.b = Sp.catB m'.2.2.2 := r4
    rw [this]; exact (Sp.each_catR r3).1
  have hbyt : Sp.lBytes l' = ((Sp.catB m'.2.2.2).length : Int) := by
    unfold Sp.lBytes
    have : l'.b = Sp.catB m'.2.2.2 := r4
    rw [this]
  have hsea : Sp.lSealed l' = ((Sp.catB (m'.2.2.2.take m'.2.2.1.toNat)).length : Int) := r7
  have hroo : Sp.lRoom l' = 256 * o - ((Sp.catB m'.2.2.2).length : Int) := by
    unfold Sp.lRoom
    have h1 : l'.b = Sp.catB m'.2.2.2 := r4
    have h2 : l'.blocks = o := s5
    rw [h1, h2]; omega
  have hms : m'.2.1 = o := r2.symm.trans s5
  rw [es]
  have htk : (Sp.catB (m'.2.2.2.take m'.2.2.1.toNat)).length ≤ (Sp.catB m'.2.2.2).length := by
    have := hse.1
    unfold Sp.mSealed at this
    omega
  refine ⟨⟨by omega, by omega⟩, by rw [sb_iff]; omega, ⟨by rw [List.length_take]; omega, by omega⟩, s3, by unfold Sp.eqL.pre; rw [hrec]; omega, ?_⟩
  rw [hrec, Sp.eqL_refl, Bool.not_true, cond_false, hbyt, cond_ndec, if_pos rfl, hsea, cond_ndec, if_pos rfl]
  refine ⟨s3, by rw [rg64]; omega, by rw [rg64]; omega, ?_⟩
  rw [hroo, cond_ndec, if_pos rfl]
  have hb1000 : d'.bs.length ≤ 1000 := s1.1
  have hbl : (Sp.abs d').2.2.2.2.2.1.length = d'.bs.length := Sp.abs_bs_len d'
  refine Lp_rule (fun v => ∃ j : Nat, v = (o, A, (A.length : Int), (p : Int), ((Sp.abs d').2.2.2.2.2.1.length : Int), (j : Int), Sp.q9 d' (Sp.abs d') l' m' ()) ∧ j ≤ d'.bs.length) (fun v => d'.bs.length - v.2.2.2.2.2.1.toNat) ?_ ⟨0, rfl, Nat.zero_le _⟩
  rintro _ K1 ⟨j, rfl, hj⟩ hK1
  show rectolaw29_LogSteps.L1 R K o A (A.length : Int) (p : Int) ((Sp.abs d').2.2.2.2.2.1.length : Int) (j : Int) d'.1 d'.2.1 d'.2.2.1 d'.2.2.2.1 d'.2.2.2.2.1 (Sp.abs d').1 (Sp.abs d').2.1 (Sp.abs d').2.2.1 (Sp.abs d').2.2.2.1 (Sp.abs d').2.2.2.2.1 l'.1 l'.2.1 l'.2.2.1 l'.2.2.2 m'.1 m'.2.1 m'.2.2.1 d'.2.2.2.2.2.1 d'.2.2.2.2.2.2 (Sp.abs d').2.2.2.2.2.1 (Sp.abs d').2.2.2.2.2.2 m'.2.2.2 K1
  unfold rectolaw29_LogSteps.L1
  simp only [Sp.mk_eta]
  rw [cond_dec]
  split
  · rename_i c1
    have hla : Sp.dLasts (j : Int) d' = nth (Sp.abs d').bs (j : Int) [] := Sp.lasts_abs (by omega) (by omega)
    refine ⟨Sp.dOk_up s1 (by omega), by rw [ix_iff]; omega, ?_⟩
    rw [cond_ndec, if_pos hla]
    exact ⟨by rw [rg64]; omega, hK1 _ ⟨j + 1, rfl, by omega⟩ (by simp only; omega)⟩
  · exact ⟨by rw [rg64]; omega, hK _ ⟨p + 1, d', l', m', rfl, by omega, Sp.dOk_le s1 (by omega), s3, ⟨r1, r2, r3, r4, r5, r6, r7⟩, s5⟩ (by simp only; omega)⟩
