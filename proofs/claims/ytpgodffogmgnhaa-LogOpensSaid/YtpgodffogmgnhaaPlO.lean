/- Logs as the document has them: shown of the conditions. Plain theorems. -/
import Derived.Test.YtpgodffogmgnhaaVcO
import Derived.Test.YtpgodffogmgnhaaPlJ
set_option linter.unnecessarySimpa false
set_option linter.unusedVariables false
set_option linter.unusedSectionVars false
set_option linter.unusedSimpArgs false
set_option autoImplicit false
open Go Vi

namespace Sp
theorem whole_cons {b : Str} (hb : b ≠ []) (h : (takeText b).2.2 = 0) : wholeB b = wholeB (takeText b).2.1 ∧ recsB b = (takeText b).1 :: recsB (takeText b).2.1 := by
  have e := eachL_cons hb h
  unfold wholeB recsB
  rw [e]
  refine ⟨?_, rfl⟩
  unfold leftP
  cases hl : eachL (takeText b).2.1 with
  | nil => rfl
  | cons y r =>
    rw [List.getLast?_cons_cons]
    cases hq : (y :: r).getLast? with
    | none => simp at hq
    | some z => rfl
theorem whole_bad {b : Str} (hb : b ≠ []) (h : ¬ (takeText b).2.2 = 0) : wholeB b = false := by
  unfold wholeB leftP
  rw [eachL_bad h]
  cases b with
  | nil => exact absurd rfl hb
  | cons x l => rfl
theorem rLastW_len (i : Int) : ∀ (ws : List RWr) (b : Str), b.length = 256 → (∀ w, w ∈ ws → w.2.length = 256) → (rLastW i b ws).length = 256
  | [], _, h, _ => h
  | w :: l, b, h, hw => by
    rw [rLastW]
    refine rLastW_len i l _ ?_ (fun x hx => hw x (by simp [hx]))
    split
    · exact hw w (by simp)
    · exact h
theorem rread_256 {n : Nat} {w : RSt} (h : rOk n w) (i : Int) (he : (rRead i w).2 = 0) : (rRead i w).1.length = 256 := by
  unfold rRead at he ⊢
  cases hi : rIn i w with
  | false => rw [hi] at he; simp at he
  | true =>
    rw [hi] at he
    rw [if_neg (by simp)] at he ⊢
    split at he
    · simp at he
    · rename_i c
      rw [if_neg c]
      have hi' : 0 ≤ i ∧ i < w.bs.length := of_decide_eq_true hi
      exact rLastW_len i _ _ (h.2.1 _ (nth_get hi'.1 hi'.2)) (fun x hx => (h.2.2.2.1 x hx).2.2)
theorem rr_abs (d : DSt) : ∀ (k : Nat) (i : Int), rrF (abs d) k i = rdF d k i
  | 0, _ => rfl
  | k + 1, i => by rw [rrF, rdF, abs_read, rr_abs d k (i + 1)]
theorem ro_abs (f s : Int) (n : Int) (d : DSt) : roRd (f, n, s) (abs d) = opRd f s d := by unfold roRd opRd; exact rr_abs d _ _
theorem roErr_abs (f n s : Int) (d : DSt) : roErr (f, n, s) (abs d) = opErr f n s d := by
  have e : roBad (f, n, s) (abs d) = opBad f n s d := by
    have hb : ((abs d).bs.length : Int) = d.bs.length := by show ((d.bs.map List.flatten).length : Int) = _; rw [List.length_map]
    unfold roBad opBad
    rw [hb, Int.mul_comm 256 n]
  unfold roErr opErr
  rw [e, ro_abs]
theorem rr_bad (w : RSt) (k : Nat) (i : Int) (hne : (rrF w k i).2 ≠ 0) : rrF w k i = ([], (rrF w k i).2) := by
  cases k with
  | zero => exact absurd rfl hne
  | succ k =>
    rw [rrF] at hne ⊢
    split at hne
    · rename_i c; rw [if_pos c]
    rename_i c
    rw [if_neg c]
    split at hne
    · rename_i c2; rw [if_pos c2]
    · exact absurd rfl hne
end Sp

theorem rectoref29_Of.ok (R : List Str × Bool → Prop) (b : Str) (h : Sp.ofB.pre b) (hR : R (Sp.ofB b)) : rectoref29_Of.vc R b := by
  have h : b.length ≤ 1000000 := h
  unfold rectoref29_Of.vc
  refine Lp_rule (fun v => ∃ (rest : Str) (out : List Str), v = (rest, false, [], true, out, ()) ∧ Sp.wholeB b = Sp.wholeB rest ∧ Sp.recsB b = out ++ Sp.recsB rest ∧ out.length + rest.length ≤ b.length) (fun v => v.1.length) ?_
    ⟨b, [], rfl, rfl, rfl, by simp⟩
  rintro _ K ⟨rest, out, rfl, hw, hr, hl⟩ hK
  show rectoref29_Of.L0 R rest false [] true out K
  unfold rectoref29_Of.L0
  rw [cond_ndec]
  split
  · rename_i c
    subst c
    have e : Sp.ofB b = (out, true) := by
      unfold Sp.ofB
      rw [hw, hr, if_pos (show Sp.wholeB [] = true from rfl)]
      show (out ++ [], true) = _
      rw [List.append_nil]
    rw [e] at hR
    exact hR
  · rename_i c
    refine ⟨by unfold Sp.takenT.pre; omega, ?_⟩
    rw [cond_ndec]
    have e2 : (Sp.takenT rest).2.2.2.2 = (Sp.takeText rest).2.2 := rfl
    split
    · rename_i c2
      rw [e2] at c2
      obtain ⟨w1, w2⟩ := Sp.whole_cons c c2
      have hl2 := Sp.takeText_less c2
      refine ⟨by rw [gr_iff]; omega, hK _ ⟨(Sp.takeText rest).2.1, out ++ [(Sp.takeText rest).1], rfl, hw.trans w1, ?_, ?_⟩ hl2⟩
      · rw [hr, w2, List.append_assoc]; rfl
      · rw [List.length_append, List.length_singleton]; omega
    · rename_i c2
      rw [e2] at c2
      have e : Sp.ofB b = ([], false) := by
        unfold Sp.ofB
        rw [hw, Sp.whole_bad c c2, if_neg (by simp)]
      rw [e] at hR
      exact hR

theorem rectoref29_Open.ok (R0 : Int → Bool → Bool → Int → Bool → List Int → List (List UInt8) → List (Int × List UInt8) → Prop) (R1 : Int → Bool → Bool → Int → Bool → List Int → List (List UInt8) → List (Int × List UInt8) → Int → Int → List (List UInt8) → Int → Prop)
    (q : Int × Int × Int) (rdown rarmed : Bool) (rafter : Int) (racut : Bool) (rkeep : List Int) (rbs : List Str) (rws : List (Int × Str)) (h : Sp.roPre q (rdown, rarmed, rafter, racut, rkeep, rbs, rws))
    (h0 : Sp.roNil q (rdown, rarmed, rafter, racut, rkeep, rbs, rws) = true → R0 (Sp.roErr q (rdown, rarmed, rafter, racut, rkeep, rbs, rws)) rdown rarmed rafter racut rkeep rbs rws)
    (h1 : Sp.roNil q (rdown, rarmed, rafter, racut, rkeep, rbs, rws) = false → R1 0 rdown rarmed rafter racut rkeep rbs rws q.1 q.2.1 (Sp.roL q (rdown, rarmed, rafter, racut, rkeep, rbs, rws)) ((Sp.roL q (rdown, rarmed, rafter, racut, rkeep, rbs, rws)).length : Int)) : rectoref29_Open.vc R0 R1 q rdown rarmed rafter racut rkeep rbs rws := by
  have h : Sp.rOk 90000 (rdown, rarmed, rafter, racut, rkeep, rbs, rws) := h
  have hp := Sp.rOk_up h (by omega)
  have hbsl : (rbs.length : Nat) ≤ 1000 := h.1
  obtain ⟨f, n, s⟩ := q
  unfold rectoref29_Open.vc
  unfold Sp.roNil at h0 h1
  show bif decide (f < 0) then _ else _
  simp only at h0 h1
  have bad (hb : f < 0 ∨ n < 1 ∨ (rbs.length : Int) < n ∨ (rbs.length : Int) - n < f ∨ s < 0 ∨ 256 * n < s) : R0 1 rdown rarmed rafter racut rkeep rbs rws := by
    have e : Sp.roErr (f, n, s) (rdown, rarmed, rafter, racut, rkeep, rbs, rws) = 1 := by
      unfold Sp.roErr Sp.roBad
      rw [if_pos (decide_eq_true hb)]
    rw [e] at h0
    exact h0 rfl
  rw [cond_dec]
  split
  · rename_i c; exact bad (.inl c)
  rename_i c1
  rw [cond_dec]
  split
  · rename_i c; exact bad (.inr (.inl c))
  rename_i c2
  have c2 : ¬ n < 1 := c2
  rw [cond_dec]
  split
  · rename_i c; exact bad (.inr (.inr (.inl c)))
  rename_i c3
  have c3 : ¬ (rbs.length : Int) < n := c3
  refine ⟨by rw [rg64]; show -9223372036854775808 ≤ (rbs.length : Int) - n ∧ (rbs.length : Int) - n ≤ 9223372036854775807; omega, ?_⟩
  rw [cond_dec]
  split
  · rename_i c; exact bad (.inr (.inr (.inr (.inl c))))
  rename_i c4
  have c4 : ¬ (rbs.length : Int) - n < f := c4
  rw [cond_dec]
  split
  · rename_i c; exact bad (.inr (.inr (.inr (.inr (.inl c)))))
  rename_i c5
  have c5 : ¬ s < 0 := c5
  refine ⟨by rw [rg64]; show -9223372036854775808 ≤ 256 * n ∧ 256 * n ≤ 9223372036854775807; omega, ?_⟩
  rw [cond_dec]
  split
  · rename_i c; exact bad (.inr (.inr (.inr (.inr (.inr c)))))
  rename_i c6
  have c6 : ¬ 256 * n < s := c6
  have hbl := Sp.blocksOf_nat (n := s) (by omega)
  obtain ⟨m, hm⟩ : ∃ m : Nat, Sp.blocksOf s = m := ⟨(Sp.blocksOf s).toNat, by omega⟩
  have hgood : Sp.roErr (f, n, s) (rdown, rarmed, rafter, racut, rkeep, rbs, rws) = if (Sp.roRd (f, n, s) (rdown, rarmed, rafter, racut, rkeep, rbs, rws)).2 ≠ 0 then (Sp.roRd (f, n, s) (rdown, rarmed, rafter, racut, rkeep, rbs, rws)).2 else if Sp.wholeB ((Sp.roRd (f, n, s) (rdown, rarmed, rafter, racut, rkeep, rbs, rws)).1.take s.toNat) = false then 290 else 0 := by
    unfold Sp.roErr Sp.roBad
    rw [if_neg]
    intro hb
    have hb := of_decide_eq_true hb
    simp only [Sp.RSt.bs] at hb
    omega
  have hrd : Sp.roRd (f, n, s) (rdown, rarmed, rafter, racut, rkeep, rbs, rws) = Sp.rrF (rdown, rarmed, rafter, racut, rkeep, rbs, rws) m f := by unfold Sp.roRd; rw [hm]; rfl
  unfold Sp.roL at h1
  rw [hgood] at h0 h1
  rw [hrd] at h0 h1
  clear hgood hrd bad
  refine Lp_rule (fun v => ∃ (p : Nat) (all : Str), v = (all, f + (p : Int), Sp.q7 (rdown, rarmed, rafter, racut, rkeep, rbs, rws) (f, n, s, 0, ())) ∧ p ≤ m ∧ all.length = 256 * p ∧
      Sp.rrF (rdown, rarmed, rafter, racut, rkeep, rbs, rws) m f = if (Sp.rrF (rdown, rarmed, rafter, racut, rkeep, rbs, rws) (m - p) (f + p)).2 ≠ 0 then ([], (Sp.rrF (rdown, rarmed, rafter, racut, rkeep, rbs, rws) (m - p) (f + p)).2) else (all ++ (Sp.rrF (rdown, rarmed, rafter, racut, rkeep, rbs, rws) (m - p) (f + p)).1, 0))
    (fun v => s.toNat + 256 - v.1.length) ?_ ⟨0, [], by rw [show f + ((0 : Nat) : Int) = f by omega], Nat.zero_le _, rfl, ?_⟩
  · rintro _ K ⟨p, all, rfl, hpm, hbuf, he⟩ hK
    show rectoref29_Open.L0 R0 R1 all (f + (p : Int)) rdown rarmed rafter racut rkeep rbs rws f n s 0 K
    unfold rectoref29_Open.L0
    generalize hd : ((rdown, rarmed, rafter, racut, rkeep, rbs, rws) : Sp.RSt) = d at *
    rw [cond_dec]
    split
    · rename_i c7
      obtain ⟨k, hk⟩ : ∃ k, m - p = k + 1 := ⟨m - p - 1, by omega⟩
      rw [hk] at he
      refine ⟨hp, ?_⟩
      rw [cond_ndec]
      split
      · rename_i c8
        have h256 := Sp.rread_256 h _ c8
        have e1 : Sp.rrF d (k + 1) (f + (p : Int)) = if (Sp.rrF d k (f + (p : Int) + 1)).2 ≠ 0 then ([], (Sp.rrF d k (f + (p : Int) + 1)).2) else ((Sp.rRead (f + (p : Int)) d).1 ++ (Sp.rrF d k (f + (p : Int) + 1)).1, 0) := by rw [Sp.rrF, if_neg (fun q => q c8)]
        rw [e1] at he
        have hl2 : (all ++ (Sp.rRead (f + (p : Int)) d).1).length = 256 * (p + 1) := by rw [List.length_append, h256, hbuf]; omega
        refine ⟨by rw [h256]; omega, by rw [rg64]; omega, hK _ ⟨p + 1, all ++ (Sp.rRead (f + (p : Int)) d).1, by rw [show f + ((p + 1 : Nat) : Int) = f + (p : Int) + 1 by omega, ← hd], by omega, hl2, ?_⟩ (by show s.toNat + 256 - (all ++ (Sp.rRead (f + (p : Int)) d).1).length < s.toNat + 256 - all.length; rw [hl2]; omega)⟩
        rw [he, show m - (p + 1) = k by omega, show f + ((p + 1 : Nat) : Int) = f + (p : Int) + 1 by omega]
        by_cases c9 : (Sp.rrF d k (f + (p : Int) + 1)).2 = 0
        · simp only [c9, ne_eq, not_true_eq_false, if_false, List.append_assoc]
        · simp only [c9, ne_eq, not_false_eq_true, if_true]
      · rename_i c8
        have e1 : Sp.rrF d (k + 1) (f + (p : Int)) = ([], (Sp.rRead (f + (p : Int)) d).2) := by rw [Sp.rrF, if_pos c8]
        rw [e1] at he
        simp only [c8, ne_eq, not_false_eq_true, if_true] at he
        rw [he] at h0
        simp only [c8, ne_eq, not_false_eq_true, if_true, decide_false, Bool.not_false] at h0
        exact h0 trivial
    · rename_i c7
      have hpe : p = m := by omega
      subst hpe
      rw [Nat.sub_self, Sp.rrF] at he
      simp only [ne_eq, not_true_eq_false, if_false, List.append_nil] at he
      rw [he] at h0 h1
      have es : sub all 0 s = all.take s.toNat := by unfold sub; rfl
      rw [es, sb_iff, hbuf]
      simp only [ne_eq, not_true_eq_false, if_false] at h0 h1
      refine ⟨by omega, by unfold Sp.ofB.pre; rw [List.length_take]; omega, ?_⟩
      unfold Sp.ofB
      cases hw : Sp.wholeB (all.take s.toNat) with
      | false =>
        rw [hw] at h0
        exact h0 rfl
      | true =>
        rw [hw] at h1
        exact h1 rfl
  · rw [Nat.sub_zero, show f + ((0 : Nat) : Int) = f by omega]
    by_cases c9 : (Sp.rrF (rdown, rarmed, rafter, racut, rkeep, rbs, rws) m f).2 = 0
    · rw [if_neg (fun q => q c9)]
      rw [← c9]; rfl
    · rw [if_pos c9]
      exact Sp.rr_bad _ _ _ c9

namespace Sp
/-- Up, no arm, and its blocks. -/
def Up6 (d : DSt) : Prop := d.down = false ∧ d.armed = false ∧ d.bs.length = 6
theorem write_up6 {d : DSt} {i : Int} {s : Str} (h : Up6 d) (hi : 0 ≤ i ∧ i < 6) (hs : s.length = 256) : dWrite i s d = ((d.down, d.armed, d.after, d.acut, d.keep, d.bs, d.ws ++ [(i, cutB s)]), 0) := by
  have hin : inD i d = true := in_iff.2 ⟨hi.1, by rw [h.2.2]; omega⟩
  have hg : dGoes d = (d, 0, false) := by unfold dGoes; rw [if_pos h.2.1]
  unfold dWrite
  rw [if_neg (by rw [hin, hs]; simp), if_neg (by rw [h.1]; simp), hg, if_neg (by simp)]
theorem err_lOk {n : Nat} {f s : Int} {d : DSt} (hd : dOk n d) (h : opErr f 4 s d = 0) : lOk (f, 4, opS f s d, s) := by
  unfold opErr at h
  cases hb : opBad f 4 s d with
  | true => rw [hb, if_pos rfl] at h; exact absurd h (by omega)
  | false =>
    rw [hb, if_neg (by simp)] at h
    have hb := of_decide_eq_false hb
    have hn := hd.1
    split at h
    · rename_i c; exact absurd h c
    rename_i c
    have c : (opRd f s d).2 = 0 := by rcases Int.decEq (opRd f s d).2 0 with q | q; exact absurd q c; exact q
    have hbl := blocksOf_nat (n := s) (by omega)
    have hl := rd_len hd (blocksOf s).toNat f c
    have e : ((opS f s d).length : Int) = s := by
      unfold opS opRd
      rw [List.length_take, hl]
      omega
    exact ⟨by show 0 ≤ f; omega, by show f ≤ 1000; omega, by show (1 : Int) ≤ 4; omega, by show (4 : Int) ≤ 1000; omega, by show 0 ≤ s; omega, by show s ≤ ((opS f s d).length : Int); omega, by show ((opS f s d).length : Int) ≤ 256 * 4; omega⟩
theorem opS_len {n : Nat} {f s : Int} {d : DSt} (h : lOk (f, 4, opS f s d, s)) : (opS f s d).length ≤ 1024 := by
  have := h.2.2.2.2.2.2
  have : ((opS f s d).length : Int) ≤ 256 * 4 := this
  omega
end Sp

set_option maxRecDepth 20000 in
theorem rectolaw29_LogOpens_pad (R : Bool → Prop) (K0 : List UInt8 × Int × Int × Int × Bool × Bool × Int × Bool × List Int × List (List (List UInt8)) × List (Int × List (List UInt8)) × Bool × Bool × Int × Bool × List Int × List (List UInt8) × List (Int × List UInt8) × Unit → Prop)
    (b : Str) (f s : Int) (p : Nat) (x : Str) (d : Sp.DSt) (hp : p < 4) (hx : x.length ≤ 256) (hd : Sp.dOk p d) (hu : Sp.Up6 d)
    (hK0 : ∀ d' : Sp.DSt, Sp.dOk (p + 1) d' → Sp.Up6 d' → K0 (b, f, s, (p : Int) + 1, Sp.q7 d' (Sp.q7 (Sp.abs d') ()))) :
    Lp (fun v K => rectolaw29_LogOpens.L1 R K0 v.1 v.2.1 v.2.2.1 v.2.2.2.1 v.2.2.2.2.1 v.2.2.2.2.2.1 v.2.2.2.2.2.2.1 v.2.2.2.2.2.2.2.1 v.2.2.2.2.2.2.2.2.1 v.2.2.2.2.2.2.2.2.2.1 v.2.2.2.2.2.2.2.2.2.2.1 v.2.2.2.2.2.2.2.2.2.2.2.1 v.2.2.2.2.2.2.2.2.2.2.2.2.1 v.2.2.2.2.2.2.2.2.2.2.2.2.2.1 v.2.2.2.2.2.2.2.2.2.2.2.2.2.2.1 v.2.2.2.2.2.2.2.2.2.2.2.2.2.2.2.1 v.2.2.2.2.2.2.2.2.2.2.2.2.2.2.2.2.1 v.2.2.2.2.2.2.2.2.2.2.2.2.2.2.2.2.2.1 v.2.2.2.2.2.2.2.2.2.2.2.2.2.2.2.2.2.2.1 K) (b, f, s, (p : Int), x, Sp.q7 d (Sp.q7 (Sp.abs d) ())) := by
  refine Lp_rule (fun v => ∃ y : Str, v = (b, f, s, (p : Int), y, Sp.q7 d (Sp.q7 (Sp.abs d) ())) ∧ y.length ≤ 256) (fun v => 256 - v.2.2.2.2.1.length) ?_ ⟨x, rfl, hx⟩
  rintro _ K ⟨y, rfl, hy⟩ hK
  show rectolaw29_LogOpens.L1 R K0 b f s (p : Int) y d.1 d.2.1 d.2.2.1 d.2.2.2.1 d.2.2.2.2.1 d.2.2.2.2.2.1 d.2.2.2.2.2.2 (Sp.abs d).1 (Sp.abs d).2.1 (Sp.abs d).2.2.1 (Sp.abs d).2.2.2.1 (Sp.abs d).2.2.2.2.1 (Sp.abs d).2.2.2.2.2.1 (Sp.abs d).2.2.2.2.2.2 K
  unfold rectolaw29_LogOpens.L1
  simp only [Sp.mk_eta]
  rw [cond_dec]
  rcases Int.lt_or_le (y.length : Int) 256 with c | c
  · rw [if_pos c]
    have hl : (y ++ [0]).length = y.length + 1 := by rw [List.length_append, List.length_singleton]
    exact ⟨by omega, hK _ ⟨y ++ [0], rfl, by omega⟩ (by show 256 - (y ++ [0]).length < 256 - y.length; omega)⟩
  · rw [if_neg (Int.not_lt.2 c)]
    have h256 : y.length = 256 := by omega
    have e1 := Sp.write_up6 (i := 2 + (p : Int)) hu (by omega) h256
    have e2 := Sp.abs_write (2 + (p : Int)) y hd
    have e3 := Sp.write_ok (i := 2 + (p : Int)) hd (by omega) h256
    have e0 : (Sp.dWrite (2 + (p : Int)) y d).2 = 0 := by rw [e1]
    have hup : Sp.Up6 (Sp.dWrite (2 + (p : Int)) y d).1 := by rw [e1]; exact hu
    rw [e2]
    clear e1 e2
    refine ⟨by rw [rg64]; omega, ⟨Sp.dOk_up hd (by omega), by omega⟩, ?_⟩
    rw [e0]
    simp only [decide_true, Bool.not_true, cond_false]
    exact ⟨by rw [rg64]; omega, ⟨Sp.rOk_up (Sp.abs_ok hd) (by omega), by omega⟩, by rw [rg64]; omega, hK0 _ e3 hup⟩

set_option maxRecDepth 20000 in
theorem rectolaw29_LogOpens.ok (R : Bool → Prop) (b : Str) (f s : Int) (h : Sz .str b ∧ Sz (.int .i64) f ∧ Sz (.int .i64) s) (hR : R Sp.tt) : rectolaw29_LogOpens.vc R b f s := by
  unfold rectolaw29_LogOpens.vc
  rw [cond_dec]
  split
  · exact hR
  rename_i c1
  have h0 : Sp.dOk 0 (Sp.dNew 6) := Sp.new_ok (by omega)
  have hu0 : Sp.Up6 (Sp.dNew 6) := ⟨rfl, rfl, by show (List.replicate _ Sp.zeroB).length = 6; rw [List.length_replicate]; rfl⟩
  refine ⟨by unfold Sp.rNew.pre; omega, ?_⟩
  rw [← Sp.abs_new]
  show Lp _ (b, f, s, 0, Sp.q7 (Sp.dNew 6) (Sp.q7 (Sp.abs (Sp.dNew 6)) ()))
  generalize Sp.dNew 6 = d0 at *
  refine Lp_rule (fun v => ∃ (p : Nat) (d : Sp.DSt), v = (b, f, s, (p : Int), Sp.q7 d (Sp.q7 (Sp.abs d) ())) ∧ p ≤ 4 ∧ Sp.dOk p d ∧ Sp.Up6 d) (fun v => 5 - v.2.2.2.1.toNat) ?_ ⟨0, d0, rfl, by omega, h0, hu0⟩
  rintro _ K ⟨p, d, rfl, hp, hd, hu⟩ hK
  show rectolaw29_LogOpens.L0 R b f s (p : Int) d.1 d.2.1 d.2.2.1 d.2.2.2.1 d.2.2.2.2.1 d.2.2.2.2.2.1 d.2.2.2.2.2.2 (Sp.abs d).1 (Sp.abs d).2.1 (Sp.abs d).2.2.1 (Sp.abs d).2.2.2.1 (Sp.abs d).2.2.2.2.1 (Sp.abs d).2.2.2.2.2.1 (Sp.abs d).2.2.2.2.2.2 K
  unfold rectolaw29_LogOpens.L0
  simp only [Sp.mk_eta]
  refine ⟨by rw [rg64]; omega, ?_⟩
  rw [cond_dec]
  split
  · rename_i c2
    have c2 : 256 * (p : Int) < (b.length : Int) := c2
    have hK0 : ∀ d' : Sp.DSt, Sp.dOk (p + 1) d' → Sp.Up6 d' → K (b, f, s, (p : Int) + 1, Sp.q7 d' (Sp.q7 (Sp.abs d') ())) := fun d' hd' hu' => hK _ ⟨p + 1, d', rfl, by omega, hd', hu'⟩ (by simp; omega)
    refine ⟨by rw [rg64]; omega, ⟨by omega, by omega, by omega⟩, ?_⟩
    generalize sub b (256 * (p : Int)) (b.length : Int) = x
    rw [cond_dec]
    split
    · rename_i c3
      have c3 : 256 < (x.length : Int) := c3
      refine ⟨⟨by omega, by omega, by omega⟩, ?_⟩
      exact rectolaw29_LogOpens_pad R K b f s p (sub x 0 256) d (by omega) (by unfold sub; rw [List.length_drop, List.length_take]; omega) hd hu hK0
    · rename_i c3
      have c3 : ¬ 256 < (x.length : Int) := c3
      exact rectolaw29_LogOpens_pad R K b f s p x d (by omega) (by omega) hd hu hK0
  · refine ⟨Sp.dOk_le hd (by omega), ?_⟩
    have hro : Sp.roPre (f, 4, s) (Sp.abs d) := by
      have := Sp.abs_ok hd
      exact ⟨this.1, this.2.1, by have := this.2.2.1; omega, this.2.2.2⟩
    have e1 : Sp.roErr (f, 4, s) (Sp.abs d) = Sp.opErr f 4 s d := Sp.roErr_abs f 4 s d
    have e2 : Sp.roNil (f, 4, s) (Sp.abs d) = Sp.opNil f 4 s d := by unfold Sp.roNil Sp.opNil; rw [e1]
    have e3 : Sp.roL (f, 4, s) (Sp.abs d) = Sp.lRecs (f, 4, Sp.opS f s d, s) := by unfold Sp.roL; rw [Sp.ro_abs]; rfl
    rw [e1, e2, e3]
    cases hn : Sp.opNil f 4 s d with
    | true =>
      simp only [cond_true, decide_true, Bool.not_true, cond_false]
      exact ⟨hro, hR⟩
    | false =>
      have he : Sp.opErr f 4 s d = 0 := by
        unfold Sp.opNil at hn
        rw [Bool.not_eq_false'] at hn
        exact of_decide_eq_true hn
      have hl := Sp.err_lOk hd he
      have hlen := Sp.opS_len (n := 0) hl
      simp only [cond_false]
      refine ⟨hro, hl, ?_, ?_⟩
      · have := Sp.recsB_len (Sp.opS f s d)
        show (Sp.recsB (Sp.opS f s d)).length ≤ _
        omega
      · rw [show ∀ l : List Str, Sp.eqL l l = true from fun l => decide_eq_true rfl, show Sp.lSealed (f, 4, Sp.opS f s d, s) = s from rfl]
        simp only [decide_true, cond_true]
        exact hR
