/- What may stand in a page: what is told, shown of the conditions. Plain theorems. -/
import Derived.Test.YtmciagbogdlcoaaDoorVcP
import Derived.Test.YtmciagbogdlcoaaDoorPlU
set_option linter.unnecessarySimpa false
set_option linter.unusedVariables false
set_option linter.unusedSectionVars false
set_option linter.unusedSimpArgs false
set_option autoImplicit false
open Go Vi

namespace Sp
theorem nth_mem {α : Type} {l : List α} {p : Nat} {d : α} (h : p < l.length) : nth l (p : Int) d ∈ l := by
  rw [nth_lt h]; exact List.getElem_mem h
end Sp

theorem rectoplain_Texts.ok (R : Bool → Prop) (a b : List Str) (h : Sp.eqL.pre a b) (hR : R (Sp.eqL a b)) : rectoplain_Texts.vc R a b := by
  have h : a.length ≤ 9223372036854775807 := h
  refine Lp_rule (fun v => ∃ p : Nat, v = (a, b, (a.length : Int), (p : Int), ()) ∧ p ≤ a.length ∧ p ≤ b.length ∧ a.take p = b.take p) (fun v => a.length - v.2.2.2.1.toNat) ?_ ⟨0, rfl, Nat.zero_le _, Nat.zero_le _, rfl⟩
  rintro _ K ⟨p, rfl, hp, hq, he⟩ hK
  simp only [rectoplain_Texts.L0, cond_dec, cond_ndec, rg64, ix_iff]
  have no : ∀ (_ : a ≠ b), R false := fun hne => by
    unfold Sp.eqL at hR
    rw [decide_eq_false hne] at hR
    exact hR
  split
  · rename_i c1
    split
    · rename_i c2
      exact no (fun e => by rw [e] at c1; omega)
    · rename_i c2
      refine ⟨by omega, by omega, ?_⟩
      split
      · rename_i c3
        exact ⟨by omega, hK _ ⟨p + 1, rfl, by omega, by omega, by rw [take_succ (d := []) (by omega), take_succ (d := []) (by omega), he, c3]⟩ (by simp; omega)⟩
      · rename_i c3
        exact no (fun e => c3 (by rw [e]))
  · rename_i c1
    have : p = a.length := by omega
    subst this
    rw [List.take_length] at he
    unfold Sp.eqL at hR
    by_cases c : (a.length : Int) = b.length
    · rw [decide_eq_true c]
      have : b.take a.length = b := List.take_of_length_le (by omega)
      rw [this] at he
      rw [decide_eq_true he] at hR
      exact hR
    · rw [decide_eq_false c]
      exact no (fun e => c (by rw [e]))
/- What may stand in a page, on: the document's answers. Plain theorems. -/

namespace Sp
theorem szN_eq (n : Vi.Node) : szN n = szL n.kids + 1 := by cases n; rw [szN]; rfl
theorem szN_eq' (n : Vi.Node) : szN n = 1 + szL n.kids := by rw [szN_eq]; omega
theorem szL_mem : ∀ {l : List Vi.Node} {n : Vi.Node}, n ∈ l → szN n ≤ szL l
  | x :: l, n, h => by
    rw [szL]
    rcases List.mem_cons.1 h with rfl | h
    · omega
    · have := szL_mem h; omega
theorem szL_lt {l : List Vi.Node} {n : Vi.Node} (h : n ∈ l) : szN n < szL l := by
  cases l with
  | nil => exact absurd h List.not_mem_nil
  | cons x l =>
    rw [szL]
    rcases List.mem_cons.1 h with rfl | h
    · omega
    · have := szL_mem h; omega
end Sp
namespace Sp
abbrev rm2 (n : Vi.Node) (r : Int) : Int := r - 1 - (n.text.length : Int) / 16 - n.attrs.length
abbrev full (n : Vi.Node) (r : Int) : Prop := r - 1 < 0 ∨ 40 < (n.attrs.length : Int) ∨ 5000 < (n.text.length : Int) ∨ 100 < (n.name.length : Int)
abbrev anyLA (a : List (Str × Str)) : Bool := a.any (fun x => decide (100 < (x.1.length : Int) ∨ 2000 < (x.2.length : Int)))
theorem lgN_eq (n : Vi.Node) (r d : Int) : lgN n r d = if full n r then (true, r - 1) else if anyLA n.attrs = true then (true, rm2 n r) else lg n.kids (d + 1) (rm2 n r) := by
  cases n with
  | mk k s nm a t c =>
    rw [lgN]
    show (if _ then _ else _) = if (r - 1 < 0 ∨ 40 < (a.length : Int) ∨ 5000 < (t.length : Int) ∨ 100 < (nm.length : Int)) then (true, r - 1) else if anyLA a = true then (true, r - 1 - (t.length : Int) / 16 - a.length) else lg c (d + 1) (r - 1 - (t.length : Int) / 16 - a.length)
    generalize r - 1 - (t.length : Int) / 16 - a.length = r2
    unfold lg
    by_cases c1 : r - 1 < 0 ∨ 40 < (a.length : Int) ∨ 5000 < (t.length : Int) ∨ 100 < (nm.length : Int)
    · rw [if_pos c1, if_pos c1]
    rw [if_neg c1, if_neg c1]
    by_cases c2 : anyLA a = true
    · rw [if_pos c2, if_pos (.inl c2)]
    rw [if_neg c2]
    by_cases c3 : 60 < d + 1 ∨ 500 < (c.length : Int)
    · rw [if_pos c3, if_pos (.inr c3)]
    rw [if_neg c3, if_neg (fun h => h.elim c2 c3)]
    generalize lgL c r2 (d + 1) = z
    obtain ⟨z1, z2⟩ := z
    simp only
    cases z1 with
    | true => simp
    | false =>
      by_cases c4 : z2 < 0
      · simp [c4]
      · simp [c4]
mutual
theorem lgN_le : ∀ (n : Vi.Node) (r d : Int), (lgN n r d).2 ≤ r
  | .mk k s nm a t c, r, d => by
    have h := lgL_le c (r - 1 - (t.length : Int) / 16 - a.length) (d + 1)
    rw [lgN]
    split
    · simp only; omega
    split
    · simp only; omega
    split
    · simp only; omega
    · simp only; omega
theorem lgL_le : ∀ (l : List Vi.Node) (r d : Int), (lgL l r d).2 ≤ r
  | [], r, d => by rw [lgL]; exact Int.le_refl _
  | n :: l, r, d => by
    have h1 := lgN_le n r d
    have h2 := lgL_le l (lgN n r d).2 d
    rw [lgL]
    split <;> omega
end
theorem lg_le (l : List Vi.Node) (d r : Int) : (lg l d r).2 ≤ r := by
  have := lgL_le l r d
  unfold lg
  split
  · exact Int.le_refl _
  split
  · exact this
  · exact this
theorem lg_nonneg {l : List Vi.Node} {d r : Int} (h : (lg l d r).1 = false) : 0 ≤ (lg l d r).2 := by
  unfold lg at *
  split at h
  · cases h
  rename_i c
  rw [if_neg c]
  split at h
  · rename_i c2; rw [c2] at h; cases h
  · rename_i c2
    rw [if_neg c2]
    simp only [decide_eq_false_iff_not] at h
    simp only; omega
end Sp

theorem rectoplain_Large.ok (nn : Nat) (R : Bool → Int → Prop) (l : List Vi.Node) (depth room : Int) (h : Sp.lg.pre l depth room ∧ Sp.mLg l depth room < nn + 1) (hR : R (Sp.lg l depth room).1 (Sp.lg l depth room).2) : rectoplain_Large.vc R nn l depth room := by
  obtain ⟨⟨h1, h2, h3, h4⟩, h5⟩ := h
  unfold Sp.mLg at h5
  unfold Sp.lg at hR
  unfold rectoplain_Large.vc
  rw [cond_dec, cond_dec]
  split
  · rename_i c; rw [if_pos (.inl c)] at hR; exact hR
  rename_i c1
  split
  · rename_i c; rw [if_pos (.inr c)] at hR; exact hR
  rename_i c2
  rw [if_neg (fun h => h.elim c1 c2)] at hR
  have hT (z : Int) (hz : Sp.lgL l room depth = (true, z)) : R true z := by rw [hz, if_pos rfl] at hR; exact hR
  refine Lp_rule (fun v => ∃ (p : Nat) (r : Int), v = (depth, l, (l.length : Int), (p : Int), r, ()) ∧ p ≤ l.length ∧ -1000 ≤ r ∧ r ≤ room ∧ Sp.lgL (l.drop p) r depth = Sp.lgL l room depth) (fun v => l.length - v.2.2.2.1.toNat) ?_ ⟨0, room, rfl, Nat.zero_le _, h3, Int.le_refl _, rfl⟩
  rintro _ K ⟨p, r, rfl, hp, hr1, hr2, he⟩ hK
  simp only [rectoplain_Large.L0, cond_dec]
  split
  · rename_i c
    have hp' : p < l.length := by omega
    have hm : nth l (p : Int) (Vi.Node.mk 0 0 [] [] [] []) ∈ l := Sp.nth_mem hp'
    rw [drop_cons (d := Vi.Node.mk 0 0 [] [] [] []) hp', Sp.lgL] at he
    have hs := Sp.szL_mem hm
    rw [ix_iff]
    refine ⟨by omega, by rw [rg64]; omega, ?_⟩
    generalize nth l (p : Int) (Vi.Node.mk 0 0 [] [] [] []) = n at *
    rw [Sp.szN_eq'] at hs
    have hE := Sp.lgN_eq n r depth
    have hbad (z : Int) (hz : Sp.lgN n r depth = (true, z)) : R true z := hT z (by rw [← he, hz, if_pos rfl])
    split
    · rename_i c3; exact hbad _ (by rw [hE, if_pos (.inl c3)])
    rename_i c3
    split
    · rename_i c4; exact hbad _ (by rw [hE, if_pos (.inr (.inl c4))])
    rename_i c4
    split
    · rename_i c5; exact hbad _ (by rw [hE, if_pos (.inr (.inr (.inl c5)))])
    rename_i c5
    split
    · rename_i c6; exact hbad _ (by rw [hE, if_pos (.inr (.inr (.inr c6)))])
    rename_i c6
    rw [if_neg (fun h => h.elim c3 fun h => h.elim c4 fun h => h.elim c5 c6)] at hE
    simp only [dv_iff, rg64]
    refine ⟨by omega, by omega, by omega, ?_⟩
    have hr2b : -1000 ≤ Sp.rm2 n r ∧ Sp.rm2 n r ≤ room := by unfold Sp.rm2; omega
    show Lp _ (depth, l, (l.length : Int), (p : Int), n.attrs, (n.attrs.length : Int), 0, Sp.rm2 n r, n.kind, n.space, n.name, n.attrs, n.text, n.kids, ())
    generalize Sp.rm2 n r = r2 at *
    refine Lp_rule (fun v => ∃ q : Nat, v = (depth, l, (l.length : Int), (p : Int), n.attrs, (n.attrs.length : Int), (q : Int), r2, n.kind, n.space, n.name, n.attrs, n.text, n.kids, ()) ∧ q ≤ n.attrs.length ∧ Sp.anyLA (n.attrs.drop q) = Sp.anyLA n.attrs)
      (fun v => n.attrs.length - v.2.2.2.2.2.2.1.toNat) ?_ ⟨0, rfl, Nat.zero_le _, rfl⟩
    rintro _ K1 ⟨q, rfl, hq, ha⟩ hK1
    simp only [rectoplain_Large.L1, cond_dec]
    split
    · rename_i c7
      have hq' : q < n.attrs.length := by omega
      rw [drop_cons (d := ([], [])) hq'] at ha
      rw [ix_iff]
      refine ⟨by omega, ?_⟩
      unfold Sp.anyLA at ha
      rw [List.any_cons] at ha
      generalize nth n.attrs (q : Int) ([], []) = x at *
      split
      · rename_i c8
        refine hbad _ ?_
        rw [hE, if_pos]
        unfold Sp.anyLA
        rw [← ha, decide_eq_true (.inl c8)]; rfl
      rename_i c8
      split
      · rename_i c9
        refine hbad _ ?_
        rw [hE, if_pos]
        unfold Sp.anyLA
        rw [← ha, decide_eq_true (.inr c9)]; rfl
      rename_i c9
      rw [decide_eq_false (fun h => h.elim c8 c9), Bool.false_or] at ha
      exact ⟨by rw [rg64]; omega, hK1 _ ⟨q + 1, rfl, by omega, ha⟩ (by simp; omega)⟩
    · rename_i c7
      rw [drop_end (by omega)] at ha
      have ha' : Sp.anyLA n.attrs = false := ha.symm
      rw [ha', if_neg (by decide)] at hE
      have hle := Sp.lg_le n.kids (depth + 1) r2
      have hnn := @Sp.lg_nonneg n.kids (depth + 1) r2
      refine ⟨by rw [rg64]; omega, ⟨⟨by omega, by omega, by omega, by omega⟩, by unfold Sp.mLg; omega⟩, ?_⟩
      rw [← hE] at hle hnn ⊢
      generalize Sp.lgN n r depth = z at *
      obtain ⟨z1, z2⟩ := z
      simp only at hle hnn he ⊢
      cases z1 with
      | true => exact hbad _ rfl
      | false =>
        have := hnn rfl
        refine ⟨by rw [rg64]; omega, hK _ ⟨p + 1, z2, rfl, by omega, by omega, by omega, ?_⟩ (by simp; omega)⟩
        rw [← he, if_neg (by decide)]
  · rename_i c
    rw [drop_end (by omega), Sp.lgL] at he
    rw [← he, if_neg (by simp)] at hR
    exact hR


namespace Sp
end Sp

namespace Sp
end Sp
namespace Sp
end Sp
/- What may stand in a page: the laws. Plain theorems. -/

namespace Sp
end Sp
namespace Sp
end Sp
namespace Sp
end Sp
namespace Sp
theorem bad_iff (a : Str × Str) : badA a = true ↔ ((a.1 = [104, 114, 101, 102] ∨ a.1 = [115, 114, 99]) ∧ (schemeP a.2).2 = true ∧ ¬ (schemeP a.2).1 = [104, 116, 116, 112] ∧ ¬ (schemeP a.2).1 = [104, 116, 116, 112, 115] ∧ ¬ (schemeP a.2).1 = [109, 97, 105, 108, 116, 111]) ∨ (1 < (a.1.length : Int) ∧ a.1.take 2 = [111, 110]) := by
  unfold badA
  simp only [Bool.or_eq_true, Bool.and_eq_true, Bool.not_eq_true', decide_eq_true_eq, decide_eq_false_iff_not]
  constructor
  · rintro (⟨⟨⟨⟨h1, h2⟩, h3⟩, h4⟩, h5⟩ | h)
    · exact .inl ⟨h1, h2, h3, h4, h5⟩
    · exact .inr h
  · rintro (⟨h1, h2, h3, h4, h5⟩ | h)
    · exact .inl ⟨⟨⟨⟨h1, h2⟩, h3⟩, h4⟩, h5⟩
    · exact .inr h
end Sp
namespace Sp
mutual
theorem lgN_ok : ∀ (n : Vi.Node) (r d : Int), (lgN n r d).1 = false → okN n
  | .mk k s nm a t c, r, d, h => by
    rw [lgN] at h
    split at h
    · cases h
    split at h
    · cases h
    split at h
    · cases h
    rename_i c1 c2 c3
    have hc : (lgL c (r - 1 - (t.length : Int) / 16 - a.length) (d + 1)).1 = false := by
      cases e : (lgL c (r - 1 - (t.length : Int) / 16 - a.length) (d + 1)).1 with
      | false => rfl
      | true => exact absurd (.inl e) c3
    rw [okN]
    refine ⟨⟨by omega, fun x hx => ?_⟩, by omega, lgL_ok c _ _ hc⟩
    have h1 : a.any (fun x => decide (100 < (x.1.length : Int) ∨ 2000 < (x.2.length : Int))) = false := by
      cases e : a.any (fun x => decide (100 < (x.1.length : Int) ∨ 2000 < (x.2.length : Int))) with
      | false => rfl
      | true => exact absurd (.inl e) c2
    have := List.any_eq_false.1 h1 x hx
    simp only [decide_eq_true_eq] at this
    omega
theorem lgL_ok : ∀ (l : List Vi.Node) (r d : Int), (lgL l r d).1 = false → okL l
  | [], _, _, _ => by rw [okL]; trivial
  | n :: l, r, d, h => by
    rw [lgL] at h
    split at h
    · rename_i c; rw [c] at h; cases h
    · rename_i c
      rw [okL]
      exact ⟨lgN_ok n r d (by cases e : (lgN n r d).1 with | false => rfl | true => exact absurd e c), lgL_ok l _ _ h⟩
end
end Sp
namespace Sp
theorem plain_rules : ∀ r, r ∈ plainP.1 → r.2.1 = 1 → (r.1 ≠ [115, 99, 114, 105, 112, 116] ∧ r.1 ≠ [115, 116, 121, 108, 101]) ∧ (∀ x, x ∈ r.2.2.1 → x ≠ [104, 114, 101, 102] ∧ x ≠ [115, 114, 99] ∧ x.take 2 ≠ [111, 110]) ∧ (∀ x, x ∈ r.2.2.2 → x.take 2 ≠ [111, 110]) := by decide +kernel
theorem rule_mem {p : Pol} {n : Str} (h : (ruleP p n).2.1 ≠ p.2.2.1) : ruleP p n ∈ p.1 ∧ (ruleP p n).1 = n := by
  unfold ruleP at *
  split
  · rename_i r e
    refine ⟨List.mem_of_find?_eq_some e, ?_⟩
    have := List.find?_some e
    exact of_decide_eq_true this
  · rename_i e
    rw [e] at h
    exact absurd rfl h
theorem stays_good {n : Str} {a : Str × Str} (h : staysP plainP n a = true) : badA a = false := by
  unfold staysP at h
  rw [Bool.and_eq_true] at h
  have h1 := of_decide_eq_true h.1
  have hm := rule_mem (p := plainP) (n := n) (by rw [h1]; decide)
  obtain ⟨_, k2, k3⟩ := plain_rules _ hm.1 h1
  generalize ruleP plainP n = r at *
  cases hb : badA a with
  | false => rfl
  | true =>
    rcases (bad_iff a).1 hb with ⟨b1, b2, b3, b4, b5⟩ | ⟨_, b2⟩
    · have h2 := h.2
      rw [Bool.or_eq_true] at h2
      rcases h2 with h2 | h2
      · have := k2 _ (of_decide_eq_true h2)
        exact absurd b1 (fun e => e.elim this.1 this.2.1)
      · rw [Bool.and_eq_true] at h2
        have h3 := h2.2
        unfold safeP at h3
        rw [b2, Bool.not_true, Bool.false_or] at h3
        have h4 := of_decide_eq_true h3
        have h5 : (schemeP a.2).1 ∈ [[104, 116, 116, 112], [104, 116, 116, 112, 115], [109, 97, 105, 108, 116, 111]] := h4
        simp only [List.mem_cons, List.not_mem_nil, or_false] at h5
        rcases h5 with h5 | h5 | h5
        · exact absurd h5 b3
        · exact absurd h5 b4
        · exact absurd h5 b5
    · have h2 := h.2
      rw [Bool.or_eq_true] at h2
      rcases h2 with h2 | h2
      · exact absurd b2 (k2 _ (of_decide_eq_true h2)).2.2
      · rw [Bool.and_eq_true] at h2
        exact absurd b2 (k3 _ (of_decide_eq_true h2.1))
mutual
theorem harm_N : ∀ (n : Vi.Node), (fiN plainP n).2 = false → lfN n = false → hmN n = true
  | .mk k s nm a t c, h, hl => by
    rw [fiN] at h
    split at h
    · cases h
    rename_i hal
    have hal : allowsN plainP (.mk k s nm a t c) = true := by cases e : allowsN plainP (.mk k s nm a t c) with | true => rfl | false => exact absurd e hal
    rw [lfN, Bool.or_eq_false_iff] at hl
    have ih := harm_L c h hl.2
    rw [hmN, ih, Bool.and_true]
    unfold allowsN at hal
    split at hal
    · rename_i c1
      have c1 : k = 2 := c1
      have h2 := hl.1
      rw [decide_eq_false (by omega), Bool.not_false, Bool.true_and, Bool.or_eq_false_iff] at h2
      have : a = [] := List.eq_nil_of_length_eq_zero (by have := of_decide_eq_false h2.1; omega)
      rw [this, decide_eq_false (show ¬ k = 1 by omega)]; rfl
    split at hal
    · rename_i c1 c2
      have c2 : k = 1 := c2
      rw [Bool.and_eq_true] at hal
      obtain ⟨ha1, ha2⟩ := hal
      have ha1 : actP plainP s nm = 1 := of_decide_eq_true ha1
      have ha2 : anyAt a plainP (.mk k s nm a t c) = false := by cases e : anyAt a plainP (.mk k s nm a t c) with | false => rfl | true => exact absurd ha2 (by show ¬ (!anyAt a plainP (.mk k s nm a t c)) = true; rw [e]; simp)
      unfold actP at ha1
      have hs : s = 0 := by
        by_cases q : s = 0
        · exact q
        · rw [if_pos q] at ha1; exact absurd ha1 (by decide)
      rw [if_neg (fun q => q hs)] at ha1
      have hm := rule_mem (p := plainP) (n := nm) (by rw [ha1]; decide)
      have hk := (plain_rules _ hm.1 ha1).1
      rw [hm.2] at hk
      have hany : a.any badA = false := List.any_eq_false.2 fun x hx => by
        have := List.any_eq_false.1 ha2 x hx
        unfold notStays at this
        have : staysP plainP nm x = true := by cases e : staysP plainP nm x with | true => rfl | false => exact absurd (show (!staysP plainP nm x) = true by rw [e]; rfl) this
        rw [stays_good this]; simp
      rw [hany, decide_eq_true c2, decide_eq_true hs, decide_eq_false hk.1, decide_eq_false hk.2]; rfl
    · cases hal
theorem harm_L : ∀ (l : List Vi.Node), (fiL plainP l).2 = false → lfL l = false → hmL l = true
  | [], _, _ => by rw [hmL]
  | n :: l, h, hl => by
    rw [fiL] at h
    split at h
    · rename_i c; rw [c] at h; cases h
    rename_i c
    rw [lfL, Bool.or_eq_false_iff] at hl
    rw [hmL, harm_N n (by cases e : (fiN plainP n).2 with | false => rfl | true => exact absurd e c) hl.1, harm_L l h hl.2]; rfl
end
end Sp