/- What may stand in a page: what is told, shown of the conditions. Plain theorems. -/
import Derived.Test.YtfflmfmhnfdneaaVcP
import Derived.Test.YtfflmfmhnfdneaaPlU
set_option linter.unnecessarySimpa false
set_option linter.unusedVariables false
set_option linter.unusedSectionVars false
set_option linter.unusedSimpArgs false
set_option autoImplicit false
open Go Vi

namespace Sp
theorem nth_mem {α : Type} {l : List α} {p : Nat} {d : α} (h : p < l.length) : nth l (p : Int) d ∈ l := by
  rw [nth_lt h]; exact List.getElem_mem h
/-- A number behind so many; -1: there is none. -/
def shI (p : Nat) (i : Int) : Int := if i = -1 then -1 else (p : Int) + i
theorem shI_zero (i : Int) : shI 0 i = i := by unfold shI; split <;> omega
theorem shI_at (p : Nat) : shI p 0 = p := by unfold shI; rw [if_neg (by omega)]; omega
theorem idxG_range {α : Type} (f : α → Bool) : ∀ l : List α, idxG f l = -1 ∨ (0 ≤ idxG f l ∧ idxG f l < l.length)
  | [] => .inl rfl
  | x :: l => by
    have := idxG_range f l
    rw [idxG, List.length_cons]
    split
    · right; omega
    · split
      · exact .inl rfl
      · right; omega
theorem shI_succ {α : Type} (f : α → Bool) (l : List α) (p : Nat) : shI (p + 1) (idxG f l) = shI p (if idxG f l = -1 then -1 else idxG f l + 1) := by
  have h := idxG_range f l
  generalize idxG f l = i at *
  unfold shI
  by_cases c : i = -1
  · simp [c]
  · rw [if_neg c, if_neg c, if_neg (by omega)]
    omega
theorem idxG_any {α : Type} (f : α → Bool) : ∀ l : List α, decide (0 ≤ idxG f l) = l.any f
  | [] => rfl
  | x :: l => by
    have ih := idxG_any f l
    have hr := idxG_range f l
    rw [idxG, List.any_cons, ← ih]
    cases hx : f x with
    | true => rfl
    | false =>
      simp only [Bool.false_eq_true, if_false, Bool.false_or]
      by_cases c : idxG f l = -1
      · rw [if_pos c, c]
      · rw [if_neg c, decide_eq_true (show 0 ≤ idxG f l by omega), decide_eq_true (show 0 ≤ idxG f l + 1 by omega)]
theorem idxG_find {α : Type} (f : α → Bool) (d : α) : ∀ l : List α, l.find? f = if 0 ≤ idxG f l then some (nth l (idxG f l) d) else none
  | [] => rfl
  | x :: l => by
    have ih := idxG_find f d l
    have hr := idxG_range f l
    rw [idxG, List.find?_cons]
    cases hx : f x with
    | true => rfl
    | false =>
      simp only [Bool.false_eq_true, if_false, ih]
      by_cases c : idxG f l = -1
      · rw [if_pos c, if_neg (by omega), if_neg (by omega)]
      · rw [if_neg c, if_pos (by omega), if_pos (by omega)]
        obtain ⟨k, hk⟩ : ∃ k : Nat, idxG f l = k := ⟨(idxG f l).toNat, by omega⟩
        rw [hk]
        rfl
theorem chainT {R : Int → Prop} {k : Str} {v : Int} {r : List (Str × Int)} {s : Str} {X : Prop} (h : R (lkT ((k, v) :: r) s)) (f : R (lkT r s) → X) : bif decide (s = k) then R v else X := by
  rw [cond_dec]
  rw [lkT] at h
  split
  · rename_i c; rw [if_pos c] at h; exact h
  · rename_i c; rw [if_neg c] at h; exact f h
theorem strs_names {r : Rule} (h : ruleOk r) : strs.pre (namesR r) := by
  obtain ⟨_, h2, h3, h4, h5⟩ := h
  refine ⟨by unfold namesR; rw [List.length_append]; omega, fun s hs => ?_⟩
  rcases List.mem_append.1 hs with h | h
  · exact h4 s h
  · exact h5 s h
end Sp

theorem rectoplain_Texts.ok (R : Bool → Prop) (a b : List Str) (h : Sp.eqL.pre a b) (hR : R (Sp.eqL a b)) : rectoplain_Texts.vc R a b := by
  have h : a.length ≤ 9223372036854775807 := h
  refine Lp_rule (fun v => ∃ p : Nat, v = (a, b, (a.length : Int), (p : Int), ()) ∧ p ≤ a.length ∧ p ≤ b.length ∧ a.take p = b.take p) (fun v => a.length - v.2.2.2.1.toNat) ?_ ⟨0, rfl, Nat.zero_le _, Nat.zero_le _, rfl⟩
  rintro _ K ⟨p, rfl, hp, hq, he⟩ hK
  simp only [rectoplain_Texts.L0, cond_dec, cond_ndec, rg64, ix_iff]
  have no : ∀ (_ : a ≠ b), R false := fun hne => by
    unfold Sp.eqL at hR
    rw [decide_eq_false hne] at hR
    exact hR
  split
  · rename_i c1
    split
    · rename_i c2
      exact no (fun e => by rw [e] at c1; omega)
    · rename_i c2
      refine ⟨by omega, by omega, ?_⟩
      split
      · rename_i c3
        exact ⟨by omega, hK _ ⟨p + 1, rfl, by omega, by omega, by rw [take_succ (d := []) (by omega), take_succ (d := []) (by omega), he, c3]⟩ (by simp; omega)⟩
      · rename_i c3
        exact no (fun e => c3 (by rw [e]))
  · rename_i c1
    have : p = a.length := by omega
    subst this
    rw [List.take_length] at he
    unfold Sp.eqL at hR
    by_cases c : (a.length : Int) = b.length
    · rw [decide_eq_true c]
      have : b.take a.length = b := List.take_of_length_le (by omega)
      rw [this] at he
      rw [decide_eq_true he] at hR
      exact hR
    · rw [decide_eq_false c]
      exact no (fun e => c (by rw [e]))
theorem tags_Group.ok (R : Int → Prop) (name : Str) (hR : R (Sp.groupN name)) : tags_Group.vc R name := by
  unfold Sp.groupN Sp.tagT at hR
  unfold tags_Group.vc
  iterate 42 refine Sp.chainT hR fun hR => ?_
  exact hR
theorem pen_small.ok (R : Bool → Prop) (b : Int) (hR : R (Sp.smallB b)) : pen_small.vc R b := by
  unfold pen_small.vc
  unfold Sp.smallB at hR
  rw [cond_dec]
  split
  · rename_i c
    by_cases c2 : b ≤ 122
    · rw [decide_eq_true c2]; rw [decide_eq_true ⟨c, c2⟩] at hR; exact hR
    · rw [decide_eq_false c2]; rw [decide_eq_false (fun q => c2 q.2)] at hR; exact hR
  · rename_i c
    rw [decide_eq_false (fun q => c q.1)] at hR; exact hR
theorem pen_Name_1.ok (R : Bool → Prop) (b : Int) (hR : R (Sp.nameB b)) : pen_Name_1.vc R b := by
  unfold pen_Name_1.vc
  unfold Sp.nameB at hR
  cases h1 : Sp.smallB b with
  | true => rw [h1] at hR; exact hR
  | false =>
    rw [h1] at hR
    cases h2 : Sp.digB b with
    | true => rw [h2] at hR; exact hR
    | false =>
      rw [h2] at hR
      cases h3 : decide (b = 45) with
      | true => rw [h3] at hR; exact hR
      | false => rw [h3] at hR; exact hR
theorem pen_all.ok (R : Bool → Prop) (s : Str) (h : Sp.allN.pre s) (hR : R (Sp.allN s)) : pen_all.vc R s := by
  have h : s.length ≤ 9223372036854775807 := h
  refine Lp_rule (fun v => ∃ p : Nat, v = (s, (s.length : Int), (p : Int), ()) ∧ p ≤ s.length ∧ Sp.allN (s.drop p) = Sp.allN s) (fun v => s.length - v.2.2.1.toNat) ?_ ⟨0, rfl, Nat.zero_le _, rfl⟩
  rintro _ K ⟨p, rfl, hp, he⟩ hK
  show pen_all.L0 R s (s.length : Int) (p : Int) K
  unfold pen_all.L0
  rw [cond_dec]
  split
  · rename_i c1
    rw [drop_cons (d := (0 : UInt8)) (show p < s.length by omega)] at he
    unfold Sp.allN at he
    rw [List.all_cons] at he
    refine ⟨by rw [ix_iff]; omega, ?_⟩
    generalize nth s (p : Int) 0 = x at *
    cases hx : Sp.nameB (x.toNat : Int) with
    | true =>
      rw [hx, Bool.true_and] at he
      exact ⟨by rw [rg64]; omega, hK _ ⟨p + 1, rfl, by omega, he⟩ (by simp; omega)⟩
    | false =>
      rw [hx, Bool.false_and] at he
      have hR : R (s.all fun x => Sp.nameB x.toNat) := hR
      rw [← he] at hR
      exact hR
  · have : p = s.length := by omega
    subst this
    rw [List.drop_length] at he
    rw [← he] at hR
    exact hR
theorem pen_Name.ok (R : Bool → Prop) (s : Str) (hR : R (Sp.nameS s)) : pen_Name.vc R s := by
  unfold pen_Name.vc
  cases s with
  | nil => exact hR
  | cons x t =>
    rw [cond_dec, if_neg (by simp), cond_dec]
    have hR : R (decide ((x :: t).length ≤ 24) && Sp.smallB (x.toNat : Int) && Sp.allN (x :: t)) := hR
    split
    · rename_i c
      rw [decide_eq_false (show ¬ (x :: t).length ≤ 24 by omega)] at hR
      exact hR
    · rename_i c
      rw [decide_eq_true (show (x :: t).length ≤ 24 by omega), Bool.true_and] at hR
      refine ⟨by rw [ix_iff, List.length_cons]; omega, ?_⟩
      show bif !Sp.smallB (x.toNat : Int) then _ else _
      cases hx : Sp.smallB (x.toNat : Int) with
      | true =>
        rw [hx, Bool.true_and] at hR
        exact ⟨by unfold Sp.allN.pre; omega, hR⟩
      | false =>
        rw [hx] at hR
        exact hR
theorem policy_gone.ok (R : Bool → Prop) (name : Str) (hR : R (Sp.goneN name)) : policy_gone.vc R name := by
  unfold policy_gone.vc
  unfold Sp.goneN at hR
  generalize Sp.groupN name = g at *
  by_cases h1 : g = 15
  · simp [h1] at hR ⊢; exact hR
  by_cases h2 : g = 13
  · simp [h2] at hR ⊢; exact hR
  by_cases h3 : g = 14
  · simp [h3] at hR ⊢; exact hR
  by_cases h4 : g = 16
  · simp [h4] at hR ⊢; exact hR
  by_cases h5 : g = 1
  · simp [h5] at hR ⊢; exact hR
  by_cases h6 : g = 17
  · simp [h6] at hR ⊢; exact hR
  · simp [h1, h2, h3, h4, h5, h6] at hR ⊢; exact hR
theorem policy_short_1.ok (R : Bool → Prop) (r : Str × Int × List Str × List Str) (hR : R (Sp.wideR r)) : policy_short_1.vc R r := by
  unfold policy_short_1.vc
  unfold Sp.wideR at hR
  cases h : decide (20 < (r.2.2.1.length : Int)) with
  | true => rw [h] at hR; exact hR
  | false => rw [h] at hR; exact hR
theorem policy_formed_1.ok (R : Bool → Prop) (act : Int) (hR : R (Sp.awayB act)) : policy_formed_1.vc R act := by
  unfold policy_formed_1.vc
  unfold Sp.awayB at hR
  cases h : decide (act = 2) with
  | true => rw [h] at hR; exact hR
  | false => rw [h] at hR; exact hR
theorem policy_formed_2.ok (R : Bool → Prop) (s : Str) (h : Sp.oddS.pre s) (hR : R (Sp.oddS s)) : policy_formed_2.vc R s := by
  unfold policy_formed_2.vc
  unfold Sp.oddS at hR
  cases h2 : decide (s = []) with
  | true => rw [h2] at hR; exact hR
  | false => rw [h2] at hR; exact ⟨h, hR⟩
theorem policy_right_1.ok (R : Bool → Prop) (s : Str) (hR : R (Sp.notName s)) : policy_right_1.vc R s := hR

theorem Index_wide.ok (R : Int → Prop) (l : List (Str × Int × List Str × List Str)) (h : Sp.rules.pre l) (hR : R (Sp.idxWide l)) : Index_wide.vc R l := by
  have hlen := (show l.length ≤ 1000 from h)
  refine Lp_rule (fun v => ∃ p : Nat, v = (l, (l.length : Int), (p : Int), ()) ∧ p ≤ l.length ∧ Sp.shI p (Sp.idxG Sp.wideR (l.drop p)) = Sp.idxG Sp.wideR l) (fun v => l.length - v.2.2.1.toNat) ?_ ⟨0, rfl, Nat.zero_le _, Sp.shI_zero _⟩
  rintro _ K ⟨p, rfl, hp, he⟩ hK
  show Index_wide.L0 R l (l.length : Int) (p : Int) K
  unfold Index_wide.L0
  rw [cond_dec]
  split
  · rename_i c1
    have hp' : p < l.length := by omega
    have hm := Sp.nth_mem (d := (([], 0, [], []) : Str × Int × List Str × List Str)) hp'
    rw [drop_cons (d := (([], 0, [], []) : Str × Int × List Str × List Str)) hp', Sp.idxG] at he
    generalize nth l (p : Int) (([], 0, [], []) : Str × Int × List Str × List Str) = x at *
    refine ⟨by rw [ix_iff]; omega, ?_⟩
    show bif Sp.wideR x then _ else _
    cases hx : Sp.wideR x with
    | true =>
      rw [if_pos hx] at he
      have : R (Sp.idxG Sp.wideR l) := hR
      rw [← he, Sp.shI_at] at this
      exact this
    | false =>
      rw [if_neg (by rw [hx]; simp)] at he
      exact ⟨by rw [rg64]; omega, hK _ ⟨p + 1, rfl, by omega, by rw [← he]; exact Sp.shI_succ _ _ _⟩ (by simp; omega)⟩
  · have : p = l.length := by omega
    subst this
    rw [List.drop_length] at he
    have : R (Sp.idxG Sp.wideR l) := hR
    rw [← he] at this
    exact this

theorem Index_nn.ok (R : Int → Prop) (l : List Str) (h : Sp.strs.pre l) (hR : R (Sp.idxNN l)) : Index_nn.vc R l := by
  have hlen := h.1
  refine Lp_rule (fun v => ∃ p : Nat, v = (l, (l.length : Int), (p : Int), ()) ∧ p ≤ l.length ∧ Sp.shI p (Sp.idxG Sp.notName (l.drop p)) = Sp.idxG Sp.notName l) (fun v => l.length - v.2.2.1.toNat) ?_ ⟨0, rfl, Nat.zero_le _, Sp.shI_zero _⟩
  rintro _ K ⟨p, rfl, hp, he⟩ hK
  show Index_nn.L0 R l (l.length : Int) (p : Int) K
  unfold Index_nn.L0
  rw [cond_dec]
  split
  · rename_i c1
    have hp' : p < l.length := by omega
    have hm := Sp.nth_mem (d := ([] : Str)) hp'
    rw [drop_cons (d := ([] : Str)) hp', Sp.idxG] at he
    generalize nth l (p : Int) ([] : Str) = x at *
    refine ⟨by rw [ix_iff]; omega, ?_⟩
    show bif Sp.notName x then _ else _
    cases hx : Sp.notName x with
    | true =>
      rw [if_pos hx] at he
      have : R (Sp.idxG Sp.notName l) := hR
      rw [← he, Sp.shI_at] at this
      exact this
    | false =>
      rw [if_neg (by rw [hx]; simp)] at he
      exact ⟨by rw [rg64]; omega, hK _ ⟨p + 1, rfl, by omega, by rw [← he]; exact Sp.shI_succ _ _ _⟩ (by simp; omega)⟩
  · have : p = l.length := by omega
    subst this
    rw [List.drop_length] at he
    have : R (Sp.idxG Sp.notName l) := hR
    rw [← he] at this
    exact this

theorem Index_odd.ok (R : Int → Prop) (l : List Str) (h : Sp.strs.pre l) (hR : R (Sp.idxOdd l)) : Index_odd.vc R l := by
  have hlen := h.1
  refine Lp_rule (fun v => ∃ p : Nat, v = (l, (l.length : Int), (p : Int), ()) ∧ p ≤ l.length ∧ Sp.shI p (Sp.idxG Sp.oddS (l.drop p)) = Sp.idxG Sp.oddS l) (fun v => l.length - v.2.2.1.toNat) ?_ ⟨0, rfl, Nat.zero_le _, Sp.shI_zero _⟩
  rintro _ K ⟨p, rfl, hp, he⟩ hK
  show Index_odd.L0 R l (l.length : Int) (p : Int) K
  unfold Index_odd.L0
  rw [cond_dec]
  split
  · rename_i c1
    have hp' : p < l.length := by omega
    have hm := Sp.nth_mem (d := ([] : Str)) hp'
    rw [drop_cons (d := ([] : Str)) hp', Sp.idxG] at he
    generalize nth l (p : Int) ([] : Str) = x at *
    refine ⟨by rw [ix_iff]; omega, h.2 x hm, ?_⟩
    show bif Sp.oddS x then _ else _
    cases hx : Sp.oddS x with
    | true =>
      rw [if_pos hx] at he
      have : R (Sp.idxG Sp.oddS l) := hR
      rw [← he, Sp.shI_at] at this
      exact this
    | false =>
      rw [if_neg (by rw [hx]; simp)] at he
      exact ⟨by rw [rg64]; omega, hK _ ⟨p + 1, rfl, by omega, by rw [← he]; exact Sp.shI_succ _ _ _⟩ (by simp; omega)⟩
  · have : p = l.length := by omega
    subst this
    rw [List.drop_length] at he
    have : R (Sp.idxG Sp.oddS l) := hR
    rw [← he] at this
    exact this

theorem Index_nr.ok (R : Int → Prop) (l : List (Str × Int × List Str × List Str)) (h : Sp.rulesOk l) (hR : R (Sp.idxNR l)) : Index_nr.vc R l := by
  have hlen := h.1
  refine Lp_rule (fun v => ∃ p : Nat, v = (l, (l.length : Int), (p : Int), ()) ∧ p ≤ l.length ∧ Sp.shI p (Sp.idxG Sp.notRight (l.drop p)) = Sp.idxG Sp.notRight l) (fun v => l.length - v.2.2.1.toNat) ?_ ⟨0, rfl, Nat.zero_le _, Sp.shI_zero _⟩
  rintro _ K ⟨p, rfl, hp, he⟩ hK
  show Index_nr.L0 R l (l.length : Int) (p : Int) K
  unfold Index_nr.L0
  rw [cond_dec]
  split
  · rename_i c1
    have hp' : p < l.length := by omega
    have hm := Sp.nth_mem (d := (([], 0, [], []) : Str × Int × List Str × List Str)) hp'
    rw [drop_cons (d := (([], 0, [], []) : Str × Int × List Str × List Str)) hp', Sp.idxG] at he
    generalize nth l (p : Int) (([], 0, [], []) : Str × Int × List Str × List Str) = x at *
    refine ⟨by rw [ix_iff]; omega, h.2 x hm, ?_⟩
    show bif Sp.notRight x then _ else _
    cases hx : Sp.notRight x with
    | true =>
      rw [if_pos hx] at he
      have : R (Sp.idxG Sp.notRight l) := hR
      rw [← he, Sp.shI_at] at this
      exact this
    | false =>
      rw [if_neg (by rw [hx]; simp)] at he
      exact ⟨by rw [rg64]; omega, hK _ ⟨p + 1, rfl, by omega, by rw [← he]; exact Sp.shI_succ _ _ _⟩ (by simp; omega)⟩
  · have : p = l.length := by omega
    subst this
    rw [List.drop_length] at he
    have : R (Sp.idxG Sp.notRight l) := hR
    rw [← he] at this
    exact this

theorem Index_rule.ok (R : Int → Str → Prop) (l : List (Str × Int × List Str × List Str)) (name : Str) (h : Sp.rules.pre l) (hR : R (Sp.idxR l name) name) : Index_rule.vc R l name := by
  have hlen := (show l.length ≤ 1000 from h)
  refine Lp_rule (fun v => ∃ p : Nat, v = (l, (l.length : Int), (p : Int), name, ()) ∧ p ≤ l.length ∧ Sp.shI p (Sp.idxG (fun r => Sp.hasN r name) (l.drop p)) = Sp.idxG (fun r => Sp.hasN r name) l) (fun v => l.length - v.2.2.1.toNat) ?_ ⟨0, rfl, Nat.zero_le _, Sp.shI_zero _⟩
  rintro _ K ⟨p, rfl, hp, he⟩ hK
  show Index_rule.L0 R l (l.length : Int) (p : Int) name K
  unfold Index_rule.L0
  rw [cond_dec]
  split
  · rename_i c1
    have hp' : p < l.length := by omega
    have hm := Sp.nth_mem (d := (([], 0, [], []) : Str × Int × List Str × List Str)) hp'
    rw [drop_cons (d := (([], 0, [], []) : Str × Int × List Str × List Str)) hp', Sp.idxG] at he
    generalize nth l (p : Int) (([], 0, [], []) : Str × Int × List Str × List Str) = x at *
    refine ⟨by rw [ix_iff]; omega, ?_⟩
    show bif Sp.hasN x name then _ else _
    cases hx : Sp.hasN x name with
    | true =>
      rw [if_pos hx] at he
      have : R (Sp.idxG (fun r => Sp.hasN r name) l) name := hR
      rw [← he, Sp.shI_at] at this
      exact this
    | false =>
      rw [if_neg (by rw [hx]; simp)] at he
      exact ⟨by rw [rg64]; omega, hK _ ⟨p + 1, rfl, by omega, by rw [← he]; exact Sp.shI_succ _ _ _⟩ (by simp; omega)⟩
  · have : p = l.length := by omega
    subst this
    rw [List.drop_length] at he
    have : R (Sp.idxG (fun r => Sp.hasN r name) l) name := hR
    rw [← he] at this
    exact this

theorem Index_attr.ok (R : Int → List (Str × Int × List Str × List Str) → List Str → Int → Int → Int → Int → Str → List (Str × Str) → Str → List Vi.Node → Prop) (l : List (Str × Str)) (rules : List (Str × Int × List Str × List Str)) (schemes : List Str) (others strange kind space : Int) (nname : Str) (attrs : List (Str × Str)) (text : Str) (kids : List Vi.Node) (h : Sp.polOk (rules, schemes, others, strange) ∧ Sp.attrsOk l) (hR : R (Sp.idxAt l (rules, schemes, others, strange) (Vi.Node.mk kind space nname attrs text kids)) rules schemes others strange kind space nname attrs text kids) : Index_attr.vc R l rules schemes others strange kind space nname attrs text kids := by
  have hlen := h.2.1
  refine Lp_rule (fun v => ∃ p : Nat, v = (l, (l.length : Int), (p : Int), rules, schemes, others, strange, kind, space, nname, attrs, text, kids, ()) ∧ p ≤ l.length ∧ Sp.shI p (Sp.idxG (fun a => Sp.notStays a (rules, schemes, others, strange) (Vi.Node.mk kind space nname attrs text kids)) (l.drop p)) = Sp.idxG (fun a => Sp.notStays a (rules, schemes, others, strange) (Vi.Node.mk kind space nname attrs text kids)) l) (fun v => l.length - v.2.2.1.toNat) ?_ ⟨0, rfl, Nat.zero_le _, Sp.shI_zero _⟩
  rintro _ K ⟨p, rfl, hp, he⟩ hK
  show Index_attr.L0 R l (l.length : Int) (p : Int) rules schemes others strange kind space nname attrs text kids K
  unfold Index_attr.L0
  rw [cond_dec]
  split
  · rename_i c1
    have hp' : p < l.length := by omega
    have hm := Sp.nth_mem (d := (([], []) : Str × Str)) hp'
    rw [drop_cons (d := (([], []) : Str × Str)) hp', Sp.idxG] at he
    generalize nth l (p : Int) (([], []) : Str × Str) = x at *
    refine ⟨by rw [ix_iff]; omega, ⟨h.1, h.2.2 x hm⟩, ?_⟩
    show bif Sp.notStays x (rules, schemes, others, strange) (Vi.Node.mk kind space nname attrs text kids) then _ else _
    cases hx : Sp.notStays x (rules, schemes, others, strange) (Vi.Node.mk kind space nname attrs text kids) with
    | true =>
      rw [if_pos hx] at he
      have : R (Sp.idxG (fun a => Sp.notStays a (rules, schemes, others, strange) (Vi.Node.mk kind space nname attrs text kids)) l) rules schemes others strange kind space nname attrs text kids := hR
      rw [← he, Sp.shI_at] at this
      exact this
    | false =>
      rw [if_neg (by rw [hx]; simp)] at he
      exact ⟨by rw [rg64]; omega, hK _ ⟨p + 1, rfl, by omega, by rw [← he]; exact Sp.shI_succ _ _ _⟩ (by simp; omega)⟩
  · have : p = l.length := by omega
    subst this
    rw [List.drop_length] at he
    have : R (Sp.idxG (fun a => Sp.notStays a (rules, schemes, others, strange) (Vi.Node.mk kind space nname attrs text kids)) l) rules schemes others strange kind space nname attrs text kids := hR
    rw [← he] at this
    exact this

theorem Contains_wide.ok (R : Bool → Prop) (l : List (Str × Int × List Str × List Str)) (h : Sp.rules.pre l) (hR : R (Sp.anyWide l)) : Contains_wide.vc R l := by
  refine ⟨h, ?_⟩
  rw [show decide (0 ≤ Sp.idxWide l) = Sp.anyWide l from Sp.idxG_any _ l]
  exact hR

theorem Contains_nn.ok (R : Bool → Prop) (l : List Str) (h : Sp.strs.pre l) (hR : R (Sp.anyNN l)) : Contains_nn.vc R l := by
  refine ⟨h, ?_⟩
  rw [show decide (0 ≤ Sp.idxNN l) = Sp.anyNN l from Sp.idxG_any _ l]
  exact hR

theorem Contains_odd.ok (R : Bool → Prop) (l : List Str) (h : Sp.strs.pre l) (hR : R (Sp.anyOdd l)) : Contains_odd.vc R l := by
  refine ⟨h, ?_⟩
  rw [show decide (0 ≤ Sp.idxOdd l) = Sp.anyOdd l from Sp.idxG_any _ l]
  exact hR

theorem Contains_nr.ok (R : Bool → Prop) (l : List (Str × Int × List Str × List Str)) (h : Sp.rulesOk l) (hR : R (Sp.anyNR l)) : Contains_nr.vc R l := by
  refine ⟨h, ?_⟩
  rw [show decide (0 ≤ Sp.idxNR l) = Sp.anyNR l from Sp.idxG_any _ l]
  exact hR

theorem Contains_attr.ok (R : Bool → List (Str × Int × List Str × List Str) → List Str → Int → Int → Int → Int → Str → List (Str × Str) → Str → List Vi.Node → Prop) (l : List (Str × Str)) (rules : List (Str × Int × List Str × List Str)) (schemes : List Str) (others strange kind space : Int) (nname : Str) (attrs : List (Str × Str)) (text : Str) (kids : List Vi.Node) (h : Sp.polOk (rules, schemes, others, strange) ∧ Sp.attrsOk l) (hR : R (Sp.anyAt l (rules, schemes, others, strange) (Vi.Node.mk kind space nname attrs text kids)) rules schemes others strange kind space nname attrs text kids) : Contains_attr.vc R l rules schemes others strange kind space nname attrs text kids := by
  refine ⟨h, ?_⟩
  rw [show decide (0 ≤ Sp.idxAt l (rules, schemes, others, strange) (Vi.Node.mk kind space nname attrs text kids)) = Sp.anyAt l (rules, schemes, others, strange) (Vi.Node.mk kind space nname attrs text kids) from Sp.idxG_any _ l]
  exact hR

theorem slices_Grow_string_string.ok (R : List Str → Prop) (n : Int) (h : Sp.growP n) (hR : R []) : slices_Grow_string_string.vc R n := by
  obtain ⟨h1, h2⟩ := h
  unfold slices_Grow_string_string.vc
  rw [cond_dec, if_neg (by omega)]
  refine ⟨by rw [rg64]; omega, by rw [rg64]; omega, ?_⟩
  rw [cond_dec]
  split
  · exact ⟨by rw [sb_iff]; omega, by rw [mk_iff]; omega, by rw [sb_iff]; omega, hR⟩
  · exact hR
theorem slices_Concat_string_string.ok (R : List Str → Prop) (l : List (List Str)) (h : Sp.concatS.pre l) (hR : R (Sp.concatS l)) : slices_Concat_string_string.vc R l := by
  obtain ⟨h1, h2⟩ := h
  have fl : ∀ p : Nat, p ≤ l.length → (l.take p).flatten.length ≤ 1000 * p := by
    intro p
    induction p with
    | zero => intro _; simp
    | succ p ih =>
      intro hp
      rw [take_succ (d := []) (by omega), List.flatten_append, List.length_append]
      have := ih (by omega)
      have := h2 _ (Sp.nth_mem (d := []) (show p < l.length by omega))
      simp only [List.flatten_cons, List.flatten_nil, List.append_nil]
      omega
  refine Lp_rule (fun v => ∃ p : Nat, v = (l, (((l.take p).flatten.length : Nat) : Int), l, (l.length : Int), (p : Int), ()) ∧ p ≤ l.length) (fun v => l.length - v.2.2.2.2.1.toNat) ?_ ⟨0, by simp, Nat.zero_le _⟩
  rintro _ K ⟨p, rfl, hp⟩ hK
  show slices_Concat_string_string.L0 R l (((l.take p).flatten.length : Nat) : Int) l (l.length : Int) (p : Int) K
  unfold slices_Concat_string_string.L0
  have hfl := fl p hp
  rw [cond_dec]
  split
  · rename_i c1
    have hp' : p < l.length := by omega
    have hx := h2 _ (Sp.nth_mem (d := []) hp')
    refine ⟨by rw [ix_iff]; omega, by rw [rg64]; omega, ?_⟩
    rw [cond_dec, if_neg (by omega)]
    refine ⟨by rw [rg64]; omega, hK _ ⟨p + 1, ?_, by omega⟩ (by simp; omega)⟩
    rw [take_succ (d := []) hp', List.flatten_append, List.length_append]
    simp
  · refine ⟨⟨by omega, by omega⟩, ?_⟩
    refine Lp_rule (fun v => ∃ q : Nat, v = (l, (l.length : Int), (q : Int), (l.take q).flatten, ()) ∧ q ≤ l.length) (fun v => l.length - v.2.2.1.toNat) ?_ ⟨0, by simp, Nat.zero_le _⟩
    rintro _ K1 ⟨q, rfl, hq⟩ hK1
    show slices_Concat_string_string.L1 R l (l.length : Int) (q : Int) (l.take q).flatten K1
    unfold slices_Concat_string_string.L1
    have hfq := fl q hq
    rw [cond_dec]
    split
    · have hq' : q < l.length := by omega
      have hx := h2 _ (Sp.nth_mem (d := []) hq')
      refine ⟨by rw [ix_iff]; omega, by rw [gr_iff]; omega, by rw [rg64]; omega, hK1 _ ⟨q + 1, ?_, by omega⟩ (by simp; omega)⟩
      rw [take_succ (d := []) hq', List.flatten_append]
      simp
    · rw [List.take_of_length_le (by omega)]
      exact hR
theorem policy_Rule_names.ok (R : List Str → Prop) (r : Str × Int × List Str × List Str) (h : Sp.ruleOkk r) (hR : R (Sp.namesR r)) : policy_Rule_names.vc R r := by
  obtain ⟨_, h2, h3, _⟩ := h
  refine ⟨⟨by simp, fun x hx => ?_⟩, ?_⟩
  · simp only [List.mem_cons, List.not_mem_nil, or_false] at hx
    rcases hx with rfl | rfl
    · exact h2
    · exact h3
  · have e : Sp.concatS [r.2.2.1, r.2.2.2] = Sp.namesR r := by unfold Sp.concatS Sp.namesR; simp
    rw [e]; exact hR
theorem policy_twice.ok (R : Bool → Prop) (l : List Str) (h : Sp.twiceL.pre l) (hR : R (Sp.twiceL l)) : policy_twice.vc R l := by
  have h : l.length ≤ 1000000 := h
  refine Lp_rule (fun v => ∃ p : Nat, v = (l, (l.length : Int), (p : Int), ()) ∧ p ≤ l.length ∧ Sp.twF (l.take p) (l.drop p) = Sp.twiceL l) (fun v => l.length - v.2.2.1.toNat) ?_ ⟨0, rfl, Nat.zero_le _, rfl⟩
  rintro _ K ⟨p, rfl, hp, he⟩ hK
  show policy_twice.L0 R l (l.length : Int) (p : Int) K
  unfold policy_twice.L0
  rw [cond_dec]
  split
  · rename_i c1
    have hp' : p < l.length := by omega
    have hs : sub l 0 (p : Int) = l.take p := by unfold sub; simp
    rw [drop_cons (d := ([] : Str)) hp', Sp.twF] at he
    rw [hs]
    refine ⟨by rw [sb_iff]; omega, by rw [ix_iff]; omega, by unfold Sp.idxS.pre; rw [List.length_take]; omega, ?_⟩
    unfold Sp.hasS
    rw [cond_dec]
    split
    · rename_i c
      rw [if_pos c] at he
      rw [← he] at hR; exact hR
    · rename_i c
      rw [if_neg c] at he
      exact ⟨by rw [rg64]; omega, hK _ ⟨p + 1, rfl, by omega, by rw [take_succ (d := []) hp']; exact he⟩ (by simp; omega)⟩
  · have : p = l.length := by omega
    subst this
    rw [List.drop_length, Sp.twF] at he
    rw [← he] at hR; exact hR
theorem policy_right.ok (R : Bool → Prop) (r : Str × Int × List Str × List Str) (h : Sp.ruleOkk r) (hR : R (Sp.rightR r)) : policy_right.vc R r := by
  refine ⟨h, Sp.strs_names h, ?_⟩
  unfold Sp.rightR at hR
  cases h1 : Sp.nameS r.1 with
  | false => rw [h1] at hR; exact hR
  | true =>
  rw [h1] at hR
  cases h2 : Sp.anyNN (Sp.namesR r) with
  | true => rw [h2] at hR; exact hR
  | false =>
  rw [h2] at hR
  cases h3 : decide (1 ≤ r.2.1) with
  | false => rw [h3] at hR; exact hR
  | true =>
  rw [h3] at hR
  cases h4 : decide (r.2.1 ≤ 3) with
  | false => rw [h4] at hR; exact hR
  | true =>
  rw [h4] at hR
  cases h5 : decide (r.2.1 = 1) with
  | false => rw [h5] at hR; exact hR
  | true => rw [h5] at hR; exact hR
theorem policy_formed_3.ok (R : Bool → Prop) (r : Str × Int × List Str × List Str) (h : Sp.ruleOkk r) (hR : R (Sp.notRight r)) : policy_formed_3.vc R r := ⟨h, hR⟩
theorem policy_short.ok (R : Bool → Prop) (p : List (Str × Int × List Str × List Str) × List Str × Int × Int) (h : Sp.polOkk p) (hR : R (Sp.shortP p)) : policy_short.vc R p := by
  unfold policy_short.vc
  unfold Sp.shortP at hR
  cases h1 : decide ((p.1.length : Int) ≤ 60) with
  | false => rw [h1] at hR; exact hR
  | true =>
  rw [h1] at hR
  cases h2 : decide ((p.2.1.length : Int) ≤ 20) with
  | false => rw [h2] at hR; exact hR
  | true => rw [h2] at hR; exact ⟨h.1, hR⟩
theorem policy_apart.ok (R : Bool → Prop) (p : List (Str × Int × List Str × List Str) × List Str × Int × Int) (h : Sp.polOkk p) (hR : R (Sp.apartP p)) : policy_apart.vc R p := by
  obtain ⟨h1, h2, h3, h4⟩ := h
  unfold Sp.apartP at hR
  unfold policy_apart.vc
  generalize p.1 = rs at *
  clear h2 h3
  refine Lp_rule (fun v => ∃ q : Nat, v = (rs, (rs.length : Int), (q : Int), (rs.take q).map (fun r => r.1), ()) ∧ q ≤ rs.length ∧ (rs.drop q).any (fun r => Sp.twiceL (Sp.namesR r)) = rs.any (fun r => Sp.twiceL (Sp.namesR r))) (fun v => rs.length - v.2.2.1.toNat) ?_ ⟨0, by simp, Nat.zero_le _, by simp⟩
  rintro _ K ⟨q, rfl, hq, he⟩ hK
  simp only [policy_apart.L0]
  have hl : ((rs.take q).map (fun r => r.1)).length = q := by rw [List.length_map, List.length_take]; omega
  rw [cond_dec]
  split
  · have hq' : q < rs.length := by omega
    have hm := Sp.nth_mem (d := (([], 0, [], []) : Str × Int × List Str × List Str)) hq'
    have ht := take_succ (d := (([], 0, [], []) : Str × Int × List Str × List Str)) hq'
    rw [drop_cons (d := (([], 0, [], []) : Str × Int × List Str × List Str)) hq', List.any_cons] at he
    generalize nth rs (q : Int) (([], 0, [], []) : Str × Int × List Str × List Str) = r at *
    have hn := (Sp.strs_names (h4 r hm)).1
    refine ⟨by rw [ix_iff]; omega, by rw [gr_iff, hl]; omega, h4 r hm, hn, ?_⟩
    cases hx : Sp.twiceL (Sp.namesR r) with
    | true =>
      rw [hx, Bool.true_or] at he
      rw [← he] at hR
      exact hR
    | false =>
      rw [hx, Bool.false_or] at he
      refine ⟨by rw [rg64]; omega, hK _ ⟨q + 1, ?_, by omega, he⟩ (by simp only; omega)⟩
      rw [ht, List.map_append]
      rfl
  · have hqe : q = rs.length := by omega
    subst hqe
    rw [List.drop_length, List.any_nil] at he
    rw [← he] at hR
    rw [List.take_length]
    refine ⟨?_, hR⟩
    unfold Sp.twiceL.pre
    rw [List.length_map]; omega
theorem policy_formed.ok (R : Bool → Prop) (p : List (Str × Int × List Str × List Str) × List Str × Int × Int) (h : Sp.polOkk p) (hR : R (Sp.formedP p)) : policy_formed.vc R p := by
  obtain ⟨h1, h2, h3, h4⟩ := h
  refine ⟨⟨by omega, h3⟩, ?_⟩
  unfold Sp.formedP at hR
  cases k1 : Sp.awayB p.2.2.1 with
  | false => rw [k1] at hR; exact hR
  | true =>
  rw [k1] at hR
  cases k2 : Sp.awayB p.2.2.2 with
  | false => rw [k2] at hR; exact hR
  | true =>
  rw [k2] at hR
  cases k3 : Sp.anyOdd p.2.1 with
  | true => rw [k3] at hR; exact hR
  | false => rw [k3] at hR; exact ⟨⟨h1, h4⟩, hR⟩
set_option maxHeartbeats 2000000 in
theorem policy_Check.ok (R : Int → Prop) (p : List (Str × Int × List Str × List Str) × List Str × Int × Int) (h : Sp.polOkk p) (hR : R (Sp.checkP p)) : policy_Check.vc R p := by
  obtain ⟨rs, sc, o, st⟩ := p
  have go (i : Int) (hi : i = 0 ∨ i = 1 ∨ i = 2 ∨ i = 3) (k1 : 0 < i → Sp.shortP (rs, sc, o, st) = true) (k2 : 1 < i → Sp.apartP (rs, sc, o, st) = true) (k3 : 2 < i → Sp.formedP (rs, sc, o, st) = true)
      (K : Int × Int × Int × Int × Int × List (Str × Int × List Str × List Str) × List Str × Int × Int × Unit → Prop)
      (hK : ∀ j : Int, j = i + 1 → (j = 1 ∨ j = 2 ∨ j = 3) → (0 < j → Sp.shortP (rs, sc, o, st) = true) → (1 < j → Sp.apartP (rs, sc, o, st) = true) → (2 < j → Sp.formedP (rs, sc, o, st) = true) → K (((3 : Nat) : Int), j, 2, 8, 4, rs, sc, o, st, ())) :
      policy_Check.L0 R ((3 : Nat) : Int) i 2 8 4 rs sc o st K := by
    unfold policy_Check.L0
    unfold Sp.checkP at hR
    rcases hi with rfl | rfl | rfl | rfl
    · rw [cond_dec, if_pos (by omega), cond_dec, if_pos rfl]
      refine ⟨by rw [ix_iff]; omega, h, ?_⟩
      cases c : Sp.shortP (rs, sc, o, st) with
      | false => rw [c, if_pos rfl] at hR; exact hR
      | true => exact ⟨by rw [rg64]; omega, hK 1 rfl (.inl rfl) (fun _ => c) (fun e => absurd e (by omega)) (fun e => absurd e (by omega))⟩
    · rw [k1 (by omega), if_neg (by simp)] at hR
      rw [cond_dec, if_pos (by omega), cond_dec, if_neg (by omega), cond_dec, if_pos rfl]
      refine ⟨by rw [ix_iff]; omega, h, ?_⟩
      cases c : Sp.apartP (rs, sc, o, st) with
      | false => rw [c, if_pos rfl] at hR; exact hR
      | true => exact ⟨by rw [rg64]; omega, hK 2 rfl (.inr (.inl rfl)) (fun _ => k1 (by omega)) (fun _ => c) (fun e => absurd e (by omega))⟩
    · rw [k1 (by omega), if_neg (by simp), k2 (by omega), if_neg (by simp)] at hR
      rw [cond_dec, if_pos (by omega), cond_dec, if_neg (by omega), cond_dec, if_neg (by omega)]
      refine ⟨by rw [ix_iff]; omega, h, ?_⟩
      cases c : Sp.formedP (rs, sc, o, st) with
      | false => rw [c, if_pos rfl] at hR; exact hR
      | true => exact ⟨by rw [rg64]; omega, hK 3 rfl (.inr (.inr rfl)) (fun _ => k1 (by omega)) (fun _ => k2 (by omega)) (fun _ => c)⟩
    · rw [k1 (by omega), if_neg (by simp), k2 (by omega), if_neg (by simp), k3 (by omega), if_neg (by simp)] at hR
      rw [cond_dec, if_neg (by omega)]
      exact hR
  refine Lp_rule (fun v => ∃ i : Int, v = (((3 : Nat) : Int), i, 2, 8, 4, rs, sc, o, st, ()) ∧ (i = 0 ∨ i = 1 ∨ i = 2 ∨ i = 3) ∧ (0 < i → Sp.shortP (rs, sc, o, st) = true) ∧ (1 < i → Sp.apartP (rs, sc, o, st) = true) ∧ (2 < i → Sp.formedP (rs, sc, o, st) = true)) (fun v => (4 - v.2.1).toNat) ?_
    ⟨0, rfl, .inl rfl, fun e => absurd e (by omega), fun e => absurd e (by omega), fun e => absurd e (by omega)⟩
  rintro _ K ⟨i, rfl, hi, k1, k2, k3⟩ hK
  exact go i hi k1 k2 k3 K (fun j hj hj2 q1 q2 q3 => hK _ ⟨j, rfl, .inr hj2, q1, q2, q3⟩ (by simp only; omega))
theorem policy_Policy_rule_1.ok (R : Bool → Str → Prop) (r : Str × Int × List Str × List Str) (name : Str) (hR : R (Sp.hasN r name) name) : policy_Policy_rule_1.vc R r name := hR
theorem policy_Policy_rule.ok (R : Str × Int × List Str × List Str → Prop) (p : List (Str × Int × List Str × List Str) × List Str × Int × Int) (name : Str) (h : Sp.ruleP.pre p name) (hR : R (Sp.ruleP p name)) : policy_Policy_rule.vc R p name := by
  obtain ⟨h1, h2, h3, h4⟩ := h
  refine ⟨h1, ?_⟩
  unfold Sp.ruleP at hR
  rw [Sp.idxG_find _ (([], 0, [], []) : Str × Int × List Str × List Str)] at hR
  have hr := Sp.idxG_range (fun r => Sp.hasN r name) p.1
  show bif decide (0 ≤ Sp.idxG (fun r => Sp.hasN r name) p.1) then Ix (Sp.idxG (fun r => Sp.hasN r name) p.1) p.1.length ∧ R (nth p.1 (Sp.idxG (fun r => Sp.hasN r name) p.1) ([], 0, [], [])) else R ([], p.2.2.1, [], [])
  generalize Sp.idxG (fun r => Sp.hasN r name) p.1 = i at *
  rw [cond_dec]
  split
  · rename_i c
    rw [if_pos c] at hR
    exact ⟨by rw [ix_iff]; omega, hR⟩
  · rename_i c
    rw [if_neg c] at hR
    exact hR
theorem policy_Policy_act.ok (R : Int → Prop) (p : List (Str × Int × List Str × List Str) × List Str × Int × Int) (space : Int) (name : Str) (h : Sp.actP.pre p space name) (hR : R (Sp.actP p space name)) : policy_Policy_act.vc R p space name := by
  unfold policy_Policy_act.vc
  unfold Sp.actP at hR
  rw [cond_ndec]
  split
  · rename_i c; rw [if_neg (fun q => q c)] at hR; exact ⟨h, hR⟩
  · rename_i c; rw [if_pos c] at hR; exact hR
theorem Sp.rule_ok {p : Pol} {name : Str} (h : polOk p) : ruleOk (ruleP p name) := by
  unfold ruleP
  split
  · rename_i r e
    exact h.2.2.2 r (List.mem_of_find?_eq_some e)
  · exact ⟨by simp, by simp, by simp, fun s hs => absurd hs List.not_mem_nil, fun s hs => absurd hs List.not_mem_nil⟩
theorem policy_Policy_stays.ok (R : Bool → Prop) (p : List (Str × Int × List Str × List Str) × List Str × Int × Int) (name : Str) (a : Str × Str) (h : Sp.staysP.pre p name a) (hR : R (Sp.staysP p name a)) : policy_Policy_stays.vc R p name a := by
  obtain ⟨hp, ha⟩ := h
  have hro := Sp.rule_ok (name := name) hp
  obtain ⟨_, h2, h3, _⟩ := hro
  refine ⟨hp, ?_⟩
  unfold Sp.staysP at hR
  generalize Sp.ruleP p name = r at *
  cases k1 : decide (r.2.1 = 1) with
  | false => rw [k1] at hR; exact hR
  | true =>
  rw [k1, Bool.true_and] at hR
  refine ⟨by unfold Sp.idxS.pre; omega, ?_⟩
  cases k2 : Sp.hasS r.2.2.1 a.1 with
  | true => rw [k2] at hR; exact hR
  | false =>
  rw [k2, Bool.false_or] at hR
  refine ⟨by unfold Sp.idxS.pre; omega, ?_⟩
  cases k3 : Sp.hasS r.2.2.2 a.1 with
  | false => rw [k3] at hR; exact hR
  | true =>
    rw [k3] at hR
    exact ⟨⟨ha, by have := hp.2.1; omega⟩, hR⟩
theorem policy_Act.ok (R : Int → Prop) (p : List (Str × Int × List Str × List Str) × List Str × Int × Int) (space : Int) (name : Str) (h : Sp.actC.pre p space name) (hR : R (Sp.actC p space name)) : policy_Act.vc R p space name := by
  refine ⟨h, ?_⟩
  unfold Sp.actC at hR
  rw [cond_ndec]
  split
  · rename_i c; rw [if_neg (fun q => q c)] at hR; exact ⟨h, hR⟩
  · rename_i c; rw [if_pos c] at hR; exact hR
theorem policy_Stays.ok (R : Bool → Prop) (p : List (Str × Int × List Str × List Str) × List Str × Int × Int) (name : Str) (a : Str × Str) (h : Sp.staysC.pre p name a) (hR : R (Sp.staysC p name a)) : policy_Stays.vc R p name a := by
  refine ⟨h.1, ?_⟩
  unfold Sp.staysC at hR
  cases k1 : decide (Sp.checkP p = 0) with
  | false => rw [k1] at hR; exact hR
  | true => rw [k1] at hR; exact ⟨h, hR⟩
theorem policy_Policy_allows_1.ok (R : Bool → List (Str × Int × List Str × List Str) → List Str → Int → Int → Int → Int → Str → List (Str × Str) → Str → List Vi.Node → Prop) (a : Str × Str) (rules : List (Str × Int × List Str × List Str)) (schemes : List Str) (others strange kind space : Int) (nname : Str) (attrs : List (Str × Str)) (text : Str) (kids : List Vi.Node)
    (h : Sp.staysP.pre (rules, schemes, others, strange) (Vi.Node.mk kind space nname attrs text kids).name a) (hR : R (Sp.notStays a (rules, schemes, others, strange) (Vi.Node.mk kind space nname attrs text kids)) rules schemes others strange kind space nname attrs text kids) : policy_Policy_allows_1.vc R a rules schemes others strange kind space nname attrs text kids := ⟨h, hR⟩
theorem policy_Policy_allows.ok (R : Bool → Prop) (p : List (Str × Int × List Str × List Str) × List Str × Int × Int) (n : Vi.Node) (h : Sp.allowsN.pre p n) (hR : R (Sp.allowsN p n)) : policy_Policy_allows.vc R p n := by
  unfold policy_Policy_allows.vc
  unfold Sp.allowsN at hR
  rw [cond_dec]
  split
  · rename_i c; rw [if_pos c] at hR; exact hR
  rename_i c
  rw [if_neg c] at hR
  rw [cond_dec]
  split
  · rename_i c2
    rw [if_pos c2] at hR
    refine ⟨h, h.1, ?_⟩
    rw [Vi.Node.eta]
    cases k : decide (Sp.actP p n.space n.name = 1) with
    | true => rw [k] at hR; exact hR
    | false => rw [k] at hR; exact hR
  · rename_i c2; rw [if_neg c2] at hR; exact hR
theorem policy_Allows.ok (R : Bool → Prop) (p : List (Str × Int × List Str × List Str) × List Str × Int × Int) (l : List Vi.Node) (h : Sp.allowsP.pre p l) (hR : R (Sp.allowsP p l)) : policy_Allows.vc R p l := by
  refine ⟨h.1, ?_⟩
  unfold Sp.allowsP at hR
  rw [cond_ndec]
  split
  · rename_i c; rw [decide_eq_true c] at hR; exact ⟨h, hR⟩
  · rename_i c; rw [decide_eq_false c] at hR; exact hR

/- What may stand in a page, on: the document's answers. Plain theorems. -/

namespace Sp
theorem szN_eq (n : Vi.Node) : szN n = szL n.kids + 1 := by cases n; rw [szN]; rfl
theorem szN_eq' (n : Vi.Node) : szN n = 1 + szL n.kids := by rw [szN_eq]; omega
theorem szL_mem : ∀ {l : List Vi.Node} {n : Vi.Node}, n ∈ l → szN n ≤ szL l
  | x :: l, n, h => by
    rw [szL]
    rcases List.mem_cons.1 h with rfl | h
    · omega
    · have := szL_mem h; omega
theorem szL_lt {l : List Vi.Node} {n : Vi.Node} (h : n ∈ l) : szN n < szL l := by
  cases l with
  | nil => exact absurd h List.not_mem_nil
  | cons x l =>
    rw [szL]
    rcases List.mem_cons.1 h with rfl | h
    · omega
    · have := szL_mem h; omega
theorem okL_mem : ∀ {l : List Vi.Node} {n : Vi.Node}, okL l → n ∈ l → okN n
  | x :: l, n, h, hm => by
    rw [okL] at h
    rcases List.mem_cons.1 hm with rfl | hm
    · exact h.1
    · exact okL_mem h.2 hm
theorem okN_eq {n : Vi.Node} (h : okN n) : attrsOk n.attrs ∧ nodesOk n.kids := by
  cases n with
  | mk k s nm a t c => rw [okN] at h; exact ⟨h.1, h.2.1, h.2.2⟩
theorem fiN_eq (p : Pol) (n : Vi.Node) : fiN p n = if allowsN p n = false then (n, true) else fiL p n.kids := by cases n; rw [fiN]; rfl
end Sp
namespace Sp
abbrev rm2 (n : Vi.Node) (r : Int) : Int := r - 1 - (n.text.length : Int) / 16 - n.attrs.length
abbrev full (n : Vi.Node) (r : Int) : Prop := r - 1 < 0 ∨ 40 < (n.attrs.length : Int) ∨ 5000 < (n.text.length : Int) ∨ 100 < (n.name.length : Int)
abbrev anyLA (a : List (Str × Str)) : Bool := a.any (fun x => decide (100 < (x.1.length : Int) ∨ 2000 < (x.2.length : Int)))
theorem lgN_eq (n : Vi.Node) (r d : Int) : lgN n r d = if full n r then (true, r - 1) else if anyLA n.attrs = true then (true, rm2 n r) else lg n.kids (d + 1) (rm2 n r) := by
  cases n with
  | mk k s nm a t c =>
    rw [lgN]
    show (if _ then _ else _) = if (r - 1 < 0 ∨ 40 < (a.length : Int) ∨ 5000 < (t.length : Int) ∨ 100 < (nm.length : Int)) then (true, r - 1) else if anyLA a = true then (true, r - 1 - (t.length : Int) / 16 - a.length) else lg c (d + 1) (r - 1 - (t.length : Int) / 16 - a.length)
    generalize r - 1 - (t.length : Int) / 16 - a.length = r2
    unfold lg
    by_cases c1 : r - 1 < 0 ∨ 40 < (a.length : Int) ∨ 5000 < (t.length : Int) ∨ 100 < (nm.length : Int)
    · rw [if_pos c1, if_pos c1]
    rw [if_neg c1, if_neg c1]
    by_cases c2 : anyLA a = true
    · rw [if_pos c2, if_pos (.inl c2)]
    rw [if_neg c2]
    by_cases c3 : 60 < d + 1 ∨ 500 < (c.length : Int)
    · rw [if_pos c3, if_pos (.inr c3)]
    rw [if_neg c3, if_neg (fun h => h.elim c2 c3)]
    generalize lgL c r2 (d + 1) = z
    obtain ⟨z1, z2⟩ := z
    simp only
    cases z1 with
    | true => simp
    | false =>
      by_cases c4 : z2 < 0
      · simp [c4]
      · simp [c4]
mutual
theorem lgN_le : ∀ (n : Vi.Node) (r d : Int), (lgN n r d).2 ≤ r
  | .mk k s nm a t c, r, d => by
    have h := lgL_le c (r - 1 - (t.length : Int) / 16 - a.length) (d + 1)
    rw [lgN]
    split
    · simp only; omega
    split
    · simp only; omega
    split
    · simp only; omega
    · simp only; omega
theorem lgL_le : ∀ (l : List Vi.Node) (r d : Int), (lgL l r d).2 ≤ r
  | [], r, d => by rw [lgL]; exact Int.le_refl _
  | n :: l, r, d => by
    have h1 := lgN_le n r d
    have h2 := lgL_le l (lgN n r d).2 d
    rw [lgL]
    split <;> omega
end
theorem lg_le (l : List Vi.Node) (d r : Int) : (lg l d r).2 ≤ r := by
  have := lgL_le l r d
  unfold lg
  split
  · exact Int.le_refl _
  split
  · exact this
  · exact this
theorem lg_nonneg {l : List Vi.Node} {d r : Int} (h : (lg l d r).1 = false) : 0 ≤ (lg l d r).2 := by
  unfold lg at *
  split at h
  · cases h
  rename_i c
  rw [if_neg c]
  split at h
  · rename_i c2; rw [c2] at h; cases h
  · rename_i c2
    rw [if_neg c2]
    simp only [decide_eq_false_iff_not] at h
    simp only; omega
end Sp

theorem rectoplain_Large.ok (nn : Nat) (R : Bool → Int → Prop) (l : List Vi.Node) (depth room : Int) (h : Sp.lg.pre l depth room ∧ Sp.mLg l depth room < nn + 1) (hR : R (Sp.lg l depth room).1 (Sp.lg l depth room).2) : rectoplain_Large.vc R nn l depth room := by
  obtain ⟨⟨h1, h2, h3, h4⟩, h5⟩ := h
  unfold Sp.mLg at h5
  unfold Sp.lg at hR
  unfold rectoplain_Large.vc
  rw [cond_dec, cond_dec]
  split
  · rename_i c; rw [if_pos (.inl c)] at hR; exact hR
  rename_i c1
  split
  · rename_i c; rw [if_pos (.inr c)] at hR; exact hR
  rename_i c2
  rw [if_neg (fun h => h.elim c1 c2)] at hR
  have hT (z : Int) (hz : Sp.lgL l room depth = (true, z)) : R true z := by rw [hz, if_pos rfl] at hR; exact hR
  refine Lp_rule (fun v => ∃ (p : Nat) (r : Int), v = (depth, l, (l.length : Int), (p : Int), r, ()) ∧ p ≤ l.length ∧ -1000 ≤ r ∧ r ≤ room ∧ Sp.lgL (l.drop p) r depth = Sp.lgL l room depth) (fun v => l.length - v.2.2.2.1.toNat) ?_ ⟨0, room, rfl, Nat.zero_le _, h3, Int.le_refl _, rfl⟩
  rintro _ K ⟨p, r, rfl, hp, hr1, hr2, he⟩ hK
  simp only [rectoplain_Large.L0, cond_dec]
  split
  · rename_i c
    have hp' : p < l.length := by omega
    have hm : nth l (p : Int) (Vi.Node.mk 0 0 [] [] [] []) ∈ l := Sp.nth_mem hp'
    rw [drop_cons (d := Vi.Node.mk 0 0 [] [] [] []) hp', Sp.lgL] at he
    have hs := Sp.szL_mem hm
    rw [ix_iff]
    refine ⟨by omega, by rw [rg64]; omega, ?_⟩
    generalize nth l (p : Int) (Vi.Node.mk 0 0 [] [] [] []) = n at *
    rw [Sp.szN_eq'] at hs
    have hE := Sp.lgN_eq n r depth
    have hbad (z : Int) (hz : Sp.lgN n r depth = (true, z)) : R true z := hT z (by rw [← he, hz, if_pos rfl])
    split
    · rename_i c3; exact hbad _ (by rw [hE, if_pos (.inl c3)])
    rename_i c3
    split
    · rename_i c4; exact hbad _ (by rw [hE, if_pos (.inr (.inl c4))])
    rename_i c4
    split
    · rename_i c5; exact hbad _ (by rw [hE, if_pos (.inr (.inr (.inl c5)))])
    rename_i c5
    split
    · rename_i c6; exact hbad _ (by rw [hE, if_pos (.inr (.inr (.inr c6)))])
    rename_i c6
    rw [if_neg (fun h => h.elim c3 fun h => h.elim c4 fun h => h.elim c5 c6)] at hE
    simp only [dv_iff, rg64]
    refine ⟨by omega, by omega, by omega, ?_⟩
    have hr2b : -1000 ≤ Sp.rm2 n r ∧ Sp.rm2 n r ≤ room := by unfold Sp.rm2; omega
    show Lp _ (depth, l, (l.length : Int), (p : Int), n.attrs, (n.attrs.length : Int), 0, Sp.rm2 n r, n.kind, n.space, n.name, n.attrs, n.text, n.kids, ())
    generalize Sp.rm2 n r = r2 at *
    refine Lp_rule (fun v => ∃ q : Nat, v = (depth, l, (l.length : Int), (p : Int), n.attrs, (n.attrs.length : Int), (q : Int), r2, n.kind, n.space, n.name, n.attrs, n.text, n.kids, ()) ∧ q ≤ n.attrs.length ∧ Sp.anyLA (n.attrs.drop q) = Sp.anyLA n.attrs)
      (fun v => n.attrs.length - v.2.2.2.2.2.2.1.toNat) ?_ ⟨0, rfl, Nat.zero_le _, rfl⟩
    rintro _ K1 ⟨q, rfl, hq, ha⟩ hK1
    simp only [rectoplain_Large.L1, cond_dec]
    split
    · rename_i c7
      have hq' : q < n.attrs.length := by omega
      rw [drop_cons (d := ([], [])) hq'] at ha
      rw [ix_iff]
      refine ⟨by omega, ?_⟩
      unfold Sp.anyLA at ha
      rw [List.any_cons] at ha
      generalize nth n.attrs (q : Int) ([], []) = x at *
      split
      · rename_i c8
        refine hbad _ ?_
        rw [hE, if_pos]
        unfold Sp.anyLA
        rw [← ha, decide_eq_true (.inl c8)]; rfl
      rename_i c8
      split
      · rename_i c9
        refine hbad _ ?_
        rw [hE, if_pos]
        unfold Sp.anyLA
        rw [← ha, decide_eq_true (.inr c9)]; rfl
      rename_i c9
      rw [decide_eq_false (fun h => h.elim c8 c9), Bool.false_or] at ha
      exact ⟨by rw [rg64]; omega, hK1 _ ⟨q + 1, rfl, by omega, ha⟩ (by simp; omega)⟩
    · rename_i c7
      rw [drop_end (by omega)] at ha
      have ha' : Sp.anyLA n.attrs = false := ha.symm
      rw [ha', if_neg (by decide)] at hE
      have hle := Sp.lg_le n.kids (depth + 1) r2
      have hnn := @Sp.lg_nonneg n.kids (depth + 1) r2
      refine ⟨by rw [rg64]; omega, ⟨⟨by omega, by omega, by omega, by omega⟩, by unfold Sp.mLg; omega⟩, ?_⟩
      rw [← hE] at hle hnn ⊢
      generalize Sp.lgN n r depth = z at *
      obtain ⟨z1, z2⟩ := z
      simp only at hle hnn he ⊢
      cases z1 with
      | true => exact hbad _ rfl
      | false =>
        have := hnn rfl
        refine ⟨by rw [rg64]; omega, hK _ ⟨p + 1, z2, rfl, by omega, by omega, by omega, ?_⟩ (by simp; omega)⟩
        rw [← he, if_neg (by decide)]
  · rename_i c
    rw [drop_end (by omega), Sp.lgL] at he
    rw [← he, if_neg (by simp)] at hR
    exact hR


theorem policy_Policy_first.ok (nn : Nat) (R : Vi.Node → Bool → Prop) (p : List (Str × Int × List Str × List Str) × List Str × Int × Int) (l : List Vi.Node) (h : Sp.fiL.pre p l ∧ Sp.mFi p l < nn + 1) (hR : R (Sp.fiL p l).1 (Sp.fiL p l).2) : policy_Policy_first.vc R nn p l := by
  obtain ⟨⟨hp, hl1, hl2⟩, hs⟩ := h
  unfold Sp.mFi at hs
  obtain ⟨rs, sc, o, st⟩ := p
  refine Lp_rule (fun v => ∃ q : Nat, v = (l, (l.length : Int), (q : Int), rs, sc, o, st, 0, 0, [], [], [], [], ()) ∧ q ≤ l.length ∧ Sp.fiL (rs, sc, o, st) (l.drop q) = Sp.fiL (rs, sc, o, st) l) (fun v => l.length - v.2.2.1.toNat) ?_ ⟨0, rfl, Nat.zero_le _, rfl⟩
  rintro _ K ⟨q, rfl, hq, he⟩ hK
  simp only [policy_Policy_first.L0, Vi.Node.eta]
  rw [cond_dec]
  split
  · have hq' : q < l.length := by omega
    have hm := Sp.nth_mem (d := Vi.Node.mk 0 0 [] [] [] []) hq'
    rw [drop_cons (d := Vi.Node.mk 0 0 [] [] [] []) hq', Sp.fiL] at he
    have hz := Sp.szL_lt hm
    generalize nth l (q : Int) (Vi.Node.mk 0 0 [] [] [] []) = n at *
    rw [Sp.szN_eq] at hz
    obtain ⟨ho1, ho2⟩ := Sp.okN_eq (Sp.okL_mem hl2 hm)
    have hf := Sp.fiN_eq (rs, sc, o, st) n
    refine ⟨by rw [ix_iff]; omega, ⟨hp, ho1⟩, ?_⟩
    cases c : Sp.allowsN (rs, sc, o, st) n with
    | false =>
      rw [c, if_pos rfl] at hf
      rw [hf, if_pos rfl] at he
      rw [← he] at hR
      exact hR
    | true =>
      rw [c, if_neg (by simp)] at hf
      rw [hf] at he
      clear hf
      refine ⟨⟨⟨hp, ho2⟩, by unfold Sp.mFi; omega⟩, ?_⟩
      generalize Sp.fiL (rs, sc, o, st) n.kids = z at *
      cases c2 : z.2 with
      | true =>
        rw [c2, if_pos rfl] at he
        rw [← he, c2] at hR
        exact hR
      | false =>
        rw [c2, if_neg (by simp)] at he
        exact ⟨by rw [rg64]; omega, hK _ ⟨q + 1, rfl, by omega, he⟩ (by simp; omega)⟩
  · have : q = l.length := by omega
    subst this
    rw [List.drop_length, Sp.fiL] at he
    rw [← he] at hR
    exact hR

namespace Sp
theorem nameB_more (x : Int) : nameB x = (smallB x || decide (48 ≤ x ∧ x ≤ 58) || decide (x = 45)) := by
  unfold nameB digB
  cases smallB x with
  | true => rfl
  | false =>
    simp only [Bool.false_or]
    by_cases h1 : 48 ≤ x ∧ x ≤ 57
    · rw [decide_eq_true h1, decide_eq_true (show 48 ≤ x ∧ x ≤ 58 by omega)]; rfl
    · rw [decide_eq_false h1]
      by_cases h2 : x = 45
      · rw [decide_eq_true h2]; simp
      · rw [decide_eq_false h2]
        by_cases h3 : x = 58
        · rw [decide_eq_true h3, decide_eq_true (show 48 ≤ x ∧ x ≤ 58 by omega)]; rfl
        · rw [decide_eq_false h3, decide_eq_false (show ¬ (48 ≤ x ∧ x ≤ 58) by omega)]; rfl
/-- May a byte stand there in a name? -/
def atB (p : Nat) (x : Int) : Bool := if p = 0 then smallB x else nameB x
theorem name_bad {s : Str} {p : Nat} (h : p < s.length) (hx : atB p ((nth s (p : Int) 0).toNat : Int) = false) : nameS s = false := by
  cases s with
  | nil => simp at h
  | cons x t =>
    show (decide ((x :: t).length ≤ 24) && smallB (x.toNat : Int) && allN (x :: t)) = false
    unfold atB at hx
    split at hx
    · rename_i c
      subst c
      have : smallB (x.toNat : Int) = false := hx
      rw [this, Bool.and_false, Bool.false_and]
    · have : allN (x :: t) = false := by
        unfold allN
        rw [List.all_eq_false]
        exact ⟨_, nth_mem (d := 0) h, by rw [hx]; simp⟩
      rw [this, Bool.and_false]
end Sp

theorem rectoref06_Name.ok (R : Bool → Prop) (s : Str) (h : Sp.nameS.pre s) (hR : R (Sp.nameS s)) : rectoref06_Name.vc R s := by
  have h : s.length ≤ 9223372036854775807 := h
  refine Lp_rule (fun v => ∃ p : Nat, v = (s, (p : Int), ()) ∧ p ≤ s.length ∧ (∀ q : Nat, q < p → Sp.atB q ((nth s (q : Int) 0).toNat : Int) = true)) (fun v => s.length - v.2.1.toNat) ?_ ⟨0, rfl, Nat.zero_le _, fun q hq => by omega⟩
  rintro _ K ⟨p, rfl, hp, hall⟩ hK
  simp only [rectoref06_Name.L0, cond_dec, cond_ndec]
  split
  · rename_i c1
    have hp' : p < s.length := by omega
    have bad : Sp.atB p ((nth s (p : Int) 0).toNat : Int) = false → R false := fun hb => by
      rw [Sp.name_bad hp' hb] at hR; exact hR
    have good : Sp.atB p ((nth s (p : Int) 0).toNat : Int) = true → Rg IntKind.i64 ((p : Int) + 1) ∧ K (s, (p : Int) + 1, ()) := fun hb => by
      refine ⟨by rw [rg64]; omega, hK _ ⟨p + 1, rfl, by omega, fun q hq => ?_⟩ (by simp only; omega)⟩
      by_cases c : q = p
      · subst c; exact hb
      · exact hall q (by omega)
    have hix : Ix (p : Int) s.length := by rw [ix_iff]; omega
    unfold Sp.atB at bad good
    rw [Sp.nameB_more] at bad good
    unfold Sp.smallB at bad good
    generalize ((nth s (p : Int) 0).toNat : Int) = x at *
    have fin (b : Bool) (hb : (if p = 0 then decide (97 ≤ x ∧ x ≤ 122) else decide (97 ≤ x ∧ x ≤ 122) || decide (48 ≤ x ∧ x ≤ 58) || decide (x = 45)) = b) : (b = false → R false) ∧ (b = true → Rg IntKind.i64 ((p : Int) + 1) ∧ K (s, (p : Int) + 1, ())) :=
      ⟨fun e => bad (hb.trans e), fun e => good (hb.trans e)⟩
    clear bad good
    have hz : ((p : Int) = 0) ↔ p = 0 := by omega
    simp only [hz] at *
    rcases Nat.eq_zero_or_pos p with q5 | q5p
    · subst q5
      by_cases q1 : 97 ≤ x <;> by_cases q2 : x ≤ 122 <;> by_cases q3 : 48 ≤ x <;> by_cases q4 : x ≤ 58 <;> by_cases q6 : x = 45 <;> first
      | (exfalso; omega)
      | (simp only [q1, q2, q3, q4, q6, eq_self, and_self, and_true, and_false, true_and, false_and, decide_true, decide_false, Bool.or_false, Bool.or_true, Bool.false_or, Bool.true_or, if_true, if_false, not_true_eq_false, not_false_eq_true] at fin ⊢
         first
           | exact ⟨hix, (fin _ rfl).1 rfl⟩
           | exact ⟨hix, (fin _ rfl).2 rfl⟩
           | exact ⟨hix, hix, (fin _ rfl).1 rfl⟩
           | exact ⟨hix, hix, (fin _ rfl).2 rfl⟩
           | exact ⟨hix, hix, hix, (fin _ rfl).1 rfl⟩
           | exact ⟨hix, hix, hix, (fin _ rfl).2 rfl⟩
           | exact ⟨hix, hix, hix, hix, (fin _ rfl).1 rfl⟩
           | exact ⟨hix, hix, hix, hix, (fin _ rfl).2 rfl⟩
           | exact ⟨hix, hix, hix, hix, hix, (fin _ rfl).1 rfl⟩
           | exact ⟨hix, hix, hix, hix, hix, (fin _ rfl).2 rfl⟩)
    · have q5 : ¬ p = 0 := by omega
      by_cases q1 : 97 ≤ x <;> by_cases q2 : x ≤ 122 <;> by_cases q3 : 48 ≤ x <;> by_cases q4 : x ≤ 58 <;> by_cases q6 : x = 45 <;> first
      | (exfalso; omega)
      | (simp only [q1, q2, q3, q4, q5, q6, eq_self, and_self, and_true, and_false, true_and, false_and, decide_true, decide_false, Bool.or_false, Bool.or_true, Bool.false_or, Bool.true_or, if_true, if_false, not_true_eq_false, not_false_eq_true] at fin ⊢
         first
           | exact ⟨hix, (fin _ rfl).1 rfl⟩
           | exact ⟨hix, (fin _ rfl).2 rfl⟩
           | exact ⟨hix, hix, (fin _ rfl).1 rfl⟩
           | exact ⟨hix, hix, (fin _ rfl).2 rfl⟩
           | exact ⟨hix, hix, hix, (fin _ rfl).1 rfl⟩
           | exact ⟨hix, hix, hix, (fin _ rfl).2 rfl⟩
           | exact ⟨hix, hix, hix, hix, (fin _ rfl).1 rfl⟩
           | exact ⟨hix, hix, hix, hix, (fin _ rfl).2 rfl⟩
           | exact ⟨hix, hix, hix, hix, hix, (fin _ rfl).1 rfl⟩
           | exact ⟨hix, hix, hix, hix, hix, (fin _ rfl).2 rfl⟩)
  · have : p = s.length := by omega
    subst this
    split
    · rename_i c
      cases s with
      | nil => simp at c
      | cons x t =>
        have hR : R (decide ((x :: t).length ≤ 24) && Sp.smallB (x.toNat : Int) && Sp.allN (x :: t)) := hR
        have h0 : Sp.smallB (x.toNat : Int) = true := hall 0 (by simp)
        have h1 : Sp.allN (x :: t) = true := by
          unfold Sp.allN
          rw [List.all_eq_true]
          intro y hy
          obtain ⟨q, hq, rfl⟩ := List.mem_iff_getElem.1 hy
          have := hall q hq
          rw [nth_lt hq] at this
          unfold Sp.atB at this
          split at this
          · unfold Sp.nameB; rw [this]; rfl
          · exact this
        rw [h0, h1, Bool.and_true, Bool.and_true] at hR
        by_cases c3 : (x :: t).length ≤ 24
        · rw [decide_eq_true c3] at hR
          rw [decide_eq_true (by omega)]; exact hR
        · rw [decide_eq_false c3] at hR
          rw [decide_eq_false (by omega)]; exact hR
    · rename_i c
      cases s with
      | nil => exact hR
      | cons x t => simp at c
theorem rectoref07_Group.ok (R : List Str → Prop) (g : Int) (hR : R (Sp.groupL g)) : rectoref07_Group.vc R g := by
  unfold rectoref07_Group.vc
  unfold Sp.groupL at hR
  have step {c : Prop} [Decidable c] {a b : List Str} {X : Prop} (h : R (if c then a else b)) (f : R b → X) : bif decide c then R a else X := by
    rw [cond_dec]
    split
    · rename_i q; rw [if_pos q] at h; exact h
    · rename_i q; rw [if_neg q] at h; exact f h
  iterate 17 refine step hR fun hR => ?_
  exact hR
namespace Sp
def ofF : Nat → Int → Str → Int
  | 0, _, _ => 0
  | k + 1, g, s => if s ∈ groupL g then g else ofF k (g + 1) s
theorem lk_none : ∀ {t : List (Str × Int)} {s : Str}, (∀ x, x ∈ t → x.1 ≠ s) → lkT t s = 0
  | [], _, _ => rfl
  | (k, v) :: r, s, h => by
    rw [lkT, if_neg (fun e => h (k, v) (by simp) e.symm)]
    exact lk_none (fun x hx => h x (by simp [hx]))
theorem of_all : ∀ x, x ∈ tagT → groupN x.1 = ofF 17 1 x.1 := by decide +kernel
theorem in_all : ∀ g : Nat, g < 18 → ∀ s, s ∈ groupL (g : Int) → s ∈ tagT.map (·.1) := by
  have h : ((List.range 18).all fun g => (groupL (g : Int)).all fun s => decide (s ∈ tagT.map (·.1))) = true := by decide +kernel
  intro g hg s hs
  rw [List.all_eq_true] at h
  have := h g (List.mem_range.2 hg)
  rw [List.all_eq_true] at this
  exact of_decide_eq_true (this s hs)
theorem of_zero {s : Str} : ∀ (k : Nat) (g : Nat), g + k = 18 → (∀ i : Nat, i < 18 → s ∉ groupL (i : Int)) → ofF k (g : Int) s = 0
  | 0, _, _, _ => rfl
  | k + 1, g, hk, h => by
    rw [ofF, if_neg (h g (by omega)), show ((g : Int) + 1) = ((g + 1 : Nat) : Int) by omega]
    exact of_zero k (g + 1) (by omega) h
theorem group_of (s : Str) : groupN s = ofF 17 1 s := by
  by_cases h : s ∈ tagT.map (·.1)
  · obtain ⟨x, hx, rfl⟩ := List.mem_map.1 h
    exact of_all x hx
  · have h0 : groupN s = 0 := lk_none (fun x hx e => h (List.mem_map.2 ⟨x, hx, e⟩))
    have h1 := of_zero (s := s) 17 1 rfl (fun i hi hm => h (in_all i hi s hm))
    rw [h0]
    exact h1.symm
theorem groupL_len (g : Int) : (groupL g).length ≤ 100 := by
  have step {c : Prop} [Decidable c] {a b : List Str} (ha : a.length ≤ 100) (hb : b.length ≤ 100) : (if c then a else b).length ≤ 100 := by split <;> assumption
  unfold groupL
  iterate 17 refine step (by decide) ?_
  decide
end Sp
theorem rectoref07_Of.ok (R : Int → Prop) (name : Str) (hR : R (Sp.groupN name)) : rectoref07_Of.vc R name := by
  rw [Sp.group_of] at hR
  refine Lp_rule (fun v => ∃ k g : Nat, v = (name, (g : Int), ()) ∧ g + k = 18 ∧ Sp.ofF k (g : Int) name = Sp.ofF 17 1 name) (fun v => 18 - v.2.1.toNat) ?_ ⟨17, 1, rfl, rfl, rfl⟩
  rintro _ K ⟨k, g, rfl, hk, he⟩ hK
  simp only [rectoref07_Of.L0, cond_dec]
  split
  · rename_i c
    obtain ⟨k, rfl⟩ : ∃ j, k = j + 1 := ⟨k - 1, by omega⟩
    rw [Sp.ofF] at he
    have hl := Sp.groupL_len (g : Int)
    refine ⟨by unfold Sp.inS.pre; omega, ?_⟩
    unfold Sp.inS
    rw [cond_dec]
    split
    · rename_i c2
      rw [if_pos c2] at he
      rw [← he] at hR; exact hR
    · rename_i c2
      rw [if_neg c2] at he
      exact ⟨by rw [rg64]; omega, hK _ ⟨k, g + 1, rfl, by omega, he⟩ (by simp only; omega)⟩
  · have : k = 0 := by omega
    subst this
    rw [Sp.ofF] at he
    rw [← he] at hR; exact hR
theorem rectoref16_times.ok (R : Int → Prop) (l : List Str) (name : Str) (h : Sp.timesN.pre l name) (hR : R (Sp.timesN l name)) : rectoref16_times.vc R l name := by
  have h : l.length ≤ 1000000 := h
  refine Lp_rule (fun v => ∃ p : Nat, v = (name, Sp.timesN (l.take p) name, l, (l.length : Int), (p : Int), ()) ∧ p ≤ l.length) (fun v => l.length - v.2.2.2.2.1.toNat) ?_ ⟨0, rfl, Nat.zero_le _⟩
  rintro _ K ⟨p, rfl, hp⟩ hK
  simp only [rectoref16_times.L0, cond_dec]
  have hle : 0 ≤ Sp.timesN (l.take p) name ∧ Sp.timesN (l.take p) name ≤ p := by
    unfold Sp.timesN
    have := List.length_filter_le (fun y => decide (y = name)) (l.take p)
    rw [List.length_take] at this
    omega
  split
  · have hp' : p < l.length := by omega
    have ht : Sp.timesN (l.take (p + 1)) name = Sp.timesN (l.take p) name + (if nth l (p : Int) [] = name then 1 else 0) := by
      unfold Sp.timesN
      rw [take_succ (d := []) hp', List.filter_append, List.length_append, List.filter_cons, List.filter_nil]
      split
      · rename_i c; rw [if_pos (of_decide_eq_true c)]; simp
      · rename_i c; rw [if_neg (fun e => c (decide_eq_true e))]; simp
    refine ⟨by rw [ix_iff]; omega, ?_⟩
    split
    · rename_i c
      rw [if_pos c] at ht
      exact ⟨by rw [rg64]; omega, by rw [rg64]; omega, hK _ ⟨p + 1, by rw [ht]; rfl, by omega⟩ (by simp only; omega)⟩
    · rename_i c
      rw [if_neg c] at ht
      exact ⟨by rw [rg64]; omega, hK _ ⟨p + 1, by rw [ht, Int.add_zero]; rfl, by omega⟩ (by simp only; omega)⟩
  · rw [List.take_of_length_le (by omega)]
    exact hR
namespace Sp
theorem twF_iff : ∀ (l pre : List Str), twF pre l = true ↔ ∃ i : Nat, i < l.length ∧ ∃ x, l[i]? = some x ∧ (x ∈ pre ∨ x ∈ l.take i)
  | [], pre => ⟨fun h => absurd h (by simp [twF]), fun ⟨i, h, _⟩ => absurd h (by simp)⟩
  | y :: l, pre => by
    rw [twF]
    split
    · rename_i c
      exact ⟨fun _ => ⟨0, by simp, y, rfl, .inl c⟩, fun _ => rfl⟩
    · rename_i c
      rw [twF_iff l (pre ++ [y])]
      constructor
      · rintro ⟨i, hi, x, hx, hm⟩
        refine ⟨i + 1, by simp; omega, x, by simpa using hx, ?_⟩
        rcases hm with hm | hm
        · rcases List.mem_append.1 hm with hm | hm
          · exact .inl hm
          · exact .inr (by simp only [List.mem_singleton] at hm; simp [hm])
        · exact .inr (by simp [hm])
      · rintro ⟨i, hi, x, hx, hm⟩
        cases i with
        | zero =>
          simp only [List.getElem?_cons_zero, Option.some.injEq] at hx
          subst hx
          rcases hm with hm | hm
          · exact absurd hm c
          · simp at hm
        | succ i =>
          refine ⟨i, by simpa using hi, x, by simpa using hx, ?_⟩
          rcases hm with hm | hm
          · exact .inl (List.mem_append.2 (.inl hm))
          · simp only [List.take_succ_cons, List.mem_cons] at hm
            rcases hm with hm | hm
            · exact .inl (List.mem_append.2 (.inr (by simp [hm])))
            · exact .inr hm
theorem times_mem {l : List Str} {x : Str} : x ∈ l ↔ 0 < timesN l x := by
  unfold timesN
  constructor
  · intro h
    have : x ∈ l.filter (fun y => decide (y = x)) := List.mem_filter.2 ⟨h, by simp⟩
    have := List.length_pos_of_mem this
    omega
  · intro h
    obtain ⟨y, hy⟩ := List.exists_mem_of_length_pos (l := l.filter (fun y => decide (y = x))) (by omega)
    obtain ⟨h1, h2⟩ := List.mem_filter.1 hy
    rw [← of_decide_eq_true h2]; exact h1
theorem times_app (a b : List Str) (x : Str) : timesN (a ++ b) x = timesN a x + timesN b x := by
  unfold timesN; rw [List.filter_append, List.length_append]; omega
theorem times_cons (a : Str) (b : List Str) (x : Str) : timesN (a :: b) x = (if a = x then 1 else 0) + timesN b x := by
  unfold timesN
  rw [List.filter_cons]
  split
  · rename_i c; rw [if_pos (of_decide_eq_true c), List.length_cons]; omega
  · rename_i c; rw [if_neg (fun e => c (decide_eq_true e))]; omega
theorem times_nonneg (a : List Str) (x : Str) : 0 ≤ timesN a x := by unfold timesN; omega
theorem twice_times (l : List Str) : twiceL l = true ↔ ∃ x, x ∈ l ∧ 1 < timesN l x := by
  unfold twiceL
  rw [twF_iff]
  constructor
  · rintro ⟨i, hi, x, hx, hm⟩
    rcases hm with hm | hm
    · exact absurd hm List.not_mem_nil
    · refine ⟨x, List.mem_of_getElem? hx, ?_⟩
      have e : l = l.take i ++ (x :: l.drop (i + 1)) := by
        have h2 := drop_cons (d := ([] : Str)) hi
        have h3 : nth l (i : Int) [] = x := by rw [nth_lt hi]; rw [List.getElem?_eq_getElem hi] at hx; exact Option.some.inj hx
        rw [h3] at h2
        rw [← h2, List.take_append_drop]
      rw [e, times_app, times_cons, if_pos rfl]
      have := times_mem.1 hm
      have := times_nonneg (l.drop (i + 1)) x
      omega
  · rintro ⟨x, hm, ht⟩
    have key : ∀ (l : List Str), 1 < timesN l x → ∃ i : Nat, i < l.length ∧ l[i]? = some x ∧ x ∈ l.take i := by
      intro l
      induction l with
      | nil => intro h; unfold timesN at h; simp at h
      | cons a b ih =>
        intro h
        rw [times_cons] at h
        by_cases c : a = x
        · rw [if_pos c] at h
          obtain ⟨j, hj, he⟩ := List.mem_iff_getElem.1 (times_mem.2 (show 0 < timesN b x by omega))
          exact ⟨j + 1, by simp; omega, by simp [List.getElem?_eq_getElem hj, he], by simp [c]⟩
        · rw [if_neg c] at h
          obtain ⟨j, hj, he, h3⟩ := ih (by omega)
          exact ⟨j + 1, by simp; omega, by simpa using he, by simp [h3]⟩
    obtain ⟨i, hi, hx, h3⟩ := key l ht
    exact ⟨i, hi, x, hx, .inr h3⟩
theorem twice_of {l : List Str} {p : Nat} (h : p < l.length) (ht : 1 < timesN l (nth l (p : Int) [])) : twiceL l = true :=
  (twice_times l).2 ⟨_, nth_mem h, ht⟩
/-- What is wrong with a rule but for its names. -/
def lastR (r : Rule) : Bool := nameS r.1 && decide (1 ≤ r.2.1) && decide (r.2.1 ≤ 3) && (!decide (r.2.1 = 1) || !goneN r.1)
theorem right_last (r : Rule) : rightR r = (!anyNN (namesR r) && lastR r) := by
  unfold rightR lastR
  cases nameS r.1 <;> cases anyNN (namesR r) <;> rfl
theorem lk_range : ∀ (t : List (Str × Int)) (s : Str), (∀ x, x ∈ t → 0 ≤ x.2 ∧ x.2 ≤ 17) → 0 ≤ lkT t s ∧ lkT t s ≤ 17
  | [], _, _ => by rw [lkT]; omega
  | (k, v) :: r, s, h => by
    rw [lkT]
    split
    · exact h (k, v) (by simp)
    · exact lk_range r s (fun x hx => h x (by simp [hx]))
theorem group_range (s : Str) : 0 ≤ groupN s ∧ groupN s ≤ 17 := lk_range _ _ (by decide +kernel)
end Sp
theorem rectoref16_one.ok (R : Int → Prop) (r : Str × Int × List Str × List Str) (h : Sp.oneR.pre r) (hR : R (Sp.oneR r)) : rectoref16_one.vc R r := by
  have hn := Sp.strs_names h
  obtain ⟨h1, h2, h3, _⟩ := h
  refine ⟨by rw [gr_iff]; omega, by rw [gr_iff]; omega, ?_⟩
  have hN : r.2.2.1 ++ r.2.2.2 = Sp.namesR r := rfl
  rw [hN]
  unfold Sp.oneR at hR
  rw [Sp.right_last] at hR
  unfold Sp.lastR Sp.goneN at hR
  have hg := Sp.group_range r.1
  have hB : Sp.big = 140737488351232 := rfl
  generalize Sp.namesR r = all at *
  have hal : all.length ≤ 1000000 := hn.1
  obtain ⟨rn, ra, rt, rl⟩ := r
  simp only at hR h1 hg ⊢
  refine Lp_rule (fun v => ∃ p : Nat, v = (if (all.take p).any Sp.notName = true then 4 else 0, (all.length : Int), (p : Int), rn, ra, rt, rl, all, ()) ∧ p ≤ all.length ∧ (∀ q : Nat, q < p → ¬ 1 < Sp.timesN all (nth all (q : Int) []))) (fun v => all.length - v.2.2.1.toNat) ?_ ⟨0, rfl, Nat.zero_le _, fun q hq => by omega⟩
  rintro _ K ⟨p, rfl, hp, hall⟩ hK
  simp only [rectoref16_one.L0]
  rw [cond_dec]
  split
  · have hp' : p < all.length := by omega
    have ht := take_succ (d := ([] : Str)) hp'
    have hx := hn.2 _ (Sp.nth_mem (d := ([] : Str)) hp')
    refine ⟨by rw [ix_iff]; omega, hn.1, ?_⟩
    rw [cond_dec]
    split
    · rename_i c
      rw [if_pos (Sp.twice_of hp' c)] at hR
      exact hR
    · rename_i c
      have hall' : ∀ q : Nat, q < p + 1 → ¬ 1 < Sp.timesN all (nth all (q : Int) []) := fun q hq => by
        by_cases cq : q = p
        · subst cq; exact c
        · exact hall q (by omega)
      generalize nth all (p : Int) [] = x at *
      refine ⟨by unfold Sp.nameS.pre; have := hx; omega, ?_⟩
      have hany : (all.take (p + 1)).any Sp.notName = ((all.take p).any Sp.notName || Sp.notName x) := by rw [ht, List.any_append]; simp
      unfold Sp.notName at hany
      cases cn : Sp.nameS x with
      | false =>
        rw [cn, Bool.not_false, Bool.or_true] at hany
        refine ⟨by rw [rg64]; omega, hK _ ⟨p + 1, ?_, by omega, hall'⟩ (by simp only; omega)⟩
        show _ = (if (all.take (p + 1)).any (fun s => !Sp.nameS s) = true then (4 : Int) else 0, _)
        rw [hany, if_pos rfl]; rfl
      | true =>
        rw [cn, Bool.not_true, Bool.or_false] at hany
        refine ⟨by rw [rg64]; omega, hK _ ⟨p + 1, ?_, by omega, hall'⟩ (by simp only; omega)⟩
        show (if (all.take p).any (fun s => !Sp.nameS s) = true then (4 : Int) else 0, _) = (if (all.take (p + 1)).any (fun s => !Sp.nameS s) = true then (4 : Int) else 0, _)
        rw [hany]; rfl
  · have hpe : p = all.length := by omega
    subst hpe
    have htw : Sp.twiceL all = false := by
      cases c : Sp.twiceL all with
      | false => rfl
      | true =>
        obtain ⟨x, hx, hlt⟩ := (Sp.twice_times all).1 c
        obtain ⟨q, hq, rfl⟩ := List.mem_iff_getElem.1 hx
        have := hall q hq
        rw [nth_lt hq] at this
        exact absurd hlt this
    rw [htw, if_neg (by simp)] at hR
    rw [List.take_length]
    have hR : R (if (!all.any Sp.notName && (Sp.nameS rn && decide (1 ≤ ra) && decide (ra ≤ 3) && (!decide (ra = 1) || !(decide (Sp.groupN rn = 15) || decide (Sp.groupN rn = 13) || decide (Sp.groupN rn = 14) || decide (Sp.groupN rn = 16) || decide (Sp.groupN rn = 1) || decide (Sp.groupN rn = 17) || decide (rn = [105, 109, 97, 103, 101]))))) = true then 0 else 4) := hR
    have hpre : Sp.nameS.pre rn := by unfold Sp.nameS.pre; omega
    generalize Sp.groupN rn = g at *
    generalize all.any Sp.notName = an at *
    generalize Sp.nameS rn = ns at *
    generalize decide (rn = [105, 109, 97, 103, 101]) = im at *
    simp only [cond_dec, cond_ndec]
    cases ns with
    | false =>
      simp only [Bool.false_and, Bool.and_false, Bool.false_eq_true, if_false] at hR
      repeat' split
      all_goals exact ⟨hpre, hR⟩
    | true =>
      simp only [Bool.true_and] at hR
      by_cases q1 : ra < 1
      · rw [decide_eq_false (show ¬ 1 ≤ ra by omega)] at hR
        simp only [Bool.false_and, Bool.and_false, Bool.false_eq_true, if_false] at hR
        repeat' split
        all_goals first | exact ⟨hpre, hR⟩ | (exfalso; omega)
      · by_cases q2 : 3 < ra
        · rw [decide_eq_false (show ¬ ra ≤ 3 by omega)] at hR
          simp only [Bool.false_and, Bool.and_false, Bool.false_eq_true, if_false] at hR
          simp only [q1, q2, if_true, if_false]
          repeat' split
          all_goals exact ⟨hpre, hR⟩
        · rw [decide_eq_true (show 1 ≤ ra by omega), decide_eq_true (show ra ≤ 3 by omega)] at hR
          simp only [Bool.true_and] at hR
          simp only [q1, q2, if_false]
          by_cases q3 : ra = 1
          · rw [decide_eq_true q3] at hR
            simp only [Bool.not_true, Bool.false_or] at hR
            simp only [q3, if_true]
            by_cases g1 : g = 1
            · subst g1
              simp at hR ⊢
              exact ⟨hpre, hR⟩
            · by_cases g2 : g < 13
              · have e : (decide (g = 15) || decide (g = 13) || decide (g = 14) || decide (g = 16) || decide (g = 1) || decide (g = 17)) = false := by
                  rw [decide_eq_false (by omega), decide_eq_false (by omega), decide_eq_false (by omega), decide_eq_false (by omega), decide_eq_false (by omega), decide_eq_false (by omega)]; rfl
                rw [e, Bool.false_or] at hR
                simp only [g1, g2, if_false, if_true]
                cases im <;> cases an <;> exact ⟨hpre, hR⟩
              · have e : (decide (g = 15) || decide (g = 13) || decide (g = 14) || decide (g = 16) || decide (g = 1) || decide (g = 17)) = true := by
                  have : g = 13 ∨ g = 14 ∨ g = 15 ∨ g = 16 ∨ g = 17 := by omega
                  rcases this with rfl | rfl | rfl | rfl | rfl <;> rfl
                rw [e, Bool.true_or] at hR
                simp only [g1, g2, show ¬ 17 < g by omega, if_false]
                simp at hR ⊢
                exact ⟨hpre, hR⟩
          · rw [decide_eq_false q3] at hR
            simp only [Bool.not_false, Bool.true_or, Bool.and_true] at hR
            simp only [q3, if_false]
            have hR : R (if an = true then 4 else 0) := by
              cases an <;> exact hR
            repeat' split
            all_goals first | exact ⟨hpre, hR⟩ | (simp_all)

/- What may stand in a page: the laws. Plain theorems. -/

namespace Sp
def pnames : List Str := [[112], [100, 105, 118], [104, 49], [104, 50], [104, 51], [117, 108], [111, 108], [108, 105], [98, 108, 111, 99, 107, 113, 117, 111, 116, 101], [112, 114, 101], [98], [105], [101, 109], [115, 116, 114, 111, 110, 103], [117], [99, 111, 100, 101], [98, 114], [104, 114], [115, 112, 97, 110], [116, 97, 98, 108, 101], [99, 97, 112, 116, 105, 111, 110], [116, 98, 111, 100, 121], [116, 104, 101, 97, 100], [116, 114], [116, 100], [116, 104]]
def kept1 (x : Str) : Rule := (x, 1, [], [])
theorem plain_eq : plainP = (pnames.map kept1 ++ plainP.1.drop 26, plainP.2.1, 2, 3) := rfl
theorem polOk_plain : polOk plainP := by unfold polOk strOk ruleOk strOk; decide +kernel
theorem twF_snoc (x : Str) : ∀ (l pre : List Str), twF pre (l ++ [x]) = (twF pre l || decide (x ∈ pre ++ l))
  | [], pre => by
    rw [List.nil_append, twF, twF, twF, List.append_nil, Bool.false_or]
    split
    · rename_i c; rw [decide_eq_true c]
    · rename_i c; rw [decide_eq_false c]
  | y :: l, pre => by
    rw [List.cons_append, twF, twF]
    split
    · rfl
    · rw [twF_snoc x l (pre ++ [y]), List.append_assoc]; rfl
theorem twice_snoc (l : List Str) (x : Str) : twiceL (l ++ [x]) = (twiceL l || decide (x ∈ l)) := by
  unfold twiceL; rw [twF_snoc]; rfl
end Sp
theorem policy_Plain.ok (R : List (Str × Int × List Str × List Str) × List Str × Int × Int → Prop) (hR : R Sp.plainP) : policy_Plain.vc R := by
  rw [Sp.plain_eq] at hR
  refine Lp_rule (fun v => ∃ p : Nat, v = (((26 : Nat) : Int), (p : Int), [], [], 0, 0, (Sp.pnames.take p).map Sp.kept1, Sp.pnames, ()) ∧ p ≤ 26) (fun v => 26 - v.2.1.toNat) ?_ ⟨0, rfl, by omega⟩
  rintro _ K ⟨p, rfl, hp⟩ hK
  simp only [policy_Plain.L0]
  have hl : Sp.pnames.length = 26 := by decide
  have hm : ((Sp.pnames.take p).map Sp.kept1).length = p := by rw [List.length_map, List.length_take]; omega
  rw [cond_dec]
  split
  · have hp' : p < Sp.pnames.length := by omega
    refine ⟨by rw [ix_iff]; omega, by rw [gr_iff, hm]; omega, by rw [rg64]; omega, hK _ ⟨p + 1, ?_, by omega⟩ (by simp only; omega)⟩
    rw [take_succ (d := []) hp', List.map_append]; rfl
  · have : p = 26 := by omega
    subst this
    refine ⟨by rw [gr_iff, hm]; omega, ?_⟩
    rw [List.take_of_length_le (by omega)]
    exact hR
theorem rectoref16_Plain.ok (R : List (Str × Int × List Str × List Str) × List Str × Int × Int → Prop) (hR : R Sp.plainP) : rectoref16_Plain.vc R := by
  rw [Sp.plain_eq] at hR
  refine Lp_rule (fun v => ∃ p : Nat, v = (((26 : Nat) : Int), (p : Int), [], [], 0, 0, (Sp.pnames.take p).map Sp.kept1, Sp.pnames, ()) ∧ p ≤ 26) (fun v => 26 - v.2.1.toNat) ?_ ⟨0, rfl, by omega⟩
  rintro _ K ⟨p, rfl, hp⟩ hK
  simp only [rectoref16_Plain.L0]
  have hl : Sp.pnames.length = 26 := by decide
  have hm : ((Sp.pnames.take p).map Sp.kept1).length = p := by rw [List.length_map, List.length_take]; omega
  rw [cond_dec]
  split
  · have hp' : p < Sp.pnames.length := by omega
    refine ⟨by rw [ix_iff]; omega, by rw [gr_iff, hm]; omega, by rw [rg64]; omega, hK _ ⟨p + 1, ?_, by omega⟩ (by simp only; omega)⟩
    rw [take_succ (d := []) hp', List.map_append]; rfl
  · have : p = 26 := by omega
    subst this
    refine ⟨?_, ?_, ?_, ?_, ?_, ?_⟩
    · rw [gr_iff, hm]; omega
    · rw [gr_iff, List.length_append, hm]; simp
    · rw [gr_iff, List.length_append, List.length_append, hm]; simp
    · rw [gr_iff, List.length_append, List.length_append, List.length_append, hm]; simp
    · rw [gr_iff, List.length_append, List.length_append, List.length_append, List.length_append, hm]; simp
    · rw [List.take_of_length_le (by omega)]
      simp only [List.append_assoc]
      exact hR
theorem rectoref16_long.ok (R : Bool → Prop) (p : List (Str × Int × List Str × List Str) × List Str × Int × Int) (h : Sp.polOkk p) (hR : R (Sp.longP p)) : rectoref16_long.vc R p := by
  obtain ⟨rs, sc, o, st⟩ := p
  have hl : rs.length ≤ 1000 := h.1
  unfold Sp.longP Sp.shortP Sp.anyWide at hR
  refine Lp_rule (fun v => ∃ q : Nat, v = (rs, (rs.length : Int), (q : Int), rs, sc, o, st, ()) ∧ q ≤ rs.length ∧ (rs.drop q).any Sp.wideR = rs.any Sp.wideR) (fun v => rs.length - v.2.2.1.toNat) ?_ ⟨0, rfl, Nat.zero_le _, rfl⟩
  rintro _ K ⟨q, rfl, hq, he⟩ hK
  simp only [rectoref16_long.L0, cond_dec]
  split
  · have hq' : q < rs.length := by omega
    rw [drop_cons (d := (([], 0, [], []) : Str × Int × List Str × List Str)) hq', List.any_cons] at he
    generalize nth rs (q : Int) (([], 0, [], []) : Str × Int × List Str × List Str) = r at *
    have bad : Sp.wideR r = true → R true := fun e => by
      rw [e, Bool.true_or] at he
      simp only [← he, Bool.not_true, Bool.and_false, Bool.not_false] at hR
      exact hR
    unfold Sp.wideR at bad
    refine ⟨by rw [ix_iff]; omega, ?_⟩
    split
    · rename_i c; exact bad (by rw [decide_eq_true c]; rfl)
    rename_i c1
    split
    · rename_i c; exact bad (by rw [decide_eq_true c, Bool.or_true])
    · rename_i c2
      have hw : Sp.wideR r = false := by unfold Sp.wideR; rw [decide_eq_false c1, decide_eq_false c2]; rfl
      rw [hw, Bool.false_or] at he
      exact ⟨by rw [rg64]; omega, hK _ ⟨q + 1, rfl, by omega, he⟩ (by simp only; omega)⟩
  · have : q = rs.length := by omega
    subst this
    rw [List.drop_length, List.any_nil] at he
    simp only [← he, Bool.not_false, Bool.and_true] at hR
    split
    · rename_i c
      rw [decide_eq_false (show ¬ (rs.length : Int) ≤ 60 by omega)] at hR; exact hR
    · rename_i c
      rw [decide_eq_true (show (rs.length : Int) ≤ 60 by omega), Bool.true_and] at hR
      by_cases c2 : 20 < (sc.length : Int)
      · rw [decide_eq_true c2]; rw [decide_eq_false (show ¬ (sc.length : Int) ≤ 20 by omega)] at hR; exact hR
      · rw [decide_eq_false c2]; rw [decide_eq_true (show (sc.length : Int) ≤ 20 by omega)] at hR; exact hR
namespace Sp
/-- What was found among so many rules. -/
def dq (l : List Rule) : Bool := l.any (fun r => twiceL (namesR r)) || twiceL (l.map (·.1))
def bq (l : List Rule) : Bool := l.any notRight
def eq16 (l : List Rule) : Int := if dq l = true then 8 else if bq l = true then 4 else 0
def dup (l : List Rule) (r : Rule) : Bool := l.any fun s => decide (s.1 = r.1)
def xq (l : List Rule) (r : Rule) : Int := if dup l r = true then 8 else oneR r
theorem dup_mem (l : List Rule) (r : Rule) : decide (r.1 ∈ l.map (·.1)) = dup l r := by
  unfold dup
  by_cases h : r.1 ∈ l.map (·.1)
  · rw [decide_eq_true h]
    obtain ⟨x, hx, e⟩ := List.mem_map.1 h
    exact (List.any_eq_true.2 ⟨x, hx, decide_eq_true e⟩).symm
  · rw [decide_eq_false h]
    exact (List.any_eq_false.2 fun x hx e => h (List.mem_map.2 ⟨x, hx, of_decide_eq_true e⟩)).symm
theorem eq_snoc (l : List Rule) (r : Rule) : eq16 (l ++ [r]) = if eq16 l < xq l r then xq l r else eq16 l := by
  have h1 : dq (l ++ [r]) = (dq l || (twiceL (namesR r) || dup l r)) := by
    unfold dq
    rw [List.any_append, List.map_append, show ([r].map fun x => x.1) = [r.1] from rfl, twice_snoc, dup_mem]
    simp only [List.any_cons, List.any_nil, Bool.or_false]
    cases (l.any fun r => twiceL (namesR r)) <;> cases twiceL (l.map fun x => x.1) <;> cases twiceL (namesR r) <;> cases dup l r <;> rfl
  have h2 : bq (l ++ [r]) = (bq l || notRight r) := by unfold bq; rw [List.any_append]; simp
  unfold eq16 xq oneR
  rw [h1, h2]
  unfold notRight
  cases dq l <;> cases bq l <;> cases twiceL (namesR r) <;> cases dup l r <;> cases rightR r <;> rfl
theorem apart_dq (p : Pol) : apartP p = !dq p.1 := by
  unfold apartP dq
  cases (p.1.any fun r => twiceL (namesR r)) <;> cases twiceL (p.1.map fun x => x.1) <;> rfl
end Sp
theorem Sp.Check_L2 (R : Int → Prop) (rs : List (Str × Int × List Str × List Str)) (sc : List Str) (o st : Int) (h3 : Sp.strOk sc) (hs : sc.length ≤ 1000) (B : Bool) (hR : R (if Sp.awayB o && Sp.awayB st && !Sp.anyOdd sc && !B then 0 else 4)) :
    Lp (fun v K => rectoref16_Check.L2 R v.1 v.2.1 v.2.2.1 v.2.2.2.1 v.2.2.2.2.1 v.2.2.2.2.2.1 v.2.2.2.2.2.2.1 v.2.2.2.2.2.2.2.1 K) ((if B = true then 4 else 0 : Int), sc, (sc.length : Int), 0, rs, sc, o, st, ()) := by
  refine Lp_rule (fun v => ∃ q : Nat, v = ((if (B || (sc.take q).any Sp.oddS) = true then 4 else 0 : Int), sc, (sc.length : Int), (q : Int), rs, sc, o, st, ()) ∧ q ≤ sc.length) (fun v => sc.length - v.2.2.2.1.toNat) ?_ ⟨0, by simp, Nat.zero_le _⟩
  rintro _ K ⟨q, rfl, hq⟩ hK
  simp only [rectoref16_Check.L2]
  rw [cond_dec]
  split
  · have hq' : q < sc.length := by omega
    have hm := Sp.nth_mem (d := ([] : Str)) hq'
    have ht := take_succ (d := ([] : Str)) hq'
    generalize nth sc (q : Int) [] = s at *
    have hn : (sc.take (q + 1)).any Sp.oddS = ((sc.take q).any Sp.oddS || Sp.oddS s) := by rw [ht, List.any_append]; simp
    have odd (e : Sp.oddS s = true) : K (4, sc, (sc.length : Int), (q : Int) + 1, rs, sc, o, st, ()) := by
      refine hK _ ⟨q + 1, ?_, by omega⟩ (by simp only; omega)
      rw [hn, e, Bool.or_true, Bool.or_true, if_pos rfl]; rfl
    have even (e : Sp.oddS s = false) : K ((if (B || (sc.take q).any Sp.oddS) = true then 4 else 0 : Int), sc, (sc.length : Int), (q : Int) + 1, rs, sc, o, st, ()) := by
      refine hK _ ⟨q + 1, ?_, by omega⟩ (by simp only; omega)
      rw [hn, e, Bool.or_false]; rfl
    unfold Sp.oddS at odd even
    have hrg : Rg IntKind.i64 ((q : Int) + 1) := by rw [rg64]; omega
    refine ⟨by rw [ix_iff]; omega, ?_⟩
    rw [cond_dec]
    split
    · rename_i c; exact ⟨hrg, odd (by rw [decide_eq_true c]; rfl)⟩
    · rename_i c
      refine ⟨h3 s hm, ?_⟩
      rw [cond_ndec]
      split
      · rename_i c2; exact ⟨hrg, even (by rw [decide_eq_false c, decide_eq_true c2]; rfl)⟩
      · rename_i c2; exact ⟨hrg, odd (by rw [decide_eq_false c, decide_eq_false c2]; rfl)⟩
  · rw [List.take_of_length_le (by omega)]
    have hA : sc.any Sp.oddS = Sp.anyOdd sc := rfl
    rw [hA]
    generalize Sp.anyOdd sc = A at *
    unfold Sp.awayB at hR
    simp only [cond_dec, cond_ndec]
    by_cases o2 : o = 2 <;> by_cases o3 : o = 3 <;> by_cases s2 : st = 2 <;> by_cases s3 : st = 3 <;> first
      | (exfalso; omega)
      | (simp only [o2, o3, s2, s3, if_true, if_false, decide_true, decide_false, Bool.or_true, Bool.true_or, Bool.or_false, Bool.true_and, Bool.false_and, Bool.and_false, Bool.false_eq_true] at hR ⊢
         first
         | exact hR
         | (cases A <;> cases B <;> exact hR))
theorem rectoref16_Check.ok (R : Int → Prop) (p : List (Str × Int × List Str × List Str) × List Str × Int × Int) (h : Sp.polOkk p) (hR : R (Sp.checkP p)) : rectoref16_Check.vc R p := by
  obtain ⟨rs, sc, o, st⟩ := p
  refine ⟨h, ?_⟩
  obtain ⟨h1, h2, h3, h4⟩ := h
  have h1 : rs.length ≤ 1000 := h1
  have h4 : ∀ r, r ∈ rs → Sp.ruleOk r := h4
  unfold Sp.checkP at hR
  unfold Sp.longP
  cases hsh : Sp.shortP (rs, sc, o, st) with
  | false =>
    rw [hsh, if_pos rfl] at hR
    exact hR
  | true =>
  rw [hsh, if_neg (by simp), Sp.apart_dq] at hR
  rw [Bool.not_true, cond_false]
  simp only at hR ⊢
  refine Lp_rule (fun v => ∃ q : Nat, v = (Sp.eq16 (rs.take q), rs, (rs.length : Int), (q : Int), rs, sc, o, st, ()) ∧ q ≤ rs.length) (fun v => rs.length - v.2.2.2.1.toNat) ?_ ⟨0, rfl, Nat.zero_le _⟩
  rintro _ K ⟨q, rfl, hq⟩ hK
  simp only [rectoref16_Check.L0]
  rw [cond_dec]
  split
  · have hq' : q < rs.length := by omega
    have hm := Sp.nth_mem (d := (([], 0, [], []) : Str × Int × List Str × List Str)) hq'
    have ht := take_succ (d := (([], 0, [], []) : Str × Int × List Str × List Str)) hq'
    have hs : sub rs 0 (q : Int) = rs.take q := by unfold sub; simp
    have hsn := Sp.eq_snoc (rs.take q) (nth rs (q : Int) (([], 0, [], []) : Str × Int × List Str × List Str))
    rw [← ht] at hsn
    rw [hs]
    generalize nth rs (q : Int) (([], 0, [], []) : Str × Int × List Str × List Str) = r at *
    refine ⟨by rw [ix_iff]; omega, h4 r hm, by rw [sb_iff]; omega, ?_⟩
    have htl : (rs.take q).length = q := by rw [List.length_take]; omega
    refine Lp_rule (fun v => ∃ j : Nat, v = (Sp.eq16 (rs.take q), (if Sp.dup ((rs.take q).take j) r = true then 8 else Sp.oneR r : Int), rs, (rs.length : Int), (q : Int), rs.take q, ((rs.take q).length : Int), (j : Int), rs, sc, o, st, r.1, r.2.1, r.2.2.1, r.2.2.2, ()) ∧ j ≤ q) (fun v => q - v.2.2.2.2.2.2.2.1.toNat) ?_ ⟨0, rfl, Nat.zero_le _⟩
    rintro _ K1 ⟨j, rfl, hj⟩ hK1
    simp only [rectoref16_Check.L1]
    rw [cond_dec]
    split
    · have hj' : j < (rs.take q).length := by omega
      have htj := take_succ (d := (([], 0, [], []) : Str × Int × List Str × List Str)) hj'
      generalize nth (rs.take q) (j : Int) (([], 0, [], []) : Str × Int × List Str × List Str) = s at *
      have hd : Sp.dup ((rs.take q).take (j + 1)) r = (Sp.dup ((rs.take q).take j) r || decide (s.1 = r.1)) := by
        unfold Sp.dup; rw [htj, List.any_append]; simp
      refine ⟨by rw [ix_iff]; omega, ?_⟩
      rw [cond_dec]
      split
      · rename_i c
        refine ⟨by rw [rg64]; omega, hK1 _ ⟨j + 1, ?_, by omega⟩ (by simp only; omega)⟩
        rw [hd, decide_eq_true c, Bool.or_true, if_pos rfl]; rfl
      · rename_i c
        refine ⟨by rw [rg64]; omega, hK1 _ ⟨j + 1, ?_, by omega⟩ (by simp only; omega)⟩
        rw [hd, decide_eq_false c, Bool.or_false]; rfl
    · rw [List.take_of_length_le (l := rs.take q) (by omega)]
      have hx : (if Sp.dup (rs.take q) r = true then 8 else Sp.oneR r : Int) = Sp.xq (rs.take q) r := rfl
      rw [hx]
      rw [cond_dec]
      split
      · rename_i c
        rw [if_pos c] at hsn
        refine ⟨by rw [rg64]; omega, hK _ ⟨q + 1, ?_, by omega⟩ (by simp only; omega)⟩
        rw [hsn]; rfl
      · rename_i c
        rw [if_neg c] at hsn
        refine ⟨by rw [rg64]; omega, hK _ ⟨q + 1, ?_, by omega⟩ (by simp only; omega)⟩
        rw [hsn]; rfl
  · rw [List.take_of_length_le (by omega)]
    unfold Sp.eq16
    cases hd : Sp.dq rs with
    | true =>
      rw [hd] at hR
      rw [if_pos rfl, cond_dec, if_pos rfl]
      exact hR
    | false =>
      rw [hd, Bool.not_false, if_neg (by simp)] at hR
      rw [if_neg (by simp), cond_dec, if_neg (by split <;> omega)]
      refine Sp.Check_L2 R rs sc o st h3 h2 (Sp.bq rs) ?_
      have e : Sp.formedP (rs, sc, o, st) = (Sp.awayB o && Sp.awayB st && !Sp.anyOdd sc && !Sp.bq rs) := rfl
      rw [e] at hR
      cases hb : (Sp.awayB o && Sp.awayB st && !Sp.anyOdd sc && !Sp.bq rs) with
      | true => rw [hb, if_neg (by simp)] at hR; exact hR
      | false => rw [hb, if_pos rfl] at hR; exact hR
theorem rectoref16_Of.ok (R : Str × Int × List Str × List Str → Prop) (p : List (Str × Int × List Str × List Str) × List Str × Int × Int) (name : Str) (h : Sp.ruleP.pre p name) (hR : R (Sp.ruleP p name)) : rectoref16_Of.vc R p name := by
  obtain ⟨rs, sc, o, st⟩ := p
  have h1 : rs.length ≤ 1000 := h.1
  unfold Sp.ruleP at hR
  refine Lp_rule (fun v => ∃ q : Nat, v = (name, rs, (rs.length : Int), (q : Int), rs, sc, o, st, [], 0, [], [], ()) ∧ q ≤ rs.length ∧ (rs.drop q).find? (fun r => Sp.hasN r name) = rs.find? (fun r => Sp.hasN r name)) (fun v => rs.length - v.2.2.2.1.toNat) ?_ ⟨0, rfl, Nat.zero_le _, rfl⟩
  rintro _ K ⟨q, rfl, hq, he⟩ hK
  simp only [rectoref16_Of.L0]
  rw [cond_dec]
  split
  · have hq' : q < rs.length := by omega
    rw [drop_cons (d := (([], 0, [], []) : Str × Int × List Str × List Str)) hq', List.find?_cons] at he
    generalize nth rs (q : Int) (([], 0, [], []) : Str × Int × List Str × List Str) = r at *
    refine ⟨by rw [ix_iff]; omega, ?_⟩
    unfold Sp.hasN at he hR
    rw [cond_dec]
    split
    · rename_i c
      rw [decide_eq_true c] at he
      simp only [← he] at hR
      exact hR
    · rename_i c
      rw [decide_eq_false c] at he
      exact ⟨by rw [rg64]; omega, hK _ ⟨q + 1, rfl, by omega, he⟩ (by simp only; omega)⟩
  · have : q = rs.length := by omega
    subst this
    rw [List.drop_length, List.find?_nil] at he
    simp only [← he] at hR
    exact hR
theorem rectoref16_Act.ok (R : Int → Prop) (p : List (Str × Int × List Str × List Str) × List Str × Int × Int) (space : Int) (name : Str) (h : Sp.actP.pre p space name) (hR : R (Sp.actP p space name)) : rectoref16_Act.vc R p space name := policy_Policy_act.ok R p space name h hR
theorem rectoref16_Stays.ok (R : Bool → Prop) (p : List (Str × Int × List Str × List Str) × List Str × Int × Int) (name : Str) (a : Str × Str) (h : Sp.staysP.pre p name a) (hR : R (Sp.staysP p name a)) : rectoref16_Stays.vc R p name a := policy_Policy_stays.ok R p name a h hR
theorem rectolaw16_wide.ok (R : Bool → Prop) (l : List Vi.Node) (hR : R (Sp.wide600 l)) : rectolaw16_wide.vc R l :=
  ⟨⟨by decide, by decide, by decide, by decide⟩, hR⟩
theorem rectolaw16_large.ok (R : Bool → Prop) (p : List (Str × Int × List Str × List Str) × List Str × Int × Int) (h : Sp.largeP.pre p) (hR : R (Sp.largeP p)) : rectolaw16_large.vc R p := by
  obtain ⟨rs, sc, o, st⟩ := p
  obtain ⟨h1, h2⟩ := h
  have h1 : rs.length ≤ 9223372036854775807 := h1
  unfold rectolaw16_large.vc
  unfold Sp.largeP at hR
  simp only at hR ⊢
  rw [cond_dec]
  split
  · rename_i c; rw [decide_eq_true c] at hR; exact hR
  rename_i c1
  rw [decide_eq_false c1, Bool.false_or] at hR
  rw [cond_dec]
  split
  · rename_i c; rw [decide_eq_true c] at hR; exact hR
  rename_i c2
  rw [decide_eq_false c2, Bool.false_or] at hR
  refine Lp_rule (fun v => ∃ q : Nat, v = (rs, (rs.length : Int), (q : Int), ()) ∧ q ≤ rs.length ∧ (rs.drop q).any Sp.largeR = rs.any Sp.largeR) (fun v => rs.length - v.2.2.1.toNat) ?_ ⟨0, rfl, Nat.zero_le _, rfl⟩
  rintro _ K ⟨q, rfl, hq, he⟩ hK
  simp only [rectolaw16_large.L0, cond_dec]
  split
  · have hq' : q < rs.length := by omega
    rw [drop_cons (d := (([], 0, [], []) : Str × Int × List Str × List Str)) hq', List.any_cons] at he
    generalize nth rs (q : Int) (([], 0, [], []) : Str × Int × List Str × List Str) = r at *
    have bad : Sp.largeR r = true → R true := fun e => by rw [e, Bool.true_or] at he; rw [← he] at hR; exact hR
    unfold Sp.largeR at bad
    refine ⟨by rw [ix_iff]; omega, ?_⟩
    split
    · rename_i c; exact bad (by rw [decide_eq_true c]; rfl)
    rename_i k1
    split
    · rename_i c; exact bad (by rw [decide_eq_true c]; simp)
    rename_i k2
    split
    · rename_i c; exact bad (by rw [decide_eq_true c]; simp)
    · rename_i k3
      have hw : Sp.largeR r = false := by unfold Sp.largeR; rw [decide_eq_false k1, decide_eq_false k2, decide_eq_false k3]; rfl
      rw [hw, Bool.false_or] at he
      exact ⟨by rw [rg64]; omega, hK _ ⟨q + 1, rfl, by omega, he⟩ (by simp only; omega)⟩
  · have : q = rs.length := by omega
    subst this
    rw [List.drop_length, List.any_nil] at he
    rw [← he] at hR; exact hR
theorem rectolaw16_ref.ok (R : List (Str × Int × List Str × List Str) × List Str × Int × Int → Prop) (p : List (Str × Int × List Str × List Str) × List Str × Int × Int) (h : Sp.polOkk p) (hR : R (Sp.refP p)) : rectolaw16_ref.vc R p := by
  obtain ⟨rs, sc, o, st⟩ := p
  have h1 : rs.length ≤ 1000 := h.1
  refine Lp_rule (fun v => ∃ q : Nat, v = (rs, (rs.length : Int), (q : Int), [], [], 0, 0, sc, o, st, rs.take q, ()) ∧ q ≤ rs.length) (fun v => rs.length - v.2.2.1.toNat) ?_ ⟨0, rfl, Nat.zero_le _⟩
  rintro _ K ⟨q, rfl, hq⟩ hK
  simp only [rectolaw16_ref.L0]
  rw [cond_dec]
  split
  · have hq' : q < rs.length := by omega
    refine ⟨by rw [ix_iff]; omega, by rw [gr_iff, List.length_take]; omega, by rw [rg64]; omega, hK _ ⟨q + 1, ?_, by omega⟩ (by simp only; omega)⟩
    rw [take_succ (d := (([], 0, [], []) : Str × Int × List Str × List Str)) hq']; rfl
  · rw [List.take_of_length_le (by omega)]
    exact hR
theorem rectolaw16_script.ok (R : Bool → Prop) (hR : R Sp.tt) : rectolaw16_script.vc R :=
  ⟨Sp.polOk_plain, Sp.polOk_plain, Sp.polOk_plain, Sp.polOk_plain, ⟨Sp.polOk_plain, by decide⟩, ⟨Sp.polOk_plain, by decide⟩, hR⟩
namespace Sp
theorem lfN_eq (n : Vi.Node) : lfN n = ((!decide (n.kind = 1) && (decide (0 < (n.attrs.length : Int)) || decide (0 < (n.kids.length : Int)))) || lfL n.kids) := by cases n; rw [lfN]; rfl
theorem hmN_eq (n : Vi.Node) : hmN n = (!(decide (n.kind = 1) && (!decide (n.space = 0) || decide (n.name = [115, 99, 114, 105, 112, 116]) || decide (n.name = [115, 116, 121, 108, 101]))) && !(n.attrs.any badA) && hmL n.kids) := by cases n; rw [hmN]; rfl
end Sp
theorem rectolaw16_leafless.ok (nn : Nat) (R : Bool → Prop) (l : List Vi.Node) (h : Sp.nodesOkk l ∧ Sp.mLf l < nn + 1) (hR : R (Sp.lfL l)) : rectolaw16_leafless.vc R nn l := by
  obtain ⟨⟨hl1, hl2⟩, hs⟩ := h
  unfold Sp.mLf at hs
  refine Lp_rule (fun v => ∃ q : Nat, v = (l, (l.length : Int), (q : Int), ()) ∧ q ≤ l.length ∧ Sp.lfL (l.drop q) = Sp.lfL l) (fun v => l.length - v.2.2.1.toNat) ?_ ⟨0, rfl, Nat.zero_le _, rfl⟩
  rintro _ K ⟨q, rfl, hq, he⟩ hK
  simp only [rectolaw16_leafless.L0]
  rw [cond_dec]
  split
  · have hq' : q < l.length := by omega
    have hm := Sp.nth_mem (d := Vi.Node.mk 0 0 [] [] [] []) hq'
    rw [drop_cons (d := Vi.Node.mk 0 0 [] [] [] []) hq', Sp.lfL] at he
    have hz := Sp.szL_lt hm
    generalize nth l (q : Int) (Vi.Node.mk 0 0 [] [] [] []) = n at *
    rw [Sp.szN_eq] at hz
    obtain ⟨ho1, ho2⟩ := Sp.okN_eq (Sp.okL_mem hl2 hm)
    have hf := Sp.lfN_eq n
    refine ⟨by rw [ix_iff]; omega, ?_⟩
    have bad : Sp.lfN n = true → R true := fun e => by rw [e, Bool.true_or] at he; rw [← he] at hR; exact hR
    have rest (e : (!decide (n.kind = 1) && (decide (0 < (n.attrs.length : Int)) || decide (0 < (n.kids.length : Int)))) = false) :
        (Sp.nodesOkk n.kids ∧ Sp.mLf n.kids < nn) ∧ bif Sp.lfL n.kids then R true else Rg IntKind.i64 ((q : Int) + 1) ∧ K (l, (l.length : Int), (q : Int) + 1, ()) := by
      rw [e, Bool.false_or] at hf
      refine ⟨⟨ho2, by unfold Sp.mLf; omega⟩, ?_⟩
      cases hk : Sp.lfL n.kids with
      | true => exact bad (hf.trans hk)
      | false =>
        rw [hf, hk, Bool.false_or] at he
        exact ⟨by rw [rg64]; omega, hK _ ⟨q + 1, rfl, by omega, he⟩ (by simp only; omega)⟩
    rw [cond_ndec]
    split
    · rename_i c
      exact rest (by rw [decide_eq_true c]; rfl)
    · rename_i c
      rw [decide_eq_false c] at hf rest
      rw [cond_dec]
      split
      · rename_i c2; exact bad (by rw [hf, decide_eq_true c2]; rfl)
      rename_i c2
      rw [cond_dec]
      split
      · rename_i c3; exact bad (by rw [hf, decide_eq_true c3, Bool.or_true]; rfl)
      · rename_i c3
        exact rest (by rw [decide_eq_false c2, decide_eq_false c3]; rfl)
  · have : q = l.length := by omega
    subst this
    rw [List.drop_length, Sp.lfL] at he
    rw [← he] at hR; exact hR
namespace Sp
theorem hm_core {hs : Bool} {p1 p2 p3 : Prop} [Decidable p1] [Decidable p2] [Decidable p3] {F T : Prop} (h1 : hs = true → ¬ p1 → ¬ p2 → ¬ p3 → F) (h2 : (hs = true → p1 ∨ p2 ∨ p3) → T) :
    bif hs then (bif !decide p1 then (bif !decide p2 then (bif !decide p3 then F else T) else T) else T) else T := by
  cases hs with
  | false => exact h2 (fun e => absurd e (by simp))
  | true =>
    rw [cond_true, cond_ndec]
    split
    · rename_i c; exact h2 (fun _ => .inl c)
    rename_i c1
    rw [cond_ndec]
    split
    · rename_i c; exact h2 (fun _ => .inr (.inl c))
    rename_i c2
    rw [cond_ndec]
    split
    · rename_i c; exact h2 (fun _ => .inr (.inr c))
    · rename_i c3; exact h1 rfl c1 c2 c3
theorem hm_tail {q o S F G : Prop} [Decidable q] [Decidable o] (hS : q → S) (h1 : q → o → F) (h2 : (q → ¬ o) → G) : bif decide q then S ∧ bif decide o then F else G else G := by
  rw [cond_dec]
  split
  · rename_i c
    refine ⟨hS c, ?_⟩
    rw [cond_dec]
    split
    · rename_i c2; exact h1 c c2
    · rename_i c2; exact h2 (fun _ => c2)
  · rename_i c; exact h2 (fun e => absurd e c)
theorem bad_iff (a : Str × Str) : badA a = true ↔ ((a.1 = [104, 114, 101, 102] ∨ a.1 = [115, 114, 99]) ∧ (schemeP a.2).2 = true ∧ ¬ (schemeP a.2).1 = [104, 116, 116, 112] ∧ ¬ (schemeP a.2).1 = [104, 116, 116, 112, 115] ∧ ¬ (schemeP a.2).1 = [109, 97, 105, 108, 116, 111]) ∨ (1 < (a.1.length : Int) ∧ a.1.take 2 = [111, 110]) := by
  unfold badA
  simp only [Bool.or_eq_true, Bool.and_eq_true, Bool.not_eq_true', decide_eq_true_eq, decide_eq_false_iff_not]
  constructor
  · rintro (⟨⟨⟨⟨h1, h2⟩, h3⟩, h4⟩, h5⟩ | h)
    · exact .inl ⟨h1, h2, h3, h4, h5⟩
    · exact .inr h
  · rintro (⟨h1, h2, h3, h4, h5⟩ | h)
    · exact .inl ⟨⟨⟨⟨h1, h2⟩, h3⟩, h4⟩, h5⟩
    · exact .inr h
end Sp
theorem harmless_L1 (nn : Nat) (R : Bool → Prop) (K0 : List Vi.Node × Int × Int × Unit → Prop) (l : List Vi.Node) (q : Nat) (n : Vi.Node) (ho1 : Sp.attrsOk n.attrs) (ho2 : Sp.nodesOk n.kids) (hz : Sp.szL n.kids < nn) (hF : n.attrs.any Sp.badA = true ∨ Sp.hmL n.kids = false → R false) (hT : n.attrs.any Sp.badA = false → Sp.hmL n.kids = true → Rg IntKind.i64 ((q : Int) + 1) ∧ K0 (l, (l.length : Int), (q : Int) + 1, ())) :
    Lp (fun v K => rectolaw16_harmless.L1 nn R K0 v.1 v.2.1 v.2.2.1 v.2.2.2.1 v.2.2.2.2.1 v.2.2.2.2.2.1 v.2.2.2.2.2.2.1 v.2.2.2.2.2.2.2.1 v.2.2.2.2.2.2.2.2.1 v.2.2.2.2.2.2.2.2.2.1 v.2.2.2.2.2.2.2.2.2.2.1 v.2.2.2.2.2.2.2.2.2.2.2.1 K)
      (l, (l.length : Int), (q : Int), n.attrs, (n.attrs.length : Int), 0, n.kind, n.space, n.name, n.attrs, n.text, n.kids, ()) := by
  refine Lp_rule (fun v => ∃ j : Nat, v = (l, (l.length : Int), (q : Int), n.attrs, (n.attrs.length : Int), (j : Int), n.kind, n.space, n.name, n.attrs, n.text, n.kids, ()) ∧ j ≤ n.attrs.length ∧ (n.attrs.drop j).any Sp.badA = n.attrs.any Sp.badA) (fun v => n.attrs.length - v.2.2.2.2.2.1.toNat) ?_ ⟨0, rfl, Nat.zero_le _, rfl⟩
  rintro _ K ⟨j, rfl, hj, he⟩ hK
  obtain ⟨hal, hav⟩ := ho1
  simp only [rectolaw16_harmless.L1]
  rw [cond_dec]
  split
  · have hj' : j < n.attrs.length := by omega
    have hm := Sp.nth_mem (d := (([], []) : Str × Str)) hj'
    rw [drop_cons (d := (([], []) : Str × Str)) hj', List.any_cons] at he
    generalize nth n.attrs (j : Int) (([], []) : Str × Str) = a at *
    refine ⟨by rw [ix_iff]; omega, hav a hm, ?_⟩
    have bad : Sp.badA a = true → R false := fun e => hF (.inl (by rw [← he, e]; rfl))
    have good : Sp.badA a = false → Rg IntKind.i64 ((j : Int) + 1) ∧ K (l, (l.length : Int), (q : Int), n.attrs, (n.attrs.length : Int), (j : Int) + 1, n.kind, n.space, n.name, n.attrs, n.text, n.kids, ()) := fun e => by
      rw [e, Bool.false_or] at he
      exact ⟨by rw [rg64]; omega, hK _ ⟨j + 1, rfl, by omega, he⟩ (by simp only; omega)⟩
    have hb := Sp.bad_iff a
    have good2 : ¬ Sp.badA a = true → Rg IntKind.i64 ((j : Int) + 1) ∧ K (l, (l.length : Int), (q : Int), n.attrs, (n.attrs.length : Int), (j : Int) + 1, n.kind, n.space, n.name, n.attrs, n.text, n.kids, ()) := fun e => good (by cases h : Sp.badA a with | true => exact absurd h e | false => rfl)
    rw [hb] at bad good2
    clear good hb
    have hsub : sub a.1 0 2 = a.1.take 2 := by unfold sub; simp
    rw [hsub]
    have tl (hok : ¬ ((a.1 = [104, 114, 101, 102] ∨ a.1 = [115, 114, 99]) ∧ (Sp.schemeP a.2).2 = true ∧ ¬ (Sp.schemeP a.2).1 = [104, 116, 116, 112] ∧ ¬ (Sp.schemeP a.2).1 = [104, 116, 116, 112, 115] ∧ ¬ (Sp.schemeP a.2).1 = [109, 97, 105, 108, 116, 111])) :
        bif decide (1 < (a.1.length : Int)) then Sb 0 2 a.1.length ∧ bif decide (a.1.take 2 = [111, 110]) then R false else Rg IntKind.i64 ((j : Int) + 1) ∧ K (l, (l.length : Int), (q : Int), n.attrs, (n.attrs.length : Int), (j : Int) + 1, n.kind, n.space, n.name, n.attrs, n.text, n.kids, ())
        else Rg IntKind.i64 ((j : Int) + 1) ∧ K (l, (l.length : Int), (q : Int), n.attrs, (n.attrs.length : Int), (j : Int) + 1, n.kind, n.space, n.name, n.attrs, n.text, n.kids, ()) :=
      Sp.hm_tail (fun c => by rw [sb_iff]; omega) (fun c c2 => bad (.inr ⟨c, c2⟩)) (fun c => good2 (fun e => e.elim hok (fun e => c e.1 e.2)))
    rw [cond_dec]
    split
    · rename_i c1
      refine Sp.hm_core (fun h p1 p2 p3 => bad (.inl ⟨.inl c1, h, p1, p2, p3⟩)) (fun hp => tl (fun e => ?_))
      rcases hp e.2.1 with p | p | p
      · exact e.2.2.1 p
      · exact e.2.2.2.1 p
      · exact e.2.2.2.2 p
    rename_i c1
    rw [cond_dec]
    split
    · rename_i c2
      refine Sp.hm_core (fun h p1 p2 p3 => bad (.inl ⟨.inr c2, h, p1, p2, p3⟩)) (fun hp => tl (fun e => ?_))
      rcases hp e.2.1 with p | p | p
      · exact e.2.2.1 p
      · exact e.2.2.2.1 p
      · exact e.2.2.2.2 p
    · rename_i c2
      exact tl (fun e => e.1.elim c1 c2)
  · have : j = n.attrs.length := by omega
    subst this
    rw [List.drop_length, List.any_nil] at he
    refine ⟨⟨ho2, by unfold Sp.mLf; exact hz⟩, ?_⟩
    cases hk : Sp.hmL n.kids with
    | true => exact hT he.symm hk
    | false => exact hF (.inr hk)
theorem harmless_L2 : @rectolaw16_harmless.L2 = @rectolaw16_harmless.L1 := rfl
theorem rectolaw16_harmless.ok (nn : Nat) (R : Bool → Prop) (l : List Vi.Node) (h : Sp.nodesOkk l ∧ Sp.mLf l < nn + 1) (hR : R (Sp.hmL l)) : rectolaw16_harmless.vc R nn l := by
  obtain ⟨⟨hl1, hl2⟩, hs⟩ := h
  unfold Sp.mLf at hs
  refine Lp_rule (fun v => ∃ q : Nat, v = (l, (l.length : Int), (q : Int), ()) ∧ q ≤ l.length ∧ Sp.hmL (l.drop q) = Sp.hmL l) (fun v => l.length - v.2.2.1.toNat) ?_ ⟨0, rfl, Nat.zero_le _, rfl⟩
  rintro _ K ⟨q, rfl, hq, he⟩ hK
  simp only [rectolaw16_harmless.L0, harmless_L2]
  rw [cond_dec]
  split
  · have hq' : q < l.length := by omega
    have hm := Sp.nth_mem (d := Vi.Node.mk 0 0 [] [] [] []) hq'
    rw [drop_cons (d := Vi.Node.mk 0 0 [] [] [] []) hq', Sp.hmL] at he
    have hz := Sp.szL_lt hm
    generalize nth l (q : Int) (Vi.Node.mk 0 0 [] [] [] []) = n at *
    rw [Sp.szN_eq] at hz
    obtain ⟨ho1, ho2⟩ := Sp.okN_eq (Sp.okL_mem hl2 hm)
    have hf := Sp.hmN_eq n
    have bad : Sp.hmN n = false → R false := fun e => by rw [e, Bool.false_and] at he; rw [← he] at hR; exact hR
    have rest (e : (decide (n.kind = 1) && (!decide (n.space = 0) || decide (n.name = [115, 99, 114, 105, 112, 116]) || decide (n.name = [115, 116, 121, 108, 101]))) = false) := harmless_L1 nn R K l q n ho1 ho2 (by omega)
      (fun c => bad (by
        rw [hf, e]
        rcases c with c | c
        · rw [c]; rfl
        · rw [c, Bool.and_false]))
      (fun c1 c2 => by
        rw [e, c1, c2] at hf
        rw [hf, Bool.not_false, Bool.true_and, Bool.true_and] at he
        exact ⟨by rw [rg64]; omega, hK _ ⟨q + 1, rfl, by omega, he⟩ (by simp only; omega)⟩)
    refine ⟨by rw [ix_iff]; omega, ?_⟩
    rw [cond_dec]
    split
    · rename_i c
      rw [decide_eq_true c, Bool.true_and] at hf rest
      rw [cond_ndec]
      split
      · rename_i c1
        rw [decide_eq_true c1] at hf rest
        rw [cond_dec]
        split
        · rename_i c2; exact bad (by rw [hf, decide_eq_true c2]; rfl)
        rename_i c2
        rw [cond_dec]
        split
        · rename_i c3; exact bad (by rw [hf, decide_eq_true c3, Bool.or_true]; rfl)
        · rename_i c3
          exact rest (by rw [decide_eq_false c2, decide_eq_false c3]; rfl)
      · rename_i c1
        exact bad (by rw [hf, decide_eq_false c1]; rfl)
    · rename_i c
      exact rest (by rw [decide_eq_false c]; rfl)
  · have : q = l.length := by omega
    subst this
    rw [List.drop_length, Sp.hmL] at he
    rw [← he] at hR; exact hR
namespace Sp
abbrev PTy : Ty := .pair (.sl (.pair .str (.pair (.int .i64) (.pair (.sl .str) (.sl .str))))) (.pair (.sl .str) (.pair (.int .i64) (.int .i64)))
theorem pol_large {p : Pol} (h : Sz PTy p) : largeP.pre p := ⟨h.pair.1.sl, h.pair.2.pair.1.sl⟩
theorem pol_small {p : Pol} (h : Sz PTy p) (hl : largeP p = false) : polOk p := by
  unfold largeP at hl
  rw [Bool.or_eq_false_iff, Bool.or_eq_false_iff] at hl
  obtain ⟨⟨h1, h2⟩, h3⟩ := hl
  have h1 := of_decide_eq_false h1
  have h2 := of_decide_eq_false h2
  refine ⟨by omega, by omega, fun s hs => (h.pair.2.pair.1.mem s hs).str47, fun r hr => ?_⟩
  have h4 := List.any_eq_false.1 h3 r hr
  unfold largeR at h4
  simp only [Bool.or_eq_true, decide_eq_true_eq, not_or] at h4
  have hz := h.pair.1.mem r hr
  exact ⟨hz.pair.1.str47, by omega, by omega, fun s hs => (hz.pair.2.pair.2.pair.1.mem s hs).str47, fun s hs => (hz.pair.2.pair.2.pair.2.mem s hs).str47⟩
mutual
theorem lgN_ok : ∀ (n : Vi.Node) (r d : Int), (lgN n r d).1 = false → okN n
  | .mk k s nm a t c, r, d, h => by
    rw [lgN] at h
    split at h
    · cases h
    split at h
    · cases h
    split at h
    · cases h
    rename_i c1 c2 c3
    have hc : (lgL c (r - 1 - (t.length : Int) / 16 - a.length) (d + 1)).1 = false := by
      cases e : (lgL c (r - 1 - (t.length : Int) / 16 - a.length) (d + 1)).1 with
      | false => rfl
      | true => exact absurd (.inl e) c3
    rw [okN]
    refine ⟨⟨by omega, fun x hx => ?_⟩, by omega, lgL_ok c _ _ hc⟩
    have h1 : a.any (fun x => decide (100 < (x.1.length : Int) ∨ 2000 < (x.2.length : Int))) = false := by
      cases e : a.any (fun x => decide (100 < (x.1.length : Int) ∨ 2000 < (x.2.length : Int))) with
      | false => rfl
      | true => exact absurd (.inl e) c2
    have := List.any_eq_false.1 h1 x hx
    simp only [decide_eq_true_eq] at this
    omega
theorem lgL_ok : ∀ (l : List Vi.Node) (r d : Int), (lgL l r d).1 = false → okL l
  | [], _, _, _ => by rw [okL]; trivial
  | n :: l, r, d, h => by
    rw [lgL] at h
    split at h
    · rename_i c; rw [c] at h; cases h
    · rename_i c
      rw [okL]
      exact ⟨lgN_ok n r d (by cases e : (lgN n r d).1 with | false => rfl | true => exact absurd e c), lgL_ok l _ _ h⟩
end
theorem wide_ok {l : List Vi.Node} (h : wide600 l = false) : nodesOk l := by
  unfold wide600 lg at h
  split at h
  · cases h
  rename_i c
  split at h
  · rename_i c2; rw [c2] at h; cases h
  · rename_i c2
    exact ⟨by omega, lgL_ok l _ _ (by cases e : (lgL l 600 1).1 with | false => rfl | true => exact absurd e c2)⟩
theorem eqB_refl (b : Bool) : eqB b b = true := by cases b <;> rfl
end Sp
theorem rectolaw16_PolicyChecks.ok (R : Bool → Prop) (p : List (Str × Int × List Str × List Str) × List Str × Int × Int) (h : Sz Sp.PTy p) (hR : R Sp.tt) : rectolaw16_PolicyChecks.vc R p := by
  refine ⟨Sp.pol_large h, ?_⟩
  cases hl : Sp.largeP p with
  | true => exact hR
  | false =>
  have hp := Sp.pol_small h hl
  obtain ⟨rs, sc, o, st⟩ := p
  rw [cond_false]
  refine ⟨Sp.polOk_plain, by unfold Sp.eqL.pre; decide, ?_⟩
  have hpl : Sp.plainP.1.length = 31 := by decide
  refine Lp_rule (fun v => ∃ q : Nat, v = (((31 : Nat) : Int), (q : Int), rs, sc, o, st, Sp.plainP.1, Sp.plainP.2.1, Sp.plainP.2.2.1, Sp.plainP.2.2.2, Sp.plainP.1, Sp.plainP.2.1, Sp.plainP.2.2.1, Sp.plainP.2.2.2, ()) ∧ q ≤ 31) (fun v => 31 - v.2.1.toNat) ?_ ⟨0, rfl, by omega⟩
  rintro _ K ⟨q, rfl, hq⟩ hK
  simp only [rectolaw16_PolicyChecks.L0]
  rw [cond_dec]
  split
  · have hq' : q < Sp.plainP.1.length := by omega
    have hro := Sp.polOk_plain.2.2.2 _ (Sp.nth_mem (d := (([], 0, [], []) : Str × Int × List Str × List Str)) hq')
    generalize nth Sp.plainP.1 (q : Int) (([], 0, [], []) : Str × Int × List Str × List Str) = r at *
    obtain ⟨_, r2, r3, _⟩ := hro
    refine ⟨by rw [ix_iff]; omega, by rw [ix_iff]; omega, ?_⟩
    simp only [decide_true, Bool.not_true, cond_false]
    refine ⟨by unfold Sp.eqL.pre; omega, ?_⟩
    rw [show Sp.eqL r.2.2.1 r.2.2.1 = true from decide_eq_true rfl, show Sp.eqL r.2.2.2 r.2.2.2 = true from decide_eq_true rfl]
    exact ⟨by unfold Sp.eqL.pre; omega, by rw [rg64]; omega, hK _ ⟨q + 1, rfl, by omega⟩ (by simp only; omega)⟩
  · refine ⟨hp, hp, hp, ?_⟩
    rw [show Sp.refP (rs, sc, o, st) = (rs, sc, o, st) from rfl, decide_eq_true rfl]
    exact hR
theorem rectolaw16_PolicyActs.ok (R : Bool → Prop) (p : List (Str × Int × List Str × List Str) × List Str × Int × Int) (n : Vi.Node) (a : Str × Str) (h : Sz Sp.PTy p ∧ Sz .node n ∧ Sz (.pair .str .str) a) (hR : R Sp.tt) : rectolaw16_PolicyActs.vc R p n a := by
  refine ⟨Sp.pol_large h.1, ?_⟩
  cases hl : Sp.largeP p with
  | true => exact hR
  | false =>
  have hp := Sp.pol_small h.1 hl
  rw [cond_false, cond_dec]
  split
  · exact hR
  rename_i c
  have hr : Sp.refP p = p := rfl
  rw [hr]
  refine ⟨hp, hp, ⟨hp, by omega⟩, hp, ?_⟩
  rw [cond_ndec]
  split
  · rename_i c2
    have e1 : Sp.actC p n.space n.name = Sp.actP p n.space n.name := by unfold Sp.actC; rw [if_neg (fun q => q c2)]
    have e2 : Sp.staysC p n.name a = Sp.staysP p n.name a := by unfold Sp.staysC; rw [decide_eq_true c2, Bool.true_and]
    rw [e1, e2, decide_eq_true rfl, Sp.eqB_refl]
    exact ⟨hp, ⟨hp, by omega⟩, hR⟩
  · rename_i c2
    have e1 : Sp.actC p n.space n.name = 3 := by unfold Sp.actC; rw [if_pos c2]
    have e2 : Sp.staysC p n.name a = false := by unfold Sp.staysC; rw [decide_eq_false c2, Bool.false_and]
    rw [e1, e2]
    exact hR
namespace Sp
theorem plain_rules : ∀ r, r ∈ plainP.1 → r.2.1 = 1 → (r.1 ≠ [115, 99, 114, 105, 112, 116] ∧ r.1 ≠ [115, 116, 121, 108, 101]) ∧ (∀ x, x ∈ r.2.2.1 → x ≠ [104, 114, 101, 102] ∧ x ≠ [115, 114, 99] ∧ x.take 2 ≠ [111, 110]) ∧ (∀ x, x ∈ r.2.2.2 → x.take 2 ≠ [111, 110]) := by decide +kernel
theorem rule_mem {p : Pol} {n : Str} (h : (ruleP p n).2.1 ≠ p.2.2.1) : ruleP p n ∈ p.1 ∧ (ruleP p n).1 = n := by
  unfold ruleP at *
  split
  · rename_i r e
    refine ⟨List.mem_of_find?_eq_some e, ?_⟩
    have := List.find?_some e
    exact of_decide_eq_true this
  · rename_i e
    rw [e] at h
    exact absurd rfl h
theorem stays_good {n : Str} {a : Str × Str} (h : staysP plainP n a = true) : badA a = false := by
  unfold staysP at h
  rw [Bool.and_eq_true] at h
  have h1 := of_decide_eq_true h.1
  have hm := rule_mem (p := plainP) (n := n) (by rw [h1]; decide)
  obtain ⟨_, k2, k3⟩ := plain_rules _ hm.1 h1
  generalize ruleP plainP n = r at *
  cases hb : badA a with
  | false => rfl
  | true =>
    rcases (bad_iff a).1 hb with ⟨b1, b2, b3, b4, b5⟩ | ⟨_, b2⟩
    · have h2 := h.2
      rw [Bool.or_eq_true] at h2
      rcases h2 with h2 | h2
      · have := k2 _ (of_decide_eq_true h2)
        exact absurd b1 (fun e => e.elim this.1 this.2.1)
      · rw [Bool.and_eq_true] at h2
        have h3 := h2.2
        unfold safeP at h3
        rw [b2, Bool.not_true, Bool.false_or] at h3
        have h4 := of_decide_eq_true h3
        have h5 : (schemeP a.2).1 ∈ [[104, 116, 116, 112], [104, 116, 116, 112, 115], [109, 97, 105, 108, 116, 111]] := h4
        simp only [List.mem_cons, List.not_mem_nil, or_false] at h5
        rcases h5 with h5 | h5 | h5
        · exact absurd h5 b3
        · exact absurd h5 b4
        · exact absurd h5 b5
    · have h2 := h.2
      rw [Bool.or_eq_true] at h2
      rcases h2 with h2 | h2
      · exact absurd b2 (k2 _ (of_decide_eq_true h2)).2.2
      · rw [Bool.and_eq_true] at h2
        exact absurd b2 (k3 _ (of_decide_eq_true h2.1))
mutual
theorem harm_N : ∀ (n : Vi.Node), (fiN plainP n).2 = false → lfN n = false → hmN n = true
  | .mk k s nm a t c, h, hl => by
    rw [fiN] at h
    split at h
    · cases h
    rename_i hal
    have hal : allowsN plainP (.mk k s nm a t c) = true := by cases e : allowsN plainP (.mk k s nm a t c) with | true => rfl | false => exact absurd e hal
    rw [lfN, Bool.or_eq_false_iff] at hl
    have ih := harm_L c h hl.2
    rw [hmN, ih, Bool.and_true]
    unfold allowsN at hal
    split at hal
    · rename_i c1
      have c1 : k = 2 := c1
      have h2 := hl.1
      rw [decide_eq_false (by omega), Bool.not_false, Bool.true_and, Bool.or_eq_false_iff] at h2
      have : a = [] := List.eq_nil_of_length_eq_zero (by have := of_decide_eq_false h2.1; omega)
      rw [this, decide_eq_false (show ¬ k = 1 by omega)]; rfl
    split at hal
    · rename_i c1 c2
      have c2 : k = 1 := c2
      rw [Bool.and_eq_true] at hal
      obtain ⟨ha1, ha2⟩ := hal
      have ha1 : actP plainP s nm = 1 := of_decide_eq_true ha1
      have ha2 : anyAt a plainP (.mk k s nm a t c) = false := by cases e : anyAt a plainP (.mk k s nm a t c) with | false => rfl | true => exact absurd ha2 (by show ¬ (!anyAt a plainP (.mk k s nm a t c)) = true; rw [e]; simp)
      unfold actP at ha1
      have hs : s = 0 := by
        by_cases q : s = 0
        · exact q
        · rw [if_pos q] at ha1; exact absurd ha1 (by decide)
      rw [if_neg (fun q => q hs)] at ha1
      have hm := rule_mem (p := plainP) (n := nm) (by rw [ha1]; decide)
      have hk := (plain_rules _ hm.1 ha1).1
      rw [hm.2] at hk
      have hany : a.any badA = false := List.any_eq_false.2 fun x hx => by
        have := List.any_eq_false.1 ha2 x hx
        unfold notStays at this
        have : staysP plainP nm x = true := by cases e : staysP plainP nm x with | true => rfl | false => exact absurd (show (!staysP plainP nm x) = true by rw [e]; rfl) this
        rw [stays_good this]; simp
      rw [hany, decide_eq_true c2, decide_eq_true hs, decide_eq_false hk.1, decide_eq_false hk.2]; rfl
    · cases hal
theorem harm_L : ∀ (l : List Vi.Node), (fiL plainP l).2 = false → lfL l = false → hmL l = true
  | [], _, _ => by rw [hmL]
  | n :: l, h, hl => by
    rw [fiL] at h
    split at h
    · rename_i c; rw [c] at h; cases h
    rename_i c
    rw [lfL, Bool.or_eq_false_iff] at hl
    rw [hmL, harm_N n (by cases e : (fiN plainP n).2 with | false => rfl | true => exact absurd e c) hl.1, harm_L l h hl.2]; rfl
end
theorem fi_any (p : Pol) : ∀ l : List Vi.Node, (fiL p l).2 = l.any fun n => (fiN p n).2
  | [] => by rw [fiL]; rfl
  | n :: l => by
    rw [fiL, List.any_cons, ← fi_any p l]
    split
    · rename_i c; rw [c]; rfl
    · rename_i c
      cases e : (fiN p n).2 with
      | true => exact absurd e c
      | false => rfl
theorem fi_one (p : Pol) (n : Vi.Node) : (fiL p [n]).2 = (fiN p n).2 := by rw [fi_any]; simp
end Sp
theorem rectolaw16_PolicyHarmless.ok (R : Bool → Prop) (l : List Vi.Node) (_ : Sz (.sl .node) l) (hR : R Sp.tt) : rectolaw16_PolicyHarmless.vc R l := by
  unfold rectolaw16_PolicyHarmless.vc
  cases hw : Sp.wide600 l with
  | true => exact hR
  | false =>
  have hn := Sp.wide_ok hw
  rw [cond_false]
  refine ⟨⟨Sp.polOk_plain, hn⟩, ?_⟩
  cases ha : Sp.allowsP Sp.plainP l with
  | false => exact hR
  | true =>
  refine ⟨hn, ?_⟩
  cases hl : Sp.lfL l with
  | true => exact hR
  | false =>
  refine ⟨hn, ?_⟩
  have hf : (Sp.fiL Sp.plainP l).2 = false := by
    unfold Sp.allowsP at ha
    rw [Bool.and_eq_true] at ha
    cases e : (Sp.fiL Sp.plainP l).2 with
    | false => rfl
    | true => rw [e] at ha; exact absurd ha.2 (by simp)
  rw [Sp.harm_L l hf hl]
  exact hR
theorem rectolaw16_PolicyParts.ok (R : Bool → Prop) (p : List (Str × Int × List Str × List Str) × List Str × Int × Int) (l : List Vi.Node) (h : Sz Sp.PTy p ∧ Sz (.sl .node) l) (hR : R Sp.tt) : rectolaw16_PolicyParts.vc R p l := by
  refine ⟨Sp.pol_large h.1, ?_⟩
  cases hlg : Sp.largeP p with
  | true => exact hR
  | false =>
  have hp := Sp.pol_small h.1 hlg
  rw [cond_false]
  cases hw : Sp.wide600 l with
  | true => exact hR
  | false =>
  have hn := Sp.wide_ok hw
  obtain ⟨rs, sc, o, st⟩ := p
  refine ⟨hp, ?_⟩
  rw [cond_ndec]
  split
  case isFalse => exact hR
  rename_i c0
  have hc : ∀ m : List Vi.Node, Sp.allowsP (rs, sc, o, st) m = !(Sp.fiL (rs, sc, o, st) m).2 := fun m => by unfold Sp.allowsP; rw [decide_eq_true c0, Bool.true_and]
  refine Lp_rule (fun v => ∃ q : Nat, v = (l, !((l.take q).any fun n => (Sp.fiN (rs, sc, o, st) n).2), l, (l.length : Int), (q : Int), rs, sc, o, st, ()) ∧ q ≤ l.length) (fun v => l.length - v.2.2.2.2.1.toNat) ?_ ⟨0, rfl, Nat.zero_le _⟩
  rintro _ K ⟨q, rfl, hq⟩ hK
  simp only [rectolaw16_PolicyParts.L0, Vi.Node.eta]
  have hl6 := hn.1
  rw [cond_dec]
  split
  · have hq' : q < l.length := by omega
    have hm := Sp.nth_mem (d := Vi.Node.mk 0 0 [] [] [] []) hq'
    have ht := take_succ (d := Vi.Node.mk 0 0 [] [] [] []) hq'
    have ho := Sp.okL_mem hn.2 hm
    generalize nth l (q : Int) (Vi.Node.mk 0 0 [] [] [] []) = n at *
    have hs : ((l.take (q + 1)).any fun n => (Sp.fiN (rs, sc, o, st) n).2) = (((l.take q).any fun n => (Sp.fiN (rs, sc, o, st) n).2) || (Sp.fiN (rs, sc, o, st) n).2) := by
      rw [ht, List.any_append]; simp
    refine ⟨by rw [ix_iff]; omega, ?_⟩
    cases hA : ((l.take q).any fun n => (Sp.fiN (rs, sc, o, st) n).2) with
    | true =>
      rw [hA, Bool.true_or] at hs
      refine ⟨by rw [rg64]; omega, hK _ ⟨q + 1, ?_, by omega⟩ (by simp only; omega)⟩
      rw [hs]; rfl
    | false =>
      rw [hA, Bool.false_or] at hs
      refine ⟨⟨hp, by simp, by rw [Sp.okL]; exact ⟨ho, by rw [Sp.okL]; trivial⟩⟩, by rw [rg64]; omega, hK _ ⟨q + 1, ?_, by omega⟩ (by simp only; omega)⟩
      rw [hs, hc, Sp.fi_one]; rfl
  · rw [List.take_of_length_le (by omega), hc, Sp.fi_any, Sp.eqB_refl]
    exact ⟨⟨hp, hn⟩, hR⟩
