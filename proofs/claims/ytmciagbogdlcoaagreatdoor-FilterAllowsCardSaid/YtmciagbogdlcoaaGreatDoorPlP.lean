/- What may stand in a page: what is told, shown of the conditions. Plain theorems. -/
import Derived.Test.YtmciagbogdlcoaaGreatDoorVcP
import Derived.Test.YtmciagbogdlcoaaGreatDoorPlU
set_option linter.unnecessarySimpa false
set_option linter.unusedVariables false
set_option linter.unusedSectionVars false
set_option linter.unusedSimpArgs false
set_option autoImplicit false
open Go Vi

namespace Sp
theorem nth_mem {α : Type} {l : List α} {p : Nat} {d : α} (h : p < l.length) : nth l (p : Int) d ∈ l := by
  rw [nth_lt h]; exact List.getElem_mem h
/-- A number behind so many; -1: there is none. -/
def shI (p : Nat) (i : Int) : Int := if i = -1 then -1 else (p : Int) + i
theorem shI_zero (i : Int) : shI 0 i = i := by unfold shI; split <;> omega
theorem shI_at (p : Nat) : shI p 0 = p := by unfold shI; rw [if_neg (by omega)]; omega
theorem idxG_range {α : Type} (f : α → Bool) : ∀ l : List α, idxG f l = -1 ∨ (0 ≤ idxG f l ∧ idxG f l < l.length)
  | [] => .inl rfl
  | x :: l => by
    have := idxG_range f l
    rw [idxG, List.length_cons]
    split
    · right; omega
    · split
      · exact .inl rfl
      · right; omega
theorem shI_succ {α : Type} (f : α → Bool) (l : List α) (p : Nat) : shI (p + 1) (idxG f l) = shI p (if idxG f l = -1 then -1 else idxG f l + 1) := by
  have h := idxG_range f l
  generalize idxG f l = i at *
  unfold shI
  by_cases c : i = -1
  · simp [c]
  · rw [if_neg c, if_neg c, if_neg (by omega)]
    omega
theorem idxG_any {α : Type} (f : α → Bool) : ∀ l : List α, decide (0 ≤ idxG f l) = l.any f
  | [] => rfl
  | x :: l => by
    have ih := idxG_any f l
    have hr := idxG_range f l
    rw [idxG, List.any_cons, ← ih]
    cases hx : f x with
    | true => rfl
    | false =>
      simp only [Bool.false_eq_true, if_false, Bool.false_or]
      by_cases c : idxG f l = -1
      · rw [if_pos c, c]
      · rw [if_neg c, decide_eq_true (show 0 ≤ idxG f l by omega), decide_eq_true (show 0 ≤ idxG f l + 1 by omega)]
theorem idxG_find {α : Type} (f : α → Bool) (d : α) : ∀ l : List α, l.find? f = if 0 ≤ idxG f l then some (nth l (idxG f l) d) else none
  | [] => rfl
  | x :: l => by
    have ih := idxG_find f d l
    have hr := idxG_range f l
    rw [idxG, List.find?_cons]
    cases hx : f x with
    | true => rfl
    | false =>
      simp only [Bool.false_eq_true, if_false, ih]
      by_cases c : idxG f l = -1
      · rw [if_pos c, if_neg (by omega), if_neg (by omega)]
      · rw [if_neg c, if_pos (by omega), if_pos (by omega)]
        obtain ⟨k, hk⟩ : ∃ k : Nat, idxG f l = k := ⟨(idxG f l).toNat, by omega⟩
        rw [hk]
        rfl
theorem chainT {R : Int → Prop} {k : Str} {v : Int} {r : List (Str × Int)} {s : Str} {X : Prop} (h : R (lkT ((k, v) :: r) s)) (f : R (lkT r s) → X) : bif decide (s = k) then R v else X := by
  rw [cond_dec]
  rw [lkT] at h
  split
  · rename_i c; rw [if_pos c] at h; exact h
  · rename_i c; rw [if_neg c] at h; exact f h
theorem strs_names {r : Rule} (h : ruleOk r) : strs.pre (namesR r) := by
  obtain ⟨_, h2, h3, h4, h5⟩ := h
  refine ⟨by unfold namesR; rw [List.length_append]; omega, fun s hs => ?_⟩
  rcases List.mem_append.1 hs with h | h
  · exact h4 s h
  · exact h5 s h
end Sp

theorem tags_Group.ok (R : Int → Prop) (name : Str) (hR : R (Sp.groupN name)) : tags_Group.vc R name := by
  unfold Sp.groupN Sp.tagT at hR
  unfold tags_Group.vc
  iterate 42 refine Sp.chainT hR fun hR => ?_
  exact hR
theorem pen_small.ok (R : Bool → Prop) (b : Int) (hR : R (Sp.smallB b)) : pen_small.vc R b := by
  unfold pen_small.vc
  unfold Sp.smallB at hR
  rw [cond_dec]
  split
  · rename_i c
    by_cases c2 : b ≤ 122
    · rw [decide_eq_true c2]; rw [decide_eq_true ⟨c, c2⟩] at hR; exact hR
    · rw [decide_eq_false c2]; rw [decide_eq_false (fun q => c2 q.2)] at hR; exact hR
  · rename_i c
    rw [decide_eq_false (fun q => c q.1)] at hR; exact hR
theorem pen_Name_1.ok (R : Bool → Prop) (b : Int) (hR : R (Sp.nameB b)) : pen_Name_1.vc R b := by
  unfold pen_Name_1.vc
  unfold Sp.nameB at hR
  cases h1 : Sp.smallB b with
  | true => rw [h1] at hR; exact hR
  | false =>
    rw [h1] at hR
    cases h2 : Sp.digB b with
    | true => rw [h2] at hR; exact hR
    | false =>
      rw [h2] at hR
      cases h3 : decide (b = 45) with
      | true => rw [h3] at hR; exact hR
      | false => rw [h3] at hR; exact hR
theorem pen_all.ok (R : Bool → Prop) (s : Str) (h : Sp.allN.pre s) (hR : R (Sp.allN s)) : pen_all.vc R s := by
  have h : s.length ≤ 9223372036854775807 := h
  refine Lp_rule (fun v => ∃ p : Nat, v = (s, (s.length : Int), (p : Int), ()) ∧ p ≤ s.length ∧ Sp.allN (s.drop p) = Sp.allN s) (fun v => s.length - v.2.2.1.toNat) ?_ ⟨0, rfl, Nat.zero_le _, rfl⟩
  rintro _ K ⟨p, rfl, hp, he⟩ hK
  show pen_all.L0 R s (s.length : Int) (p : Int) K
  unfold pen_all.L0
  rw [cond_dec]
  split
  · rename_i c1
    rw [drop_cons (d := (0 : UInt8)) (show p < s.length by omega)] at he
    unfold Sp.allN at he
    rw [List.all_cons] at he
    refine ⟨by rw [ix_iff]; omega, ?_⟩
    generalize nth s (p : Int) 0 = x at *
    cases hx : Sp.nameB (x.toNat : Int) with
    | true =>
      rw [hx, Bool.true_and] at he
      exact ⟨by rw [rg64]; omega, hK _ ⟨p + 1, rfl, by omega, he⟩ (by simp; omega)⟩
    | false =>
      rw [hx, Bool.false_and] at he
      have hR : R (s.all fun x => Sp.nameB x.toNat) := hR
      rw [← he] at hR
      exact hR
  · have : p = s.length := by omega
    subst this
    rw [List.drop_length] at he
    rw [← he] at hR
    exact hR
theorem pen_Name.ok (R : Bool → Prop) (s : Str) (hR : R (Sp.nameS s)) : pen_Name.vc R s := by
  unfold pen_Name.vc
  cases s with
  | nil => exact hR
  | cons x t =>
    rw [cond_dec, if_neg (by simp), cond_dec]
    have hR : R (decide ((x :: t).length ≤ 24) && Sp.smallB (x.toNat : Int) && Sp.allN (x :: t)) := hR
    split
    · rename_i c
      rw [decide_eq_false (show ¬ (x :: t).length ≤ 24 by omega)] at hR
      exact hR
    · rename_i c
      rw [decide_eq_true (show (x :: t).length ≤ 24 by omega), Bool.true_and] at hR
      refine ⟨by rw [ix_iff, List.length_cons]; omega, ?_⟩
      show bif !Sp.smallB (x.toNat : Int) then _ else _
      cases hx : Sp.smallB (x.toNat : Int) with
      | true =>
        rw [hx, Bool.true_and] at hR
        exact ⟨by unfold Sp.allN.pre; omega, hR⟩
      | false =>
        rw [hx] at hR
        exact hR
theorem policy_gone.ok (R : Bool → Prop) (name : Str) (hR : R (Sp.goneN name)) : policy_gone.vc R name := by
  unfold policy_gone.vc
  unfold Sp.goneN at hR
  generalize Sp.groupN name = g at *
  by_cases h1 : g = 15
  · simp [h1] at hR ⊢; exact hR
  by_cases h2 : g = 13
  · simp [h2] at hR ⊢; exact hR
  by_cases h3 : g = 14
  · simp [h3] at hR ⊢; exact hR
  by_cases h4 : g = 16
  · simp [h4] at hR ⊢; exact hR
  by_cases h5 : g = 1
  · simp [h5] at hR ⊢; exact hR
  by_cases h6 : g = 17
  · simp [h6] at hR ⊢; exact hR
  · simp [h1, h2, h3, h4, h5, h6] at hR ⊢; exact hR
theorem policy_short_1.ok (R : Bool → Prop) (r : Str × Int × List Str × List Str) (hR : R (Sp.wideR r)) : policy_short_1.vc R r := by
  unfold policy_short_1.vc
  unfold Sp.wideR at hR
  cases h : decide (20 < (r.2.2.1.length : Int)) with
  | true => rw [h] at hR; exact hR
  | false => rw [h] at hR; exact hR
theorem policy_formed_1.ok (R : Bool → Prop) (act : Int) (hR : R (Sp.awayB act)) : policy_formed_1.vc R act := by
  unfold policy_formed_1.vc
  unfold Sp.awayB at hR
  cases h : decide (act = 2) with
  | true => rw [h] at hR; exact hR
  | false => rw [h] at hR; exact hR
theorem policy_formed_2.ok (R : Bool → Prop) (s : Str) (h : Sp.oddS.pre s) (hR : R (Sp.oddS s)) : policy_formed_2.vc R s := by
  unfold policy_formed_2.vc
  unfold Sp.oddS at hR
  cases h2 : decide (s = []) with
  | true => rw [h2] at hR; exact hR
  | false => rw [h2] at hR; exact ⟨h, hR⟩
theorem policy_right_1.ok (R : Bool → Prop) (s : Str) (hR : R (Sp.notName s)) : policy_right_1.vc R s := hR

theorem Index_wide.ok (R : Int → Prop) (l : List (Str × Int × List Str × List Str)) (h : Sp.rules.pre l) (hR : R (Sp.idxWide l)) : Index_wide.vc R l := by
  have hlen := (show l.length ≤ 1000 from h)
  refine Lp_rule (fun v => ∃ p : Nat, v = (l, (l.length : Int), (p : Int), ()) ∧ p ≤ l.length ∧ Sp.shI p (Sp.idxG Sp.wideR (l.drop p)) = Sp.idxG Sp.wideR l) (fun v => l.length - v.2.2.1.toNat) ?_ ⟨0, rfl, Nat.zero_le _, Sp.shI_zero _⟩
  rintro _ K ⟨p, rfl, hp, he⟩ hK
  show Index_wide.L0 R l (l.length : Int) (p : Int) K
  unfold Index_wide.L0
  rw [cond_dec]
  split
  · rename_i c1
    have hp' : p < l.length := by omega
    have hm := Sp.nth_mem (d := (([], 0, [], []) : Str × Int × List Str × List Str)) hp'
    rw [drop_cons (d := (([], 0, [], []) : Str × Int × List Str × List Str)) hp', Sp.idxG] at he
    generalize nth l (p : Int) (([], 0, [], []) : Str × Int × List Str × List Str) = x at *
    refine ⟨by rw [ix_iff]; omega, ?_⟩
    show bif Sp.wideR x then _ else _
    cases hx : Sp.wideR x with
    | true =>
      rw [if_pos hx] at he
      have : R (Sp.idxG Sp.wideR l) := hR
      rw [← he, Sp.shI_at] at this
      exact this
    | false =>
      rw [if_neg (by rw [hx]; simp)] at he
      exact ⟨by rw [rg64]; omega, hK _ ⟨p + 1, rfl, by omega, by rw [← he]; exact Sp.shI_succ _ _ _⟩ (by simp; omega)⟩
  · have : p = l.length := by omega
    subst this
    rw [List.drop_length] at he
    have : R (Sp.idxG Sp.wideR l) := hR
    rw [← he] at this
    exact this

theorem Index_nn.ok (R : Int → Prop) (l : List Str) (h : Sp.strs.pre l) (hR : R (Sp.idxNN l)) : Index_nn.vc R l := by
  have hlen := h.1
  refine Lp_rule (fun v => ∃ p : Nat, v = (l, (l.length : Int), (p : Int), ()) ∧ p ≤ l.length ∧ Sp.shI p (Sp.idxG Sp.notName (l.drop p)) = Sp.idxG Sp.notName l) (fun v => l.length - v.2.2.1.toNat) ?_ ⟨0, rfl, Nat.zero_le _, Sp.shI_zero _⟩
  rintro _ K ⟨p, rfl, hp, he⟩ hK
  show Index_nn.L0 R l (l.length : Int) (p : Int) K
  unfold Index_nn.L0
  rw [cond_dec]
  split
  · rename_i c1
    have hp' : p < l.length := by omega
    have hm := Sp.nth_mem (d := ([] : Str)) hp'
    rw [drop_cons (d := ([] : Str)) hp', Sp.idxG] at he
    generalize nth l (p : Int) ([] : Str) = x at *
    refine ⟨by rw [ix_iff]; omega, ?_⟩
    show bif Sp.notName x then _ else _
    cases hx : Sp.notName x with
    | true =>
      rw [if_pos hx] at he
      have : R (Sp.idxG Sp.notName l) := hR
      rw [← he, Sp.shI_at] at this
      exact this
    | false =>
      rw [if_neg (by rw [hx]; simp)] at he
      exact ⟨by rw [rg64]; omega, hK _ ⟨p + 1, rfl, by omega, by rw [← he]; exact Sp.shI_succ _ _ _⟩ (by simp; omega)⟩
  · have : p = l.length := by omega
    subst this
    rw [List.drop_length] at he
    have : R (Sp.idxG Sp.notName l) := hR
    rw [← he] at this
    exact this

theorem Index_odd.ok (R : Int → Prop) (l : List Str) (h : Sp.strs.pre l) (hR : R (Sp.idxOdd l)) : Index_odd.vc R l := by
  have hlen := h.1
  refine Lp_rule (fun v => ∃ p : Nat, v = (l, (l.length : Int), (p : Int), ()) ∧ p ≤ l.length ∧ Sp.shI p (Sp.idxG Sp.oddS (l.drop p)) = Sp.idxG Sp.oddS l) (fun v => l.length - v.2.2.1.toNat) ?_ ⟨0, rfl, Nat.zero_le _, Sp.shI_zero _⟩
  rintro _ K ⟨p, rfl, hp, he⟩ hK
  show Index_odd.L0 R l (l.length : Int) (p : Int) K
  unfold Index_odd.L0
  rw [cond_dec]
  split
  · rename_i c1
    have hp' : p < l.length := by omega
    have hm := Sp.nth_mem (d := ([] : Str)) hp'
    rw [drop_cons (d := ([] : Str)) hp', Sp.idxG] at he
    generalize nth l (p : Int) ([] : Str) = x at *
    refine ⟨by rw [ix_iff]; omega, h.2 x hm, ?_⟩
    show bif Sp.oddS x then _ else _
    cases hx : Sp.oddS x with
    | true =>
      rw [if_pos hx] at he
      have : R (Sp.idxG Sp.oddS l) := hR
      rw [← he, Sp.shI_at] at this
      exact this
    | false =>
      rw [if_neg (by rw [hx]; simp)] at he
      exact ⟨by rw [rg64]; omega, hK _ ⟨p + 1, rfl, by omega, by rw [← he]; exact Sp.shI_succ _ _ _⟩ (by simp; omega)⟩
  · have : p = l.length := by omega
    subst this
    rw [List.drop_length] at he
    have : R (Sp.idxG Sp.oddS l) := hR
    rw [← he] at this
    exact this

theorem Index_nr.ok (R : Int → Prop) (l : List (Str × Int × List Str × List Str)) (h : Sp.rulesOk l) (hR : R (Sp.idxNR l)) : Index_nr.vc R l := by
  have hlen := h.1
  refine Lp_rule (fun v => ∃ p : Nat, v = (l, (l.length : Int), (p : Int), ()) ∧ p ≤ l.length ∧ Sp.shI p (Sp.idxG Sp.notRight (l.drop p)) = Sp.idxG Sp.notRight l) (fun v => l.length - v.2.2.1.toNat) ?_ ⟨0, rfl, Nat.zero_le _, Sp.shI_zero _⟩
  rintro _ K ⟨p, rfl, hp, he⟩ hK
  show Index_nr.L0 R l (l.length : Int) (p : Int) K
  unfold Index_nr.L0
  rw [cond_dec]
  split
  · rename_i c1
    have hp' : p < l.length := by omega
    have hm := Sp.nth_mem (d := (([], 0, [], []) : Str × Int × List Str × List Str)) hp'
    rw [drop_cons (d := (([], 0, [], []) : Str × Int × List Str × List Str)) hp', Sp.idxG] at he
    generalize nth l (p : Int) (([], 0, [], []) : Str × Int × List Str × List Str) = x at *
    refine ⟨by rw [ix_iff]; omega, h.2 x hm, ?_⟩
    show bif Sp.notRight x then _ else _
    cases hx : Sp.notRight x with
    | true =>
      rw [if_pos hx] at he
      have : R (Sp.idxG Sp.notRight l) := hR
      rw [← he, Sp.shI_at] at this
      exact this
    | false =>
      rw [if_neg (by rw [hx]; simp)] at he
      exact ⟨by rw [rg64]; omega, hK _ ⟨p + 1, rfl, by omega, by rw [← he]; exact Sp.shI_succ _ _ _⟩ (by simp; omega)⟩
  · have : p = l.length := by omega
    subst this
    rw [List.drop_length] at he
    have : R (Sp.idxG Sp.notRight l) := hR
    rw [← he] at this
    exact this

theorem Index_rule.ok (R : Int → Str → Prop) (l : List (Str × Int × List Str × List Str)) (name : Str) (h : Sp.rules.pre l) (hR : R (Sp.idxR l name) name) : Index_rule.vc R l name := by
  have hlen := (show l.length ≤ 1000 from h)
  refine Lp_rule (fun v => ∃ p : Nat, v = (l, (l.length : Int), (p : Int), name, ()) ∧ p ≤ l.length ∧ Sp.shI p (Sp.idxG (fun r => Sp.hasN r name) (l.drop p)) = Sp.idxG (fun r => Sp.hasN r name) l) (fun v => l.length - v.2.2.1.toNat) ?_ ⟨0, rfl, Nat.zero_le _, Sp.shI_zero _⟩
  rintro _ K ⟨p, rfl, hp, he⟩ hK
  show Index_rule.L0 R l (l.length : Int) (p : Int) name K
  unfold Index_rule.L0
  rw [cond_dec]
  split
  · rename_i c1
    have hp' : p < l.length := by omega
    have hm := Sp.nth_mem (d := (([], 0, [], []) : Str × Int × List Str × List Str)) hp'
    rw [drop_cons (d := (([], 0, [], []) : Str × Int × List Str × List Str)) hp', Sp.idxG] at he
    generalize nth l (p : Int) (([], 0, [], []) : Str × Int × List Str × List Str) = x at *
    refine ⟨by rw [ix_iff]; omega, ?_⟩
    show bif Sp.hasN x name then _ else _
    cases hx : Sp.hasN x name with
    | true =>
      rw [if_pos hx] at he
      have : R (Sp.idxG (fun r => Sp.hasN r name) l) name := hR
      rw [← he, Sp.shI_at] at this
      exact this
    | false =>
      rw [if_neg (by rw [hx]; simp)] at he
      exact ⟨by rw [rg64]; omega, hK _ ⟨p + 1, rfl, by omega, by rw [← he]; exact Sp.shI_succ _ _ _⟩ (by simp; omega)⟩
  · have : p = l.length := by omega
    subst this
    rw [List.drop_length] at he
    have : R (Sp.idxG (fun r => Sp.hasN r name) l) name := hR
    rw [← he] at this
    exact this

theorem Index_attr.ok (R : Int → List (Str × Int × List Str × List Str) → List Str → Int → Int → Int → Int → Str → List (Str × Str) → Str → List Vi.Node → Prop) (l : List (Str × Str)) (rules : List (Str × Int × List Str × List Str)) (schemes : List Str) (others strange kind space : Int) (nname : Str) (attrs : List (Str × Str)) (text : Str) (kids : List Vi.Node) (h : Sp.polOk (rules, schemes, others, strange) ∧ Sp.attrsOk l) (hR : R (Sp.idxAt l (rules, schemes, others, strange) (Vi.Node.mk kind space nname attrs text kids)) rules schemes others strange kind space nname attrs text kids) : Index_attr.vc R l rules schemes others strange kind space nname attrs text kids := by
  have hlen := h.2.1
  refine Lp_rule (fun v => ∃ p : Nat, v = (l, (l.length : Int), (p : Int), rules, schemes, others, strange, kind, space, nname, attrs, text, kids, ()) ∧ p ≤ l.length ∧ Sp.shI p (Sp.idxG (fun a => Sp.notStays a (rules, schemes, others, strange) (Vi.Node.mk kind space nname attrs text kids)) (l.drop p)) = Sp.idxG (fun a => Sp.notStays a (rules, schemes, others, strange) (Vi.Node.mk kind space nname attrs text kids)) l) (fun v => l.length - v.2.2.1.toNat) ?_ ⟨0, rfl, Nat.zero_le _, Sp.shI_zero _⟩
  rintro _ K ⟨p, rfl, hp, he⟩ hK
  show Index_attr.L0 R l (l.length : Int) (p : Int) rules schemes others strange kind space nname attrs text kids K
  unfold Index_attr.L0
  rw [cond_dec]
  split
  · rename_i c1
    have hp' : p < l.length := by omega
    have hm := Sp.nth_mem (d := (([], []) : Str × Str)) hp'
    rw [drop_cons (d := (([], []) : Str × Str)) hp', Sp.idxG] at he
    generalize nth l (p : Int) (([], []) : Str × Str) = x at *
    refine ⟨by rw [ix_iff]; omega, ⟨h.1, h.2.2 x hm⟩, ?_⟩
    show bif Sp.notStays x (rules, schemes, others, strange) (Vi.Node.mk kind space nname attrs text kids) then _ else _
    cases hx : Sp.notStays x (rules, schemes, others, strange) (Vi.Node.mk kind space nname attrs text kids) with
    | true =>
      rw [if_pos hx] at he
      have : R (Sp.idxG (fun a => Sp.notStays a (rules, schemes, others, strange) (Vi.Node.mk kind space nname attrs text kids)) l) rules schemes others strange kind space nname attrs text kids := hR
      rw [← he, Sp.shI_at] at this
      exact this
    | false =>
      rw [if_neg (by rw [hx]; simp)] at he
      exact ⟨by rw [rg64]; omega, hK _ ⟨p + 1, rfl, by omega, by rw [← he]; exact Sp.shI_succ _ _ _⟩ (by simp; omega)⟩
  · have : p = l.length := by omega
    subst this
    rw [List.drop_length] at he
    have : R (Sp.idxG (fun a => Sp.notStays a (rules, schemes, others, strange) (Vi.Node.mk kind space nname attrs text kids)) l) rules schemes others strange kind space nname attrs text kids := hR
    rw [← he] at this
    exact this

theorem Contains_wide.ok (R : Bool → Prop) (l : List (Str × Int × List Str × List Str)) (h : Sp.rules.pre l) (hR : R (Sp.anyWide l)) : Contains_wide.vc R l := by
  refine ⟨h, ?_⟩
  rw [show decide (0 ≤ Sp.idxWide l) = Sp.anyWide l from Sp.idxG_any _ l]
  exact hR

theorem Contains_nn.ok (R : Bool → Prop) (l : List Str) (h : Sp.strs.pre l) (hR : R (Sp.anyNN l)) : Contains_nn.vc R l := by
  refine ⟨h, ?_⟩
  rw [show decide (0 ≤ Sp.idxNN l) = Sp.anyNN l from Sp.idxG_any _ l]
  exact hR

theorem Contains_odd.ok (R : Bool → Prop) (l : List Str) (h : Sp.strs.pre l) (hR : R (Sp.anyOdd l)) : Contains_odd.vc R l := by
  refine ⟨h, ?_⟩
  rw [show decide (0 ≤ Sp.idxOdd l) = Sp.anyOdd l from Sp.idxG_any _ l]
  exact hR

theorem Contains_nr.ok (R : Bool → Prop) (l : List (Str × Int × List Str × List Str)) (h : Sp.rulesOk l) (hR : R (Sp.anyNR l)) : Contains_nr.vc R l := by
  refine ⟨h, ?_⟩
  rw [show decide (0 ≤ Sp.idxNR l) = Sp.anyNR l from Sp.idxG_any _ l]
  exact hR

theorem Contains_attr.ok (R : Bool → List (Str × Int × List Str × List Str) → List Str → Int → Int → Int → Int → Str → List (Str × Str) → Str → List Vi.Node → Prop) (l : List (Str × Str)) (rules : List (Str × Int × List Str × List Str)) (schemes : List Str) (others strange kind space : Int) (nname : Str) (attrs : List (Str × Str)) (text : Str) (kids : List Vi.Node) (h : Sp.polOk (rules, schemes, others, strange) ∧ Sp.attrsOk l) (hR : R (Sp.anyAt l (rules, schemes, others, strange) (Vi.Node.mk kind space nname attrs text kids)) rules schemes others strange kind space nname attrs text kids) : Contains_attr.vc R l rules schemes others strange kind space nname attrs text kids := by
  refine ⟨h, ?_⟩
  rw [show decide (0 ≤ Sp.idxAt l (rules, schemes, others, strange) (Vi.Node.mk kind space nname attrs text kids)) = Sp.anyAt l (rules, schemes, others, strange) (Vi.Node.mk kind space nname attrs text kids) from Sp.idxG_any _ l]
  exact hR

theorem slices_Grow_string_string.ok (R : List Str → Prop) (n : Int) (h : Sp.growP n) (hR : R []) : slices_Grow_string_string.vc R n := by
  obtain ⟨h1, h2⟩ := h
  unfold slices_Grow_string_string.vc
  rw [cond_dec, if_neg (by omega)]
  refine ⟨by rw [rg64]; omega, by rw [rg64]; omega, ?_⟩
  rw [cond_dec]
  split
  · exact ⟨by rw [sb_iff]; omega, by rw [mk_iff]; omega, by rw [sb_iff]; omega, hR⟩
  · exact hR
theorem slices_Concat_string_string.ok (R : List Str → Prop) (l : List (List Str)) (h : Sp.concatS.pre l) (hR : R (Sp.concatS l)) : slices_Concat_string_string.vc R l := by
  obtain ⟨h1, h2⟩ := h
  have fl : ∀ p : Nat, p ≤ l.length → (l.take p).flatten.length ≤ 1000 * p := by
    intro p
    induction p with
    | zero => intro _; simp
    | succ p ih =>
      intro hp
      rw [take_succ (d := []) (by omega), List.flatten_append, List.length_append]
      have := ih (by omega)
      have := h2 _ (Sp.nth_mem (d := []) (show p < l.length by omega))
      simp only [List.flatten_cons, List.flatten_nil, List.append_nil]
      omega
  refine Lp_rule (fun v => ∃ p : Nat, v = (l, (((l.take p).flatten.length : Nat) : Int), l, (l.length : Int), (p : Int), ()) ∧ p ≤ l.length) (fun v => l.length - v.2.2.2.2.1.toNat) ?_ ⟨0, by simp, Nat.zero_le _⟩
  rintro _ K ⟨p, rfl, hp⟩ hK
  show slices_Concat_string_string.L0 R l (((l.take p).flatten.length : Nat) : Int) l (l.length : Int) (p : Int) K
  unfold slices_Concat_string_string.L0
  have hfl := fl p hp
  rw [cond_dec]
  split
  · rename_i c1
    have hp' : p < l.length := by omega
    have hx := h2 _ (Sp.nth_mem (d := []) hp')
    refine ⟨by rw [ix_iff]; omega, by rw [rg64]; omega, ?_⟩
    rw [cond_dec, if_neg (by omega)]
    refine ⟨by rw [rg64]; omega, hK _ ⟨p + 1, ?_, by omega⟩ (by simp; omega)⟩
    rw [take_succ (d := []) hp', List.flatten_append, List.length_append]
    simp
  · refine ⟨⟨by omega, by omega⟩, ?_⟩
    refine Lp_rule (fun v => ∃ q : Nat, v = (l, (l.length : Int), (q : Int), (l.take q).flatten, ()) ∧ q ≤ l.length) (fun v => l.length - v.2.2.1.toNat) ?_ ⟨0, by simp, Nat.zero_le _⟩
    rintro _ K1 ⟨q, rfl, hq⟩ hK1
    show slices_Concat_string_string.L1 R l (l.length : Int) (q : Int) (l.take q).flatten K1
    unfold slices_Concat_string_string.L1
    have hfq := fl q hq
    rw [cond_dec]
    split
    · have hq' : q < l.length := by omega
      have hx := h2 _ (Sp.nth_mem (d := []) hq')
      refine ⟨by rw [ix_iff]; omega, by rw [gr_iff]; omega, by rw [rg64]; omega, hK1 _ ⟨q + 1, ?_, by omega⟩ (by simp; omega)⟩
      rw [take_succ (d := []) hq', List.flatten_append]
      simp
    · rw [List.take_of_length_le (by omega)]
      exact hR
theorem policy_Rule_names.ok (R : List Str → Prop) (r : Str × Int × List Str × List Str) (h : Sp.ruleOkk r) (hR : R (Sp.namesR r)) : policy_Rule_names.vc R r := by
  obtain ⟨_, h2, h3, _⟩ := h
  refine ⟨⟨by simp, fun x hx => ?_⟩, ?_⟩
  · simp only [List.mem_cons, List.not_mem_nil, or_false] at hx
    rcases hx with rfl | rfl
    · exact h2
    · exact h3
  · have e : Sp.concatS [r.2.2.1, r.2.2.2] = Sp.namesR r := by unfold Sp.concatS Sp.namesR; simp
    rw [e]; exact hR
theorem policy_twice.ok (R : Bool → Prop) (l : List Str) (h : Sp.twiceL.pre l) (hR : R (Sp.twiceL l)) : policy_twice.vc R l := by
  have h : l.length ≤ 1000000 := h
  refine Lp_rule (fun v => ∃ p : Nat, v = (l, (l.length : Int), (p : Int), ()) ∧ p ≤ l.length ∧ Sp.twF (l.take p) (l.drop p) = Sp.twiceL l) (fun v => l.length - v.2.2.1.toNat) ?_ ⟨0, rfl, Nat.zero_le _, rfl⟩
  rintro _ K ⟨p, rfl, hp, he⟩ hK
  show policy_twice.L0 R l (l.length : Int) (p : Int) K
  unfold policy_twice.L0
  rw [cond_dec]
  split
  · rename_i c1
    have hp' : p < l.length := by omega
    have hs : sub l 0 (p : Int) = l.take p := by unfold sub; simp
    rw [drop_cons (d := ([] : Str)) hp', Sp.twF] at he
    rw [hs]
    refine ⟨by rw [sb_iff]; omega, by rw [ix_iff]; omega, by unfold Sp.idxS.pre; rw [List.length_take]; omega, ?_⟩
    unfold Sp.hasS
    rw [cond_dec]
    split
    · rename_i c
      rw [if_pos c] at he
      rw [← he] at hR; exact hR
    · rename_i c
      rw [if_neg c] at he
      exact ⟨by rw [rg64]; omega, hK _ ⟨p + 1, rfl, by omega, by rw [take_succ (d := []) hp']; exact he⟩ (by simp; omega)⟩
  · have : p = l.length := by omega
    subst this
    rw [List.drop_length, Sp.twF] at he
    rw [← he] at hR; exact hR
theorem policy_right.ok (R : Bool → Prop) (r : Str × Int × List Str × List Str) (h : Sp.ruleOkk r) (hR : R (Sp.rightR r)) : policy_right.vc R r := by
  refine ⟨h, Sp.strs_names h, ?_⟩
  unfold Sp.rightR at hR
  cases h1 : Sp.nameS r.1 with
  | false => rw [h1] at hR; exact hR
  | true =>
  rw [h1] at hR
  cases h2 : Sp.anyNN (Sp.namesR r) with
  | true => rw [h2] at hR; exact hR
  | false =>
  rw [h2] at hR
  cases h3 : decide (1 ≤ r.2.1) with
  | false => rw [h3] at hR; exact hR
  | true =>
  rw [h3] at hR
  cases h4 : decide (r.2.1 ≤ 3) with
  | false => rw [h4] at hR; exact hR
  | true =>
  rw [h4] at hR
  cases h5 : decide (r.2.1 = 1) with
  | false => rw [h5] at hR; exact hR
  | true => rw [h5] at hR; exact hR
theorem policy_formed_3.ok (R : Bool → Prop) (r : Str × Int × List Str × List Str) (h : Sp.ruleOkk r) (hR : R (Sp.notRight r)) : policy_formed_3.vc R r := ⟨h, hR⟩
theorem policy_short.ok (R : Bool → Prop) (p : List (Str × Int × List Str × List Str) × List Str × Int × Int) (h : Sp.polOkk p) (hR : R (Sp.shortP p)) : policy_short.vc R p := by
  unfold policy_short.vc
  unfold Sp.shortP at hR
  cases h1 : decide ((p.1.length : Int) ≤ 60) with
  | false => rw [h1] at hR; exact hR
  | true =>
  rw [h1] at hR
  cases h2 : decide ((p.2.1.length : Int) ≤ 20) with
  | false => rw [h2] at hR; exact hR
  | true => rw [h2] at hR; exact ⟨h.1, hR⟩
theorem policy_apart.ok (R : Bool → Prop) (p : List (Str × Int × List Str × List Str) × List Str × Int × Int) (h : Sp.polOkk p) (hR : R (Sp.apartP p)) : policy_apart.vc R p := by
  obtain ⟨h1, h2, h3, h4⟩ := h
  unfold Sp.apartP at hR
  unfold policy_apart.vc
  generalize p.1 = rs at *
  clear h2 h3
  refine Lp_rule (fun v => ∃ q : Nat, v = (rs, (rs.length : Int), (q : Int), (rs.take q).map (fun r => r.1), ()) ∧ q ≤ rs.length ∧ (rs.drop q).any (fun r => Sp.twiceL (Sp.namesR r)) = rs.any (fun r => Sp.twiceL (Sp.namesR r))) (fun v => rs.length - v.2.2.1.toNat) ?_ ⟨0, by simp, Nat.zero_le _, by simp⟩
  rintro _ K ⟨q, rfl, hq, he⟩ hK
  simp only [policy_apart.L0]
  have hl : ((rs.take q).map (fun r => r.1)).length = q := by rw [List.length_map, List.length_take]; omega
  rw [cond_dec]
  split
  · have hq' : q < rs.length := by omega
    have hm := Sp.nth_mem (d := (([], 0, [], []) : Str × Int × List Str × List Str)) hq'
    have ht := take_succ (d := (([], 0, [], []) : Str × Int × List Str × List Str)) hq'
    rw [drop_cons (d := (([], 0, [], []) : Str × Int × List Str × List Str)) hq', List.any_cons] at he
    generalize nth rs (q : Int) (([], 0, [], []) : Str × Int × List Str × List Str) = r at *
    have hn := (Sp.strs_names (h4 r hm)).1
    refine ⟨by rw [ix_iff]; omega, by rw [gr_iff, hl]; omega, h4 r hm, hn, ?_⟩
    cases hx : Sp.twiceL (Sp.namesR r) with
    | true =>
      rw [hx, Bool.true_or] at he
      rw [← he] at hR
      exact hR
    | false =>
      rw [hx, Bool.false_or] at he
      refine ⟨by rw [rg64]; omega, hK _ ⟨q + 1, ?_, by omega, he⟩ (by simp only; omega)⟩
      rw [ht, List.map_append]
      rfl
  · have hqe : q = rs.length := by omega
    subst hqe
    rw [List.drop_length, List.any_nil] at he
    rw [← he] at hR
    rw [List.take_length]
    refine ⟨?_, hR⟩
    unfold Sp.twiceL.pre
    rw [List.length_map]; omega
theorem policy_formed.ok (R : Bool → Prop) (p : List (Str × Int × List Str × List Str) × List Str × Int × Int) (h : Sp.polOkk p) (hR : R (Sp.formedP p)) : policy_formed.vc R p := by
  obtain ⟨h1, h2, h3, h4⟩ := h
  refine ⟨⟨by omega, h3⟩, ?_⟩
  unfold Sp.formedP at hR
  cases k1 : Sp.awayB p.2.2.1 with
  | false => rw [k1] at hR; exact hR
  | true =>
  rw [k1] at hR
  cases k2 : Sp.awayB p.2.2.2 with
  | false => rw [k2] at hR; exact hR
  | true =>
  rw [k2] at hR
  cases k3 : Sp.anyOdd p.2.1 with
  | true => rw [k3] at hR; exact hR
  | false => rw [k3] at hR; exact ⟨⟨h1, h4⟩, hR⟩
set_option maxHeartbeats 2000000 in
theorem policy_Check.ok (R : Int → Prop) (p : List (Str × Int × List Str × List Str) × List Str × Int × Int) (h : Sp.polOkk p) (hR : R (Sp.checkP p)) : policy_Check.vc R p := by
  obtain ⟨rs, sc, o, st⟩ := p
  have go (i : Int) (hi : i = 0 ∨ i = 1 ∨ i = 2 ∨ i = 3) (k1 : 0 < i → Sp.shortP (rs, sc, o, st) = true) (k2 : 1 < i → Sp.apartP (rs, sc, o, st) = true) (k3 : 2 < i → Sp.formedP (rs, sc, o, st) = true)
      (K : Int × Int × Int × Int × Int × List (Str × Int × List Str × List Str) × List Str × Int × Int × Unit → Prop)
      (hK : ∀ j : Int, j = i + 1 → (j = 1 ∨ j = 2 ∨ j = 3) → (0 < j → Sp.shortP (rs, sc, o, st) = true) → (1 < j → Sp.apartP (rs, sc, o, st) = true) → (2 < j → Sp.formedP (rs, sc, o, st) = true) → K (((3 : Nat) : Int), j, 2, 8, 4, rs, sc, o, st, ())) :
      policy_Check.L0 R ((3 : Nat) : Int) i 2 8 4 rs sc o st K := by
    unfold policy_Check.L0
    unfold Sp.checkP at hR
    rcases hi with rfl | rfl | rfl | rfl
    · rw [cond_dec, if_pos (by omega), cond_dec, if_pos rfl]
      refine ⟨by rw [ix_iff]; omega, h, ?_⟩
      cases c : Sp.shortP (rs, sc, o, st) with
      | false => rw [c, if_pos rfl] at hR; exact hR
      | true => exact ⟨by rw [rg64]; omega, hK 1 rfl (.inl rfl) (fun _ => c) (fun e => absurd e (by omega)) (fun e => absurd e (by omega))⟩
    · rw [k1 (by omega), if_neg (by simp)] at hR
      rw [cond_dec, if_pos (by omega), cond_dec, if_neg (by omega), cond_dec, if_pos rfl]
      refine ⟨by rw [ix_iff]; omega, h, ?_⟩
      cases c : Sp.apartP (rs, sc, o, st) with
      | false => rw [c, if_pos rfl] at hR; exact hR
      | true => exact ⟨by rw [rg64]; omega, hK 2 rfl (.inr (.inl rfl)) (fun _ => k1 (by omega)) (fun _ => c) (fun e => absurd e (by omega))⟩
    · rw [k1 (by omega), if_neg (by simp), k2 (by omega), if_neg (by simp)] at hR
      rw [cond_dec, if_pos (by omega), cond_dec, if_neg (by omega), cond_dec, if_neg (by omega)]
      refine ⟨by rw [ix_iff]; omega, h, ?_⟩
      cases c : Sp.formedP (rs, sc, o, st) with
      | false => rw [c, if_pos rfl] at hR; exact hR
      | true => exact ⟨by rw [rg64]; omega, hK 3 rfl (.inr (.inr rfl)) (fun _ => k1 (by omega)) (fun _ => k2 (by omega)) (fun _ => c)⟩
    · rw [k1 (by omega), if_neg (by simp), k2 (by omega), if_neg (by simp), k3 (by omega), if_neg (by simp)] at hR
      rw [cond_dec, if_neg (by omega)]
      exact hR
  refine Lp_rule (fun v => ∃ i : Int, v = (((3 : Nat) : Int), i, 2, 8, 4, rs, sc, o, st, ()) ∧ (i = 0 ∨ i = 1 ∨ i = 2 ∨ i = 3) ∧ (0 < i → Sp.shortP (rs, sc, o, st) = true) ∧ (1 < i → Sp.apartP (rs, sc, o, st) = true) ∧ (2 < i → Sp.formedP (rs, sc, o, st) = true)) (fun v => (4 - v.2.1).toNat) ?_
    ⟨0, rfl, .inl rfl, fun e => absurd e (by omega), fun e => absurd e (by omega), fun e => absurd e (by omega)⟩
  rintro _ K ⟨i, rfl, hi, k1, k2, k3⟩ hK
  exact go i hi k1 k2 k3 K (fun j hj hj2 q1 q2 q3 => hK _ ⟨j, rfl, .inr hj2, q1, q2, q3⟩ (by simp only; omega))
theorem policy_Policy_rule_1.ok (R : Bool → Str → Prop) (r : Str × Int × List Str × List Str) (name : Str) (hR : R (Sp.hasN r name) name) : policy_Policy_rule_1.vc R r name := hR
theorem policy_Policy_rule.ok (R : Str × Int × List Str × List Str → Prop) (p : List (Str × Int × List Str × List Str) × List Str × Int × Int) (name : Str) (h : Sp.ruleP.pre p name) (hR : R (Sp.ruleP p name)) : policy_Policy_rule.vc R p name := by
  obtain ⟨h1, h2, h3, h4⟩ := h
  refine ⟨h1, ?_⟩
  unfold Sp.ruleP at hR
  rw [Sp.idxG_find _ (([], 0, [], []) : Str × Int × List Str × List Str)] at hR
  have hr := Sp.idxG_range (fun r => Sp.hasN r name) p.1
  show bif decide (0 ≤ Sp.idxG (fun r => Sp.hasN r name) p.1) then Ix (Sp.idxG (fun r => Sp.hasN r name) p.1) p.1.length ∧ R (nth p.1 (Sp.idxG (fun r => Sp.hasN r name) p.1) ([], 0, [], [])) else R ([], p.2.2.1, [], [])
  generalize Sp.idxG (fun r => Sp.hasN r name) p.1 = i at *
  rw [cond_dec]
  split
  · rename_i c
    rw [if_pos c] at hR
    exact ⟨by rw [ix_iff]; omega, hR⟩
  · rename_i c
    rw [if_neg c] at hR
    exact hR
theorem policy_Policy_act.ok (R : Int → Prop) (p : List (Str × Int × List Str × List Str) × List Str × Int × Int) (space : Int) (name : Str) (h : Sp.actP.pre p space name) (hR : R (Sp.actP p space name)) : policy_Policy_act.vc R p space name := by
  unfold policy_Policy_act.vc
  unfold Sp.actP at hR
  rw [cond_ndec]
  split
  · rename_i c; rw [if_neg (fun q => q c)] at hR; exact ⟨h, hR⟩
  · rename_i c; rw [if_pos c] at hR; exact hR
theorem Sp.rule_ok {p : Pol} {name : Str} (h : polOk p) : ruleOk (ruleP p name) := by
  unfold ruleP
  split
  · rename_i r e
    exact h.2.2.2 r (List.mem_of_find?_eq_some e)
  · exact ⟨by simp, by simp, by simp, fun s hs => absurd hs List.not_mem_nil, fun s hs => absurd hs List.not_mem_nil⟩
theorem policy_Policy_stays.ok (R : Bool → Prop) (p : List (Str × Int × List Str × List Str) × List Str × Int × Int) (name : Str) (a : Str × Str) (h : Sp.staysP.pre p name a) (hR : R (Sp.staysP p name a)) : policy_Policy_stays.vc R p name a := by
  obtain ⟨hp, ha⟩ := h
  have hro := Sp.rule_ok (name := name) hp
  obtain ⟨_, h2, h3, _⟩ := hro
  refine ⟨hp, ?_⟩
  unfold Sp.staysP at hR
  generalize Sp.ruleP p name = r at *
  cases k1 : decide (r.2.1 = 1) with
  | false => rw [k1] at hR; exact hR
  | true =>
  rw [k1, Bool.true_and] at hR
  refine ⟨by unfold Sp.idxS.pre; omega, ?_⟩
  cases k2 : Sp.hasS r.2.2.1 a.1 with
  | true => rw [k2] at hR; exact hR
  | false =>
  rw [k2, Bool.false_or] at hR
  refine ⟨by unfold Sp.idxS.pre; omega, ?_⟩
  cases k3 : Sp.hasS r.2.2.2 a.1 with
  | false => rw [k3] at hR; exact hR
  | true =>
    rw [k3] at hR
    exact ⟨⟨ha, by have := hp.2.1; omega⟩, hR⟩
theorem policy_Act.ok (R : Int → Prop) (p : List (Str × Int × List Str × List Str) × List Str × Int × Int) (space : Int) (name : Str) (h : Sp.actC.pre p space name) (hR : R (Sp.actC p space name)) : policy_Act.vc R p space name := by
  refine ⟨h, ?_⟩
  unfold Sp.actC at hR
  rw [cond_ndec]
  split
  · rename_i c; rw [if_neg (fun q => q c)] at hR; exact ⟨h, hR⟩
  · rename_i c; rw [if_pos c] at hR; exact hR
theorem policy_Stays.ok (R : Bool → Prop) (p : List (Str × Int × List Str × List Str) × List Str × Int × Int) (name : Str) (a : Str × Str) (h : Sp.staysC.pre p name a) (hR : R (Sp.staysC p name a)) : policy_Stays.vc R p name a := by
  refine ⟨h.1, ?_⟩
  unfold Sp.staysC at hR
  cases k1 : decide (Sp.checkP p = 0) with
  | false => rw [k1] at hR; exact hR
  | true => rw [k1] at hR; exact ⟨h, hR⟩
theorem policy_Policy_allows_1.ok (R : Bool → List (Str × Int × List Str × List Str) → List Str → Int → Int → Int → Int → Str → List (Str × Str) → Str → List Vi.Node → Prop) (a : Str × Str) (rules : List (Str × Int × List Str × List Str)) (schemes : List Str) (others strange kind space : Int) (nname : Str) (attrs : List (Str × Str)) (text : Str) (kids : List Vi.Node)
    (h : Sp.staysP.pre (rules, schemes, others, strange) (Vi.Node.mk kind space nname attrs text kids).name a) (hR : R (Sp.notStays a (rules, schemes, others, strange) (Vi.Node.mk kind space nname attrs text kids)) rules schemes others strange kind space nname attrs text kids) : policy_Policy_allows_1.vc R a rules schemes others strange kind space nname attrs text kids := ⟨h, hR⟩
theorem policy_Policy_allows.ok (R : Bool → Prop) (p : List (Str × Int × List Str × List Str) × List Str × Int × Int) (n : Vi.Node) (h : Sp.allowsN.pre p n) (hR : R (Sp.allowsN p n)) : policy_Policy_allows.vc R p n := by
  unfold policy_Policy_allows.vc
  unfold Sp.allowsN at hR
  rw [cond_dec]
  split
  · rename_i c; rw [if_pos c] at hR; exact hR
  rename_i c
  rw [if_neg c] at hR
  rw [cond_dec]
  split
  · rename_i c2
    rw [if_pos c2] at hR
    refine ⟨h, h.1, ?_⟩
    rw [Vi.Node.eta]
    cases k : decide (Sp.actP p n.space n.name = 1) with
    | true => rw [k] at hR; exact hR
    | false => rw [k] at hR; exact hR
  · rename_i c2; rw [if_neg c2] at hR; exact hR
theorem policy_Allows.ok (R : Bool → Prop) (p : List (Str × Int × List Str × List Str) × List Str × Int × Int) (l : List Vi.Node) (h : Sp.allowsP.pre p l) (hR : R (Sp.allowsP p l)) : policy_Allows.vc R p l := by
  refine ⟨h.1, ?_⟩
  unfold Sp.allowsP at hR
  rw [cond_ndec]
  split
  · rename_i c; rw [decide_eq_true c] at hR; exact ⟨h, hR⟩
  · rename_i c; rw [decide_eq_false c] at hR; exact hR

/- What may stand in a page, on: the document's answers. Plain theorems. -/

namespace Sp
theorem szN_eq (n : Vi.Node) : szN n = szL n.kids + 1 := by cases n; rw [szN]; rfl
theorem szN_eq' (n : Vi.Node) : szN n = 1 + szL n.kids := by rw [szN_eq]; omega
theorem szL_mem : ∀ {l : List Vi.Node} {n : Vi.Node}, n ∈ l → szN n ≤ szL l
  | x :: l, n, h => by
    rw [szL]
    rcases List.mem_cons.1 h with rfl | h
    · omega
    · have := szL_mem h; omega
theorem szL_lt {l : List Vi.Node} {n : Vi.Node} (h : n ∈ l) : szN n < szL l := by
  cases l with
  | nil => exact absurd h List.not_mem_nil
  | cons x l =>
    rw [szL]
    rcases List.mem_cons.1 h with rfl | h
    · omega
    · have := szL_mem h; omega
theorem okL_mem : ∀ {l : List Vi.Node} {n : Vi.Node}, okL l → n ∈ l → okN n
  | x :: l, n, h, hm => by
    rw [okL] at h
    rcases List.mem_cons.1 hm with rfl | hm
    · exact h.1
    · exact okL_mem h.2 hm
theorem okN_eq {n : Vi.Node} (h : okN n) : attrsOk n.attrs ∧ nodesOk n.kids := by
  cases n with
  | mk k s nm a t c => rw [okN] at h; exact ⟨h.1, h.2.1, h.2.2⟩
theorem fiN_eq (p : Pol) (n : Vi.Node) : fiN p n = if allowsN p n = false then (n, true) else fiL p n.kids := by cases n; rw [fiN]; rfl
end Sp
namespace Sp
abbrev rm2 (n : Vi.Node) (r : Int) : Int := r - 1 - (n.text.length : Int) / 16 - n.attrs.length
abbrev full (n : Vi.Node) (r : Int) : Prop := r - 1 < 0 ∨ 40 < (n.attrs.length : Int) ∨ 5000 < (n.text.length : Int) ∨ 100 < (n.name.length : Int)
abbrev anyLA (a : List (Str × Str)) : Bool := a.any (fun x => decide (100 < (x.1.length : Int) ∨ 2000 < (x.2.length : Int)))
theorem lgN_eq (n : Vi.Node) (r d : Int) : lgN n r d = if full n r then (true, r - 1) else if anyLA n.attrs = true then (true, rm2 n r) else lg n.kids (d + 1) (rm2 n r) := by
  cases n with
  | mk k s nm a t c =>
    rw [lgN]
    show (if _ then _ else _) = if (r - 1 < 0 ∨ 40 < (a.length : Int) ∨ 5000 < (t.length : Int) ∨ 100 < (nm.length : Int)) then (true, r - 1) else if anyLA a = true then (true, r - 1 - (t.length : Int) / 16 - a.length) else lg c (d + 1) (r - 1 - (t.length : Int) / 16 - a.length)
    generalize r - 1 - (t.length : Int) / 16 - a.length = r2
    unfold lg
    by_cases c1 : r - 1 < 0 ∨ 40 < (a.length : Int) ∨ 5000 < (t.length : Int) ∨ 100 < (nm.length : Int)
    · rw [if_pos c1, if_pos c1]
    rw [if_neg c1, if_neg c1]
    by_cases c2 : anyLA a = true
    · rw [if_pos c2, if_pos (.inl c2)]
    rw [if_neg c2]
    by_cases c3 : 60 < d + 1 ∨ 500 < (c.length : Int)
    · rw [if_pos c3, if_pos (.inr c3)]
    rw [if_neg c3, if_neg (fun h => h.elim c2 c3)]
    generalize lgL c r2 (d + 1) = z
    obtain ⟨z1, z2⟩ := z
    simp only
    cases z1 with
    | true => simp
    | false =>
      by_cases c4 : z2 < 0
      · simp [c4]
      · simp [c4]
mutual
theorem lgN_le : ∀ (n : Vi.Node) (r d : Int), (lgN n r d).2 ≤ r
  | .mk k s nm a t c, r, d => by
    have h := lgL_le c (r - 1 - (t.length : Int) / 16 - a.length) (d + 1)
    rw [lgN]
    split
    · simp only; omega
    split
    · simp only; omega
    split
    · simp only; omega
    · simp only; omega
theorem lgL_le : ∀ (l : List Vi.Node) (r d : Int), (lgL l r d).2 ≤ r
  | [], r, d => by rw [lgL]; exact Int.le_refl _
  | n :: l, r, d => by
    have h1 := lgN_le n r d
    have h2 := lgL_le l (lgN n r d).2 d
    rw [lgL]
    split <;> omega
end
theorem lg_le (l : List Vi.Node) (d r : Int) : (lg l d r).2 ≤ r := by
  have := lgL_le l r d
  unfold lg
  split
  · exact Int.le_refl _
  split
  · exact this
  · exact this
theorem lg_nonneg {l : List Vi.Node} {d r : Int} (h : (lg l d r).1 = false) : 0 ≤ (lg l d r).2 := by
  unfold lg at *
  split at h
  · cases h
  rename_i c
  rw [if_neg c]
  split at h
  · rename_i c2; rw [c2] at h; cases h
  · rename_i c2
    rw [if_neg c2]
    simp only [decide_eq_false_iff_not] at h
    simp only; omega
end Sp

theorem rectoplain_Large.ok (nn : Nat) (R : Bool → Int → Prop) (l : List Vi.Node) (depth room : Int) (h : Sp.lg.pre l depth room ∧ Sp.mLg l depth room < nn + 1) (hR : R (Sp.lg l depth room).1 (Sp.lg l depth room).2) : rectoplain_Large.vc R nn l depth room := by
  obtain ⟨⟨h1, h2, h3, h4⟩, h5⟩ := h
  unfold Sp.mLg at h5
  unfold Sp.lg at hR
  unfold rectoplain_Large.vc
  rw [cond_dec, cond_dec]
  split
  · rename_i c; rw [if_pos (.inl c)] at hR; exact hR
  rename_i c1
  split
  · rename_i c; rw [if_pos (.inr c)] at hR; exact hR
  rename_i c2
  rw [if_neg (fun h => h.elim c1 c2)] at hR
  have hT (z : Int) (hz : Sp.lgL l room depth = (true, z)) : R true z := by rw [hz, if_pos rfl] at hR; exact hR
  refine Lp_rule (fun v => ∃ (p : Nat) (r : Int), v = (depth, l, (l.length : Int), (p : Int), r, ()) ∧ p ≤ l.length ∧ -1000 ≤ r ∧ r ≤ room ∧ Sp.lgL (l.drop p) r depth = Sp.lgL l room depth) (fun v => l.length - v.2.2.2.1.toNat) ?_ ⟨0, room, rfl, Nat.zero_le _, h3, Int.le_refl _, rfl⟩
  rintro _ K ⟨p, r, rfl, hp, hr1, hr2, he⟩ hK
  simp only [rectoplain_Large.L0, cond_dec]
  split
  · rename_i c
    have hp' : p < l.length := by omega
    have hm : nth l (p : Int) (Vi.Node.mk 0 0 [] [] [] []) ∈ l := Sp.nth_mem hp'
    rw [drop_cons (d := Vi.Node.mk 0 0 [] [] [] []) hp', Sp.lgL] at he
    have hs := Sp.szL_mem hm
    rw [ix_iff]
    refine ⟨by omega, by rw [rg64]; omega, ?_⟩
    generalize nth l (p : Int) (Vi.Node.mk 0 0 [] [] [] []) = n at *
    rw [Sp.szN_eq'] at hs
    have hE := Sp.lgN_eq n r depth
    have hbad (z : Int) (hz : Sp.lgN n r depth = (true, z)) : R true z := hT z (by rw [← he, hz, if_pos rfl])
    split
    · rename_i c3; exact hbad _ (by rw [hE, if_pos (.inl c3)])
    rename_i c3
    split
    · rename_i c4; exact hbad _ (by rw [hE, if_pos (.inr (.inl c4))])
    rename_i c4
    split
    · rename_i c5; exact hbad _ (by rw [hE, if_pos (.inr (.inr (.inl c5)))])
    rename_i c5
    split
    · rename_i c6; exact hbad _ (by rw [hE, if_pos (.inr (.inr (.inr c6)))])
    rename_i c6
    rw [if_neg (fun h => h.elim c3 fun h => h.elim c4 fun h => h.elim c5 c6)] at hE
    simp only [dv_iff, rg64]
    refine ⟨by omega, by omega, by omega, ?_⟩
    have hr2b : -1000 ≤ Sp.rm2 n r ∧ Sp.rm2 n r ≤ room := by unfold Sp.rm2; omega
    show Lp _ (depth, l, (l.length : Int), (p : Int), n.attrs, (n.attrs.length : Int), 0, Sp.rm2 n r, n.kind, n.space, n.name, n.attrs, n.text, n.kids, ())
    generalize Sp.rm2 n r = r2 at *
    refine Lp_rule (fun v => ∃ q : Nat, v = (depth, l, (l.length : Int), (p : Int), n.attrs, (n.attrs.length : Int), (q : Int), r2, n.kind, n.space, n.name, n.attrs, n.text, n.kids, ()) ∧ q ≤ n.attrs.length ∧ Sp.anyLA (n.attrs.drop q) = Sp.anyLA n.attrs)
      (fun v => n.attrs.length - v.2.2.2.2.2.2.1.toNat) ?_ ⟨0, rfl, Nat.zero_le _, rfl⟩
    rintro _ K1 ⟨q, rfl, hq, ha⟩ hK1
    simp only [rectoplain_Large.L1, cond_dec]
    split
    · rename_i c7
      have hq' : q < n.attrs.length := by omega
      rw [drop_cons (d := ([], [])) hq'] at ha
      rw [ix_iff]
      refine ⟨by omega, ?_⟩
      unfold Sp.anyLA at ha
      rw [List.any_cons] at ha
      generalize nth n.attrs (q : Int) ([], []) = x at *
      split
      · rename_i c8
        refine hbad _ ?_
        rw [hE, if_pos]
        unfold Sp.anyLA
        rw [← ha, decide_eq_true (.inl c8)]; rfl
      rename_i c8
      split
      · rename_i c9
        refine hbad _ ?_
        rw [hE, if_pos]
        unfold Sp.anyLA
        rw [← ha, decide_eq_true (.inr c9)]; rfl
      rename_i c9
      rw [decide_eq_false (fun h => h.elim c8 c9), Bool.false_or] at ha
      exact ⟨by rw [rg64]; omega, hK1 _ ⟨q + 1, rfl, by omega, ha⟩ (by simp; omega)⟩
    · rename_i c7
      rw [drop_end (by omega)] at ha
      have ha' : Sp.anyLA n.attrs = false := ha.symm
      rw [ha', if_neg (by decide)] at hE
      have hle := Sp.lg_le n.kids (depth + 1) r2
      have hnn := @Sp.lg_nonneg n.kids (depth + 1) r2
      refine ⟨by rw [rg64]; omega, ⟨⟨by omega, by omega, by omega, by omega⟩, by unfold Sp.mLg; omega⟩, ?_⟩
      rw [← hE] at hle hnn ⊢
      generalize Sp.lgN n r depth = z at *
      obtain ⟨z1, z2⟩ := z
      simp only at hle hnn he ⊢
      cases z1 with
      | true => exact hbad _ rfl
      | false =>
        have := hnn rfl
        refine ⟨by rw [rg64]; omega, hK _ ⟨p + 1, z2, rfl, by omega, by omega, by omega, ?_⟩ (by simp; omega)⟩
        rw [← he, if_neg (by decide)]
  · rename_i c
    rw [drop_end (by omega), Sp.lgL] at he
    rw [← he, if_neg (by simp)] at hR
    exact hR


theorem policy_Policy_first.ok (nn : Nat) (R : Vi.Node → Bool → Prop) (p : List (Str × Int × List Str × List Str) × List Str × Int × Int) (l : List Vi.Node) (h : Sp.fiL.pre p l ∧ Sp.mFi p l < nn + 1) (hR : R (Sp.fiL p l).1 (Sp.fiL p l).2) : policy_Policy_first.vc R nn p l := by
  obtain ⟨⟨hp, hl1, hl2⟩, hs⟩ := h
  unfold Sp.mFi at hs
  obtain ⟨rs, sc, o, st⟩ := p
  refine Lp_rule (fun v => ∃ q : Nat, v = (l, (l.length : Int), (q : Int), rs, sc, o, st, 0, 0, [], [], [], [], ()) ∧ q ≤ l.length ∧ Sp.fiL (rs, sc, o, st) (l.drop q) = Sp.fiL (rs, sc, o, st) l) (fun v => l.length - v.2.2.1.toNat) ?_ ⟨0, rfl, Nat.zero_le _, rfl⟩
  rintro _ K ⟨q, rfl, hq, he⟩ hK
  simp only [policy_Policy_first.L0, Vi.Node.eta]
  rw [cond_dec]
  split
  · have hq' : q < l.length := by omega
    have hm := Sp.nth_mem (d := Vi.Node.mk 0 0 [] [] [] []) hq'
    rw [drop_cons (d := Vi.Node.mk 0 0 [] [] [] []) hq', Sp.fiL] at he
    have hz := Sp.szL_lt hm
    generalize nth l (q : Int) (Vi.Node.mk 0 0 [] [] [] []) = n at *
    rw [Sp.szN_eq] at hz
    obtain ⟨ho1, ho2⟩ := Sp.okN_eq (Sp.okL_mem hl2 hm)
    have hf := Sp.fiN_eq (rs, sc, o, st) n
    refine ⟨by rw [ix_iff]; omega, ⟨hp, ho1⟩, ?_⟩
    cases c : Sp.allowsN (rs, sc, o, st) n with
    | false =>
      rw [c, if_pos rfl] at hf
      rw [hf, if_pos rfl] at he
      rw [← he] at hR
      exact hR
    | true =>
      rw [c, if_neg (by simp)] at hf
      rw [hf] at he
      clear hf
      refine ⟨⟨⟨hp, ho2⟩, by unfold Sp.mFi; omega⟩, ?_⟩
      generalize Sp.fiL (rs, sc, o, st) n.kids = z at *
      cases c2 : z.2 with
      | true =>
        rw [c2, if_pos rfl] at he
        rw [← he, c2] at hR
        exact hR
      | false =>
        rw [c2, if_neg (by simp)] at he
        exact ⟨by rw [rg64]; omega, hK _ ⟨q + 1, rfl, by omega, he⟩ (by simp; omega)⟩
  · have : q = l.length := by omega
    subst this
    rw [List.drop_length, Sp.fiL] at he
    rw [← he] at hR
    exact hR

namespace Sp
theorem nameB_more (x : Int) : nameB x = (smallB x || decide (48 ≤ x ∧ x ≤ 58) || decide (x = 45)) := by
  unfold nameB digB
  cases smallB x with
  | true => rfl
  | false =>
    simp only [Bool.false_or]
    by_cases h1 : 48 ≤ x ∧ x ≤ 57
    · rw [decide_eq_true h1, decide_eq_true (show 48 ≤ x ∧ x ≤ 58 by omega)]; rfl
    · rw [decide_eq_false h1]
      by_cases h2 : x = 45
      · rw [decide_eq_true h2]; simp
      · rw [decide_eq_false h2]
        by_cases h3 : x = 58
        · rw [decide_eq_true h3, decide_eq_true (show 48 ≤ x ∧ x ≤ 58 by omega)]; rfl
        · rw [decide_eq_false h3, decide_eq_false (show ¬ (48 ≤ x ∧ x ≤ 58) by omega)]; rfl
/-- May a byte stand there in a name? -/
def atB (p : Nat) (x : Int) : Bool := if p = 0 then smallB x else nameB x
theorem name_bad {s : Str} {p : Nat} (h : p < s.length) (hx : atB p ((nth s (p : Int) 0).toNat : Int) = false) : nameS s = false := by
  cases s with
  | nil => simp at h
  | cons x t =>
    show (decide ((x :: t).length ≤ 24) && smallB (x.toNat : Int) && allN (x :: t)) = false
    unfold atB at hx
    split at hx
    · rename_i c
      subst c
      have : smallB (x.toNat : Int) = false := hx
      rw [this, Bool.and_false, Bool.false_and]
    · have : allN (x :: t) = false := by
        unfold allN
        rw [List.all_eq_false]
        exact ⟨_, nth_mem (d := 0) h, by rw [hx]; simp⟩
      rw [this, Bool.and_false]
end Sp

theorem rectoref06_Name.ok (R : Bool → Prop) (s : Str) (h : Sp.nameS.pre s) (hR : R (Sp.nameS s)) : rectoref06_Name.vc R s := by
  have h : s.length ≤ 9223372036854775807 := h
  refine Lp_rule (fun v => ∃ p : Nat, v = (s, (p : Int), ()) ∧ p ≤ s.length ∧ (∀ q : Nat, q < p → Sp.atB q ((nth s (q : Int) 0).toNat : Int) = true)) (fun v => s.length - v.2.1.toNat) ?_ ⟨0, rfl, Nat.zero_le _, fun q hq => by omega⟩
  rintro _ K ⟨p, rfl, hp, hall⟩ hK
  simp only [rectoref06_Name.L0, cond_dec, cond_ndec]
  split
  · rename_i c1
    have hp' : p < s.length := by omega
    have bad : Sp.atB p ((nth s (p : Int) 0).toNat : Int) = false → R false := fun hb => by
      rw [Sp.name_bad hp' hb] at hR; exact hR
    have good : Sp.atB p ((nth s (p : Int) 0).toNat : Int) = true → Rg IntKind.i64 ((p : Int) + 1) ∧ K (s, (p : Int) + 1, ()) := fun hb => by
      refine ⟨by rw [rg64]; omega, hK _ ⟨p + 1, rfl, by omega, fun q hq => ?_⟩ (by simp only; omega)⟩
      by_cases c : q = p
      · subst c; exact hb
      · exact hall q (by omega)
    have hix : Ix (p : Int) s.length := by rw [ix_iff]; omega
    unfold Sp.atB at bad good
    rw [Sp.nameB_more] at bad good
    unfold Sp.smallB at bad good
    generalize ((nth s (p : Int) 0).toNat : Int) = x at *
    have fin (b : Bool) (hb : (if p = 0 then decide (97 ≤ x ∧ x ≤ 122) else decide (97 ≤ x ∧ x ≤ 122) || decide (48 ≤ x ∧ x ≤ 58) || decide (x = 45)) = b) : (b = false → R false) ∧ (b = true → Rg IntKind.i64 ((p : Int) + 1) ∧ K (s, (p : Int) + 1, ())) :=
      ⟨fun e => bad (hb.trans e), fun e => good (hb.trans e)⟩
    clear bad good
    have hz : ((p : Int) = 0) ↔ p = 0 := by omega
    simp only [hz] at *
    rcases Nat.eq_zero_or_pos p with q5 | q5p
    · subst q5
      by_cases q1 : 97 ≤ x <;> by_cases q2 : x ≤ 122 <;> by_cases q3 : 48 ≤ x <;> by_cases q4 : x ≤ 58 <;> by_cases q6 : x = 45 <;> first
      | (exfalso; omega)
      | (simp only [q1, q2, q3, q4, q6, eq_self, and_self, and_true, and_false, true_and, false_and, decide_true, decide_false, Bool.or_false, Bool.or_true, Bool.false_or, Bool.true_or, if_true, if_false, not_true_eq_false, not_false_eq_true] at fin ⊢
         first
           | exact ⟨hix, (fin _ rfl).1 rfl⟩
           | exact ⟨hix, (fin _ rfl).2 rfl⟩
           | exact ⟨hix, hix, (fin _ rfl).1 rfl⟩
           | exact ⟨hix, hix, (fin _ rfl).2 rfl⟩
           | exact ⟨hix, hix, hix, (fin _ rfl).1 rfl⟩
           | exact ⟨hix, hix, hix, (fin _ rfl).2 rfl⟩
           | exact ⟨hix, hix, hix, hix, (fin _ rfl).1 rfl⟩
           | exact ⟨hix, hix, hix, hix, (fin _ rfl).2 rfl⟩
           | exact ⟨hix, hix, hix, hix, hix, (fin _ rfl).1 rfl⟩
           | exact ⟨hix, hix, hix, hix, hix, (fin _ rfl).2 rfl⟩)
    · have q5 : ¬ p = 0 := by omega
      by_cases q1 : 97 ≤ x <;> by_cases q2 : x ≤ 122 <;> by_cases q3 : 48 ≤ x <;> by_cases q4 : x ≤ 58 <;> by_cases q6 : x = 45 <;> first
      | (exfalso; omega)
      | (simp only [q1, q2, q3, q4, q5, q6, eq_self, and_self, and_true, and_false, true_and, false_and, decide_true, decide_false, Bool.or_false, Bool.or_true, Bool.false_or, Bool.true_or, if_true, if_false, not_true_eq_false, not_false_eq_true] at fin ⊢
         first
           | exact ⟨hix, (fin _ rfl).1 rfl⟩
           | exact ⟨hix, (fin _ rfl).2 rfl⟩
           | exact ⟨hix, hix, (fin _ rfl).1 rfl⟩
           | exact ⟨hix, hix, (fin _ rfl).2 rfl⟩
           | exact ⟨hix, hix, hix, (fin _ rfl).1 rfl⟩
           | exact ⟨hix, hix, hix, (fin _ rfl).2 rfl⟩
           | exact ⟨hix, hix, hix, hix, (fin _ rfl).1 rfl⟩
           | exact ⟨hix, hix, hix, hix, (fin _ rfl).2 rfl⟩
           | exact ⟨hix, hix, hix, hix, hix, (fin _ rfl).1 rfl⟩
           | exact ⟨hix, hix, hix, hix, hix, (fin _ rfl).2 rfl⟩)
  · have : p = s.length := by omega
    subst this
    split
    · rename_i c
      cases s with
      | nil => simp at c
      | cons x t =>
        have hR : R (decide ((x :: t).length ≤ 24) && Sp.smallB (x.toNat : Int) && Sp.allN (x :: t)) := hR
        have h0 : Sp.smallB (x.toNat : Int) = true := hall 0 (by simp)
        have h1 : Sp.allN (x :: t) = true := by
          unfold Sp.allN
          rw [List.all_eq_true]
          intro y hy
          obtain ⟨q, hq, rfl⟩ := List.mem_iff_getElem.1 hy
          have := hall q hq
          rw [nth_lt hq] at this
          unfold Sp.atB at this
          split at this
          · unfold Sp.nameB; rw [this]; rfl
          · exact this
        rw [h0, h1, Bool.and_true, Bool.and_true] at hR
        by_cases c3 : (x :: t).length ≤ 24
        · rw [decide_eq_true c3] at hR
          rw [decide_eq_true (by omega)]; exact hR
        · rw [decide_eq_false c3] at hR
          rw [decide_eq_false (by omega)]; exact hR
    · rename_i c
      cases s with
      | nil => exact hR
      | cons x t => simp at c
namespace Sp
end Sp
namespace Sp
end Sp
/- What may stand in a page: the laws. Plain theorems. -/

namespace Sp
def pnames : List Str := [[112], [100, 105, 118], [104, 49], [104, 50], [104, 51], [117, 108], [111, 108], [108, 105], [98, 108, 111, 99, 107, 113, 117, 111, 116, 101], [112, 114, 101], [98], [105], [101, 109], [115, 116, 114, 111, 110, 103], [117], [99, 111, 100, 101], [98, 114], [104, 114], [115, 112, 97, 110], [116, 97, 98, 108, 101], [99, 97, 112, 116, 105, 111, 110], [116, 98, 111, 100, 121], [116, 104, 101, 97, 100], [116, 114], [116, 100], [116, 104]]
def kept1 (x : Str) : Rule := (x, 1, [], [])
theorem plain_eq : plainP = (pnames.map kept1 ++ plainP.1.drop 26, plainP.2.1, 2, 3) := rfl
theorem polOk_plain : polOk plainP := by unfold polOk strOk ruleOk strOk; decide +kernel
end Sp
theorem policy_Plain.ok (R : List (Str × Int × List Str × List Str) × List Str × Int × Int → Prop) (hR : R Sp.plainP) : policy_Plain.vc R := by
  rw [Sp.plain_eq] at hR
  refine Lp_rule (fun v => ∃ p : Nat, v = (((26 : Nat) : Int), (p : Int), [], [], 0, 0, (Sp.pnames.take p).map Sp.kept1, Sp.pnames, ()) ∧ p ≤ 26) (fun v => 26 - v.2.1.toNat) ?_ ⟨0, rfl, by omega⟩
  rintro _ K ⟨p, rfl, hp⟩ hK
  simp only [policy_Plain.L0]
  have hl : Sp.pnames.length = 26 := by decide
  have hm : ((Sp.pnames.take p).map Sp.kept1).length = p := by rw [List.length_map, List.length_take]; omega
  rw [cond_dec]
  split
  · have hp' : p < Sp.pnames.length := by omega
    refine ⟨by rw [ix_iff]; omega, by rw [gr_iff, hm]; omega, by rw [rg64]; omega, hK _ ⟨p + 1, ?_, by omega⟩ (by simp only; omega)⟩
    rw [take_succ (d := []) hp', List.map_append]; rfl
  · have : p = 26 := by omega
    subst this
    refine ⟨by rw [gr_iff, hm]; omega, ?_⟩
    rw [List.take_of_length_le (by omega)]
    exact hR
namespace Sp
end Sp
namespace Sp
end Sp
namespace Sp
theorem bad_iff (a : Str × Str) : badA a = true ↔ ((a.1 = [104, 114, 101, 102] ∨ a.1 = [115, 114, 99]) ∧ (schemeP a.2).2 = true ∧ ¬ (schemeP a.2).1 = [104, 116, 116, 112] ∧ ¬ (schemeP a.2).1 = [104, 116, 116, 112, 115] ∧ ¬ (schemeP a.2).1 = [109, 97, 105, 108, 116, 111]) ∨ (1 < (a.1.length : Int) ∧ a.1.take 2 = [111, 110]) := by
  unfold badA
  simp only [Bool.or_eq_true, Bool.and_eq_true, Bool.not_eq_true', decide_eq_true_eq, decide_eq_false_iff_not]
  constructor
  · rintro (⟨⟨⟨⟨h1, h2⟩, h3⟩, h4⟩, h5⟩ | h)
    · exact .inl ⟨h1, h2, h3, h4, h5⟩
    · exact .inr h
  · rintro (⟨h1, h2, h3, h4, h5⟩ | h)
    · exact .inl ⟨⟨⟨⟨h1, h2⟩, h3⟩, h4⟩, h5⟩
    · exact .inr h
end Sp
namespace Sp
abbrev PTy : Ty := .pair (.sl (.pair .str (.pair (.int .i64) (.pair (.sl .str) (.sl .str))))) (.pair (.sl .str) (.pair (.int .i64) (.int .i64)))
theorem pol_large {p : Pol} (h : Sz PTy p) : largeP.pre p := ⟨h.pair.1.sl, h.pair.2.pair.1.sl⟩
theorem pol_small {p : Pol} (h : Sz PTy p) (hl : largeP p = false) : polOk p := by
  unfold largeP at hl
  rw [Bool.or_eq_false_iff, Bool.or_eq_false_iff] at hl
  obtain ⟨⟨h1, h2⟩, h3⟩ := hl
  have h1 := of_decide_eq_false h1
  have h2 := of_decide_eq_false h2
  refine ⟨by omega, by omega, fun s hs => (h.pair.2.pair.1.mem s hs).str47, fun r hr => ?_⟩
  have h4 := List.any_eq_false.1 h3 r hr
  unfold largeR at h4
  simp only [Bool.or_eq_true, decide_eq_true_eq, not_or] at h4
  have hz := h.pair.1.mem r hr
  exact ⟨hz.pair.1.str47, by omega, by omega, fun s hs => (hz.pair.2.pair.2.pair.1.mem s hs).str47, fun s hs => (hz.pair.2.pair.2.pair.2.mem s hs).str47⟩
mutual
theorem lgN_ok : ∀ (n : Vi.Node) (r d : Int), (lgN n r d).1 = false → okN n
  | .mk k s nm a t c, r, d, h => by
    rw [lgN] at h
    split at h
    · cases h
    split at h
    · cases h
    split at h
    · cases h
    rename_i c1 c2 c3
    have hc : (lgL c (r - 1 - (t.length : Int) / 16 - a.length) (d + 1)).1 = false := by
      cases e : (lgL c (r - 1 - (t.length : Int) / 16 - a.length) (d + 1)).1 with
      | false => rfl
      | true => exact absurd (.inl e) c3
    rw [okN]
    refine ⟨⟨by omega, fun x hx => ?_⟩, by omega, lgL_ok c _ _ hc⟩
    have h1 : a.any (fun x => decide (100 < (x.1.length : Int) ∨ 2000 < (x.2.length : Int))) = false := by
      cases e : a.any (fun x => decide (100 < (x.1.length : Int) ∨ 2000 < (x.2.length : Int))) with
      | false => rfl
      | true => exact absurd (.inl e) c2
    have := List.any_eq_false.1 h1 x hx
    simp only [decide_eq_true_eq] at this
    omega
theorem lgL_ok : ∀ (l : List Vi.Node) (r d : Int), (lgL l r d).1 = false → okL l
  | [], _, _, _ => by rw [okL]; trivial
  | n :: l, r, d, h => by
    rw [lgL] at h
    split at h
    · rename_i c; rw [c] at h; cases h
    · rename_i c
      rw [okL]
      exact ⟨lgN_ok n r d (by cases e : (lgN n r d).1 with | false => rfl | true => exact absurd e c), lgL_ok l _ _ h⟩
end
end Sp
namespace Sp
theorem plain_rules : ∀ r, r ∈ plainP.1 → r.2.1 = 1 → (r.1 ≠ [115, 99, 114, 105, 112, 116] ∧ r.1 ≠ [115, 116, 121, 108, 101]) ∧ (∀ x, x ∈ r.2.2.1 → x ≠ [104, 114, 101, 102] ∧ x ≠ [115, 114, 99] ∧ x.take 2 ≠ [111, 110]) ∧ (∀ x, x ∈ r.2.2.2 → x.take 2 ≠ [111, 110]) := by decide +kernel
theorem rule_mem {p : Pol} {n : Str} (h : (ruleP p n).2.1 ≠ p.2.2.1) : ruleP p n ∈ p.1 ∧ (ruleP p n).1 = n := by
  unfold ruleP at *
  split
  · rename_i r e
    refine ⟨List.mem_of_find?_eq_some e, ?_⟩
    have := List.find?_some e
    exact of_decide_eq_true this
  · rename_i e
    rw [e] at h
    exact absurd rfl h
theorem stays_good {n : Str} {a : Str × Str} (h : staysP plainP n a = true) : badA a = false := by
  unfold staysP at h
  rw [Bool.and_eq_true] at h
  have h1 := of_decide_eq_true h.1
  have hm := rule_mem (p := plainP) (n := n) (by rw [h1]; decide)
  obtain ⟨_, k2, k3⟩ := plain_rules _ hm.1 h1
  generalize ruleP plainP n = r at *
  cases hb : badA a with
  | false => rfl
  | true =>
    rcases (bad_iff a).1 hb with ⟨b1, b2, b3, b4, b5⟩ | ⟨_, b2⟩
    · have h2 := h.2
      rw [Bool.or_eq_true] at h2
      rcases h2 with h2 | h2
      · have := k2 _ (of_decide_eq_true h2)
        exact absurd b1 (fun e => e.elim this.1 this.2.1)
      · rw [Bool.and_eq_true] at h2
        have h3 := h2.2
        unfold safeP at h3
        rw [b2, Bool.not_true, Bool.false_or] at h3
        have h4 := of_decide_eq_true h3
        have h5 : (schemeP a.2).1 ∈ [[104, 116, 116, 112], [104, 116, 116, 112, 115], [109, 97, 105, 108, 116, 111]] := h4
        simp only [List.mem_cons, List.not_mem_nil, or_false] at h5
        rcases h5 with h5 | h5 | h5
        · exact absurd h5 b3
        · exact absurd h5 b4
        · exact absurd h5 b5
    · have h2 := h.2
      rw [Bool.or_eq_true] at h2
      rcases h2 with h2 | h2
      · exact absurd b2 (k2 _ (of_decide_eq_true h2)).2.2
      · rw [Bool.and_eq_true] at h2
        exact absurd b2 (k3 _ (of_decide_eq_true h2.1))
mutual
theorem harm_N : ∀ (n : Vi.Node), (fiN plainP n).2 = false → lfN n = false → hmN n = true
  | .mk k s nm a t c, h, hl => by
    rw [fiN] at h
    split at h
    · cases h
    rename_i hal
    have hal : allowsN plainP (.mk k s nm a t c) = true := by cases e : allowsN plainP (.mk k s nm a t c) with | true => rfl | false => exact absurd e hal
    rw [lfN, Bool.or_eq_false_iff] at hl
    have ih := harm_L c h hl.2
    rw [hmN, ih, Bool.and_true]
    unfold allowsN at hal
    split at hal
    · rename_i c1
      have c1 : k = 2 := c1
      have h2 := hl.1
      rw [decide_eq_false (by omega), Bool.not_false, Bool.true_and, Bool.or_eq_false_iff] at h2
      have : a = [] := List.eq_nil_of_length_eq_zero (by have := of_decide_eq_false h2.1; omega)
      rw [this, decide_eq_false (show ¬ k = 1 by omega)]; rfl
    split at hal
    · rename_i c1 c2
      have c2 : k = 1 := c2
      rw [Bool.and_eq_true] at hal
      obtain ⟨ha1, ha2⟩ := hal
      have ha1 : actP plainP s nm = 1 := of_decide_eq_true ha1
      have ha2 : anyAt a plainP (.mk k s nm a t c) = false := by cases e : anyAt a plainP (.mk k s nm a t c) with | false => rfl | true => exact absurd ha2 (by show ¬ (!anyAt a plainP (.mk k s nm a t c)) = true; rw [e]; simp)
      unfold actP at ha1
      have hs : s = 0 := by
        by_cases q : s = 0
        · exact q
        · rw [if_pos q] at ha1; exact absurd ha1 (by decide)
      rw [if_neg (fun q => q hs)] at ha1
      have hm := rule_mem (p := plainP) (n := nm) (by rw [ha1]; decide)
      have hk := (plain_rules _ hm.1 ha1).1
      rw [hm.2] at hk
      have hany : a.any badA = false := List.any_eq_false.2 fun x hx => by
        have := List.any_eq_false.1 ha2 x hx
        unfold notStays at this
        have : staysP plainP nm x = true := by cases e : staysP plainP nm x with | true => rfl | false => exact absurd (show (!staysP plainP nm x) = true by rw [e]; rfl) this
        rw [stays_good this]; simp
      rw [hany, decide_eq_true c2, decide_eq_true hs, decide_eq_false hk.1, decide_eq_false hk.2]; rfl
    · cases hal
theorem harm_L : ∀ (l : List Vi.Node), (fiL plainP l).2 = false → lfL l = false → hmL l = true
  | [], _, _ => by rw [hmL]
  | n :: l, h, hl => by
    rw [fiL] at h
    split at h
    · rename_i c; rw [c] at h; cases h
    rename_i c
    rw [lfL, Bool.or_eq_false_iff] at hl
    rw [hmL, harm_N n (by cases e : (fiN plainP n).2 with | false => rfl | true => exact absurd e c) hl.1, harm_L l h hl.2]; rfl
end
end Sp