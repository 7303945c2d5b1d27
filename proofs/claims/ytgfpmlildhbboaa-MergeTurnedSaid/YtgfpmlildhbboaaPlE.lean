/- Three lists of nodes lined up: what is told, shown of the conditions. Plain theorems. -/
import Derived.Test.YtgfpmlildhbboaaVcE
import Derived.Test.YtgfpmlildhbboaaPlM
set_option linter.unnecessarySimpa false
set_option linter.unusedVariables false
set_option linter.unusedSectionVars false
set_option linter.unusedSimpArgs false
set_option autoImplicit false
open Go Vi

namespace Sp
theorem keysOf_sub (l : List Nd) (i j : Int) : keysOf (sub l i j) = sub (keysOf l) i j := by
  unfold keysOf sub
  rw [List.map_drop, List.map_take]
theorem eqNs_sub (a b : List Nd) (i j i' j' : Int) : eqNs (sub a i j) (sub b i' j') = eqL (sub (keysOf a) i j) (sub (keysOf b) i' j') := by
  unfold eqNs eqL
  rw [keysOf_sub, keysOf_sub]
theorem okL_sub {l : List Nd} (h : okL l) (i j : Int) : okL (sub l i j) := by
  rw [okL_iff] at *
  intro n hn
  exact h n (List.mem_of_mem_take (List.mem_of_mem_drop hn))
theorem rises_mono {n m : Nat} : ∀ (l : List NPair) {i j i' j' : Nat}, Rises n m i' j' l → i ≤ i' → j ≤ j' → Rises n m i j l
  | [], _, _, _, _, _, _, _ => trivial
  | x :: l, i, j, i', j', ⟨a1, a2, a3, a4, a5⟩, h1, h2 => ⟨by omega, a2, by omega, a4, a5⟩
theorem alikeAt_rises (x y : List Str) (n m : Nat) (to : Int) (hto : to ≤ m) : ∀ (k i f : Nat) (rest : List NPair), i + k ≤ n → (∀ f' : Nat, f ≤ f' → ((f' : Int) ≤ to ∨ f' = f) → Rises n m (i + k) f' rest) → Rises n m i f (alikeAt x y to k i f ++ rest)
  | 0, i, f, rest, _, h => by
    rw [alikeAt]
    exact h f (Nat.le_refl _) (.inr rfl)
  | k + 1, i, f, rest, hk, h => by
    rw [alikeAt]
    have hf := firstAt_le (nth x (i : Int) []) y (to - f).toNat f
    generalize firstAt (nth x (i : Int) []) y (to - f).toNat f = j at *
    split
    · have ih := alikeAt_rises x y n m to hto k (i + 1) f rest (by omega) fun f' h1 h2 => by
        have := h f' h1 h2
        rwa [show i + 1 + k = i + (k + 1) by omega]
      exact rises_mono _ ih (by omega) (Nat.le_refl _)
    · obtain ⟨q, rfl⟩ : ∃ q : Nat, j = q := ⟨j.toNat, by omega⟩
      have ih := alikeAt_rises x y n m to hto k (i + 1) (q + 1) rest (by omega) fun f' h1 h2 => by
        have := h f' (by omega) (by omega)
        rwa [show i + 1 + k = i + (k + 1) by omega]
      exact ⟨Int.le_refl _, by simp only; omega, by simp only; omega, by simp only; omega, ih⟩
theorem listsAt_rises (x y : List Str) (n m : Nat) : ∀ (r : List NPair) (i j : Nat), Rises n m i j r → i ≤ n → j ≤ m → Rises n m i j (listsAt x y n m i j r)
  | [], i, j, _, hi, hj => by
    rw [listsAt]
    have := alikeAt_rises x y n m m (Int.le_refl _) ((n : Int) - i).toNat i j [] (by omega) fun _ _ _ => trivial
    rwa [List.append_nil] at this
  | p :: r, i, j, ⟨h1, h2, h3, h4, h5⟩, hi, hj => by
    have ih := listsAt_rises x y n m r _ _ h5 (by omega) (by omega)
    have e1 : ((p.1.toNat + 1 : Nat) : Int) = p.1 + 1 := by omega
    have e2 : ((p.2.1.toNat + 1 : Nat) : Int) = p.2.1 + 1 := by omega
    rw [e1, e2] at ih
    rw [listsAt]
    exact alikeAt_rises x y n m p.2.1 (by omega) (p.1 - i).toNat i j _ (by omega) fun f' h6 h7 => ⟨by omega, h2, by omega, h4, ih⟩
theorem lists_rises (a b : List Nd) : Rises a.length b.length 0 0 (lists a b) := by
  have hri := lines_rises (keysOf a) (keysOf b)
  rw [keysOf_len, keysOf_len] at hri
  exact listsAt_rises _ _ _ _ _ 0 0 hri (Nat.zero_le _) (Nat.zero_le _)
theorem lists_up (a b : List Nd) : Up a.length b.length (fellow (lists a b)) := rises_up _ _ _ _ _ (lists_rises a b)
theorem blendN_asc (o a b : List Nd) : Asc (0, 0, 0) (triAt (lists o a) (lists o b) o.length 0) (ends (keysOf o) (keysOf a) (keysOf b)) := by
  unfold ends
  rw [keysOf_len, keysOf_len, keysOf_len]
  exact asc_all (lists_up o a) (lists_up o b)
end Sp

theorem tree_Same_1_1.ok (R : Bool → Prop) (p q : Str × Str) (hR : R (Sp.eqA1 p q)) : tree_Same_1_1.vc R p q := by
  have : Sp.eqA1 p q = (eqS p.1 q.1 && eqS p.2 q.2) := by
    unfold Sp.eqA1 eqS
    rw [Bool.eq_iff_iff, decide_eq_true_iff, Bool.and_eq_true, decide_eq_true_iff, decide_eq_true_iff]
    exact ⟨fun h => by rw [h]; exact ⟨rfl, rfl⟩, fun h => Prod.ext h.1 h.2⟩
  rw [this] at hR
  exact hR

theorem EqualFunc_Attr.ok (R : Bool → Prop) (a b : List (Str × Str)) (h : Sp.eqAt.pre a b) (hR : R (Sp.eqAt a b)) : EqualFunc_Attr.vc R a b := by
  unfold Sp.eqAt.pre at h
  unfold Sp.eqAt at hR
  have ne (hne : a ≠ b) : R false := by rw [decide_eq_false hne] at hR; exact hR
  unfold EqualFunc_Attr.vc
  rw [cond_ndec]
  split
  case isFalse c => exact ne fun e => c (by rw [e])
  rename_i hl
  refine Lp_rule (fun v => ∃ p : Nat, v = (b, a, (a.length : Int), (p : Int), ()) ∧ p ≤ a.length ∧ a.take p = b.take p) (fun v => a.length - v.2.2.2.1.toNat) ?_ ⟨0, rfl, Nat.zero_le _, rfl⟩
  rintro _ K ⟨p, rfl, hp, ht⟩ hK
  simp only [EqualFunc_Attr.L0]
  unfold Sp.eqA1
  rw [cond_dec, cond_ndec]
  split
  · rename_i c
    have h1' : p < a.length := by omega
    have h2' : p < b.length := by omega
    have t1 := take_succ (d := (([] : Str), ([] : Str))) h1'
    have t2 := take_succ (d := (([] : Str), ([] : Str))) h2'
    simp only [rg64, ix_iff]
    refine ⟨by omega, by omega, ?_⟩
    split
    · rename_i e
      have e : nth a (p : Int) ([], []) = nth b (p : Int) ([], []) := e
      exact ⟨by omega, hK _ ⟨p + 1, rfl, by omega, by rw [t1, t2, ht, e]⟩ (by simp; omega)⟩
    · rename_i e
      exact ne fun e' => e (by rw [e'])
  · rename_i c
    have e : p = a.length := by omega
    subst e
    rw [List.take_length, List.take_of_length_le (by omega)] at ht
    rw [ht, decide_eq_true rfl] at hR
    exact hR

theorem tree_Same.ok (nn : Nat) (R : Bool → Prop) (a b : List Vi.Node) (h : Sp.eqNs.pre a b ∧ Sp.mSame a b < nn + 1) (hR : R (Sp.eqNs a b)) : tree_Same.vc R nn a b := by
  obtain ⟨h1, h2⟩ := h
  unfold Sp.mSame at h2
  exact ⟨⟨h1, by unfold Sp.mEqF; omega⟩, hR⟩

theorem EqualFunc_Node.ok (nn : Nat) (R : Bool → Prop) (a b : List Vi.Node) (h : Sp.eqNs.pre a b ∧ Sp.mEqF a b < nn + 1) (hR : R (Sp.eqNs a b)) : EqualFunc_Node.vc R nn a b := by
  obtain ⟨⟨h1, h2⟩, h3⟩ := h
  unfold Sp.mEqF at h3
  have ne (hne : a ≠ b) : R false := by
    rw [show Sp.eqNs a b = false from by rw [← Bool.not_eq_true, Sp.eqNs_iff]; exact hne] at hR; exact hR
  unfold EqualFunc_Node.vc
  rw [cond_ndec]
  split
  case isFalse c => exact ne fun e => c (by rw [e])
  rename_i hl
  refine Lp_rule (fun v => ∃ p : Nat, v = (b, a, (a.length : Int), (p : Int), ()) ∧ p ≤ a.length ∧ a.take p = b.take p) (fun v => a.length - v.2.2.2.1.toNat) ?_ ⟨0, rfl, Nat.zero_le _, rfl⟩
  rintro _ K ⟨p, rfl, hp, ht⟩ hK
  simp only [EqualFunc_Node.L0, Node.eta]
  rw [cond_dec]
  split
  · rename_i c
    have h1' : p < a.length := by omega
    have h2' : p < b.length := by omega
    have hm : nth a (p : Int) (Vi.Node.mk 0 0 [] [] [] []) ∈ a := Sp.nth_mem h1'
    have t1 := take_succ (d := Vi.Node.mk 0 0 [] [] [] []) h1'
    have t2 := take_succ (d := Vi.Node.mk 0 0 [] [] [] []) h2'
    have hs := Sp.szL_mem hm
    have ho := Sp.okL_iff.1 h1 _ hm
    have hne (e : nth a (p : Int) (Vi.Node.mk 0 0 [] [] [] []) ≠ nth b (p : Int) (Vi.Node.mk 0 0 [] [] [] [])) : R false := ne fun e' => e (by rw [e'])
    simp only [rg64, ix_iff]
    refine ⟨by omega, by omega, ⟨ho, by unfold Sp.mSm1; omega⟩, ?_⟩
    generalize nth a (p : Int) (Vi.Node.mk 0 0 [] [] [] []) = u at *
    generalize nth b (p : Int) (Vi.Node.mk 0 0 [] [] [] []) = w at *
    cases e : Sp.eqNd u w with
    | true =>
      have e' := Sp.eqNd_iff.1 e
      exact ⟨by omega, hK _ ⟨p + 1, rfl, by omega, by rw [t1, t2, ht, e']⟩ (by simp; omega)⟩
    | false => exact hne fun e' => by rw [Sp.eqNd_iff.2 e'] at e; cases e
  · rename_i c
    have e : p = a.length := by omega
    subst e
    rw [List.take_length, List.take_of_length_le (by omega)] at ht
    rw [Sp.eqNs_iff.2 ht] at hR
    exact hR

theorem tree_Same_1.ok (nn : Nat) (R : Bool → Prop) (a b : Vi.Node) (h : Sp.eqNd.pre a b ∧ Sp.mSm1 a b < nn + 1) (hR : R (Sp.eqNd a b)) : tree_Same_1.vc R nn a b := by
  obtain ⟨h1, h2⟩ := h
  obtain ⟨o1, o2, o3, o4, o5⟩ := Sp.okN_iff.1 h1
  unfold Sp.mSm1 at h2
  rw [Sp.szN_eq] at h2
  have ne (hne : a ≠ b) : R false := by
    rw [show Sp.eqNd a b = false from by rw [← Bool.not_eq_true, Sp.eqNd_iff]; exact hne] at hR; exact hR
  unfold tree_Same_1.vc
  simp only [cond_dec]
  split
  case isFalse c => exact ne fun e => c (by rw [e])
  split
  case isFalse c => exact ne fun e => c (by rw [e])
  split
  case isFalse c => exact ne fun e => c (by rw [e])
  split
  case isFalse c => exact ne fun e => c (by rw [e])
  rename_i c1 c2 c3 c4
  refine ⟨o3, ?_⟩
  unfold Sp.eqAt
  rw [cond_dec]
  split
  case isFalse c => exact ne fun e => c (by rw [e])
  rename_i c5
  refine ⟨⟨⟨o5, o4⟩, by unfold Sp.mSame; omega⟩, ?_⟩
  have : Sp.eqNs a.kids b.kids = Sp.eqNd a b := by
    rw [Bool.eq_iff_iff, Sp.eqNs_iff, Sp.eqNd_iff]
    constructor
    · intro c6
      cases a; cases b
      simp only [Vi.Node.kind, Vi.Node.space, Vi.Node.name, Vi.Node.text, Vi.Node.attrs, Vi.Node.kids] at *
      subst c1 c2 c3 c4 c5 c6; rfl
    · intro e; rw [e]
  rw [this]; exact hR

theorem blend_of_api_Node.ok (R : List Vi.Node → Prop) (l : List Vi.Node) (r : Int × Int) (h : Sp.ofN.pre l r) (hR : R (Sp.ofN l r)) : blend_of_api_Node.vc R l r := ⟨h, hR⟩

theorem blend_kind_api_Node.ok (R : Int → Prop) (o a b : List Vi.Node) (p : Int × (Int × Int) × (Int × Int) × Int × Int) (h : Sp.kindN.pre o a b p) (hR : R (Sp.kindN o a b p)) : blend_kind_api_Node.vc R o a b p := by
  obtain ⟨⟨h1, h2, h3, h4, h5, h6⟩, ko, ka, kb⟩ := h
  unfold Sp.ofS.pre at h1 h2 h3
  rw [Sp.keysOf_len] at h1 h2 h3 h4 h5 h6
  unfold blend_kind_api_Node.vc
  have po := Sp.okL_sub ko p.2.1.1 p.2.1.2
  have pa := Sp.okL_sub ka p.2.2.1.1 p.2.2.1.2
  have lo := Sp.sub_le o p.2.1.1 p.2.1.2
  have la := Sp.sub_le a p.2.2.1.1 p.2.2.1.2
  have e1 : Sp.eqNs.pre (Sp.ofN o (p.2.1.1, p.2.1.2)) (Sp.ofN a (p.2.2.1.1, p.2.2.1.2)) := ⟨po, by unfold Sp.ofN; simp only; omega⟩
  have e2 : Sp.eqNs.pre (Sp.ofN o (p.2.1.1, p.2.1.2)) (Sp.ofN b (p.2.2.2.1, p.2.2.2.2)) := e1
  have e3 : Sp.eqNs.pre (Sp.ofN a (p.2.2.1.1, p.2.2.1.2)) (Sp.ofN b (p.2.2.2.1, p.2.2.2.2)) := ⟨pa, by unfold Sp.ofN; simp only; omega⟩
  refine ⟨h1, h2, h3, ?_⟩
  have hE (l : List Sp.Nd) (i j : Int) : (sub (Sp.keysOf l) i j).isEmpty = (sub l i j).isEmpty := by
    rw [← Sp.keysOf_sub]; unfold Sp.keysOf; rw [List.isEmpty_map]
  have hR' : R (Sp.kind0 Sp.eqNs (Sp.ofN o (p.2.1.1, p.2.1.2)) (Sp.ofN a (p.2.2.1.1, p.2.2.1.2)) (Sp.ofN b (p.2.2.2.1, p.2.2.2.2))) := by
    unfold Sp.kindN Sp.kindT Sp.kind0 Sp.kindOf at hR
    rw [hE, hE, hE, ← Sp.eqNs_sub, ← Sp.eqNs_sub, ← Sp.eqNs_sub] at hR
    exact hR
  clear hR h1 h2 h3
  generalize Sp.ofN o (p.2.1.1, p.2.1.2) = x at *
  generalize Sp.ofN a (p.2.2.1.1, p.2.2.1.2) = y at *
  generalize Sp.ofN b (p.2.2.2.1, p.2.2.2.2) = z at *
  have em (l : List Sp.Nd) : decide ((l.length : Int) = 0) = l.isEmpty := by cases l <;> simp; omega
  rw [em, em, em]
  unfold Sp.kind0 Sp.kindOf at hR'
  have e1' := eq_true e1
  have e2' := eq_true e2
  have e3' := eq_true e3
  simp only [e1', e2', e3', true_and]
  revert hR'
  cases x.isEmpty <;> cases y.isEmpty <;> cases z.isEmpty <;> cases Sp.eqNs x y <;> cases Sp.eqNs x z <;> cases Sp.eqNs y z <;> exact id

theorem blend_parts_api_Node_1.ok (R : Int → Int → Int → Int → Int → Int → Int → List Vi.Node → List Vi.Node → List Vi.Node → List (Int × (Int × Int) × (Int × Int) × Int × Int) → Prop) (x y z f0 f1 f2 f3 f4 f5 f6 : Int) (o a b : List Vi.Node) (out : List (Int × (Int × Int) × (Int × Int) × Int × Int))
    (h : Sp.upToN.pre x y z f1 f3 f5 o a b out) (hR : R f0 f1 f2 f3 f4 f5 f6 o a b (Sp.upToN x y z f1 f3 f5 o a b out)) : blend_parts_api_Node_1.vc R x y z f0 f1 f2 f3 f4 f5 f6 o a b out := by
  obtain ⟨⟨h1, h2, h3, h4, h5, h6, h7⟩, ko, ka, kb⟩ := h
  refine ⟨⟨⟨h1, h2, h3, h4, h5, h6⟩, ko, ka, kb⟩, ?_⟩
  have e : Sp.kindN o a b (0, (f1, x), (f3, y), f5, z) = Sp.kdT (Sp.keysOf o) (Sp.keysOf a) (Sp.keysOf b) (f1, f3, f5) (x, y, z) := rfl
  rw [e, cond_ndec]
  unfold Sp.upToN Sp.upTo Sp.segA at hR
  split
  · rename_i h0
    rw [if_pos h0] at hR
    simpa using hR
  · rename_i h0
    rw [if_neg h0] at hR
    exact ⟨by rw [gr_iff]; omega, hR⟩

theorem blend_parts_api_Node.ok (R : List (Int × (Int × Int) × (Int × Int) × Int × Int) → Prop) (o a b : List Vi.Node) (ours theirs : List (Int × Int × Bool)) (h : Sp.partsN.pre o a b ours theirs) (hR : R (Sp.partsN o a b ours theirs)) : blend_parts_api_Node.vc R o a b ours theirs := by
  obtain ⟨⟨h1, h2, h3, h4, h5, h6, h7⟩, ko, ka, kb⟩ := h
  unfold Sp.partsN at hR
  have lo := Sp.keysOf_len o
  have la := Sp.keysOf_len a
  have lb := Sp.keysOf_len b
  have hup (x y z f1 f3 f5 : Int) (out : List Sp.Part) : Sp.upToN x y z f1 f3 f5 o a b out = Sp.upTo x y z f1 f3 f5 (Sp.keysOf o) (Sp.keysOf a) (Sp.keysOf b) out := rfl
  have hupp (x y z f1 f3 f5 : Int) (out : List Sp.Part) (h : Sp.upTo.pre x y z f1 f3 f5 (Sp.keysOf o) (Sp.keysOf a) (Sp.keysOf b) out) : Sp.upToN.pre x y z f1 f3 f5 o a b out := ⟨h, ko, ka, kb⟩
  generalize Sp.keysOf o = O at *
  generalize Sp.keysOf a = A at *
  generalize Sp.keysOf b = B at *
  have u1 := Sp.rises_up _ _ _ _ _ h6
  have u2 := Sp.rises_up _ _ _ _ _ h7
  refine Lp_rule (fun v => ∃ (i : Nat) (out : List Sp.Part) (g0 g2 g4 g6 : Int) (f : Sp.Tri), v = (ours, theirs, (o.length : Int), (i : Int), o, a, b, out, g0, f.1, g2, f.2.1, g4, f.2.2, g6, ()) ∧ i ≤ o.length ∧ Sp.Le3 (0, 0, 0) f ∧ f.1 ≤ i ∧
      Sp.Asc f (Sp.triAt ours theirs (o.length - i) i) (Sp.ends O A B) ∧ out.length ≤ 2 * i ∧ out ++ (Sp.pts (Sp.kdT O A B) f (Sp.triAt ours theirs (o.length - i) i) (Sp.ends O A B)).map Sp.toP = Sp.parts O A B ours theirs)
    (fun v => o.length - v.2.2.2.1.toNat) ?_ ⟨0, [], 0, 0, 0, 0, (0, 0, 0), rfl, Nat.zero_le _, Sp.le0, Int.le_refl _, (by rw [← lo]; exact Sp.asc_all u1 u2), Nat.zero_le _, (by rw [← lo]; rfl)⟩
  rintro _ K ⟨i, out, g0, g2, g4, g6, f, rfl, hi, hf, hfi, ha, ho, hp⟩ hK
  simp only [blend_parts_api_Node.L0, cond_dec, rg64, gr_iff, hup]
  have hpre (t : Sp.Tri) (hin : Sp.In O A B f t) : Sp.upToN.pre t.1 t.2.1 t.2.2 f.1 f.2.1 f.2.2 o a b out := by
    obtain ⟨⟨a1, a2, a3⟩, ⟨a4, a5, a6⟩, a7, a8, a9⟩ := hin
    unfold Sp.ends at a7 a8 a9
    simp only at a1 a2 a3 a7 a8 a9
    exact hupp _ _ _ _ _ _ _ ⟨⟨a1, a4, a7⟩, ⟨a2, a5, a8⟩, ⟨a3, a6, a9⟩, h1, h2, h3, by omega⟩
  split
  · rename_i c1
    have c1' : i < o.length := by omega
    rw [show o.length - i = (o.length - (i + 1)) + 1 from by omega, Sp.triAt] at ha hp
    refine ⟨by unfold Sp.fellow.pre; omega, by unfold Sp.fellow.pre; omega, ?_⟩
    have skip (hn : ¬ (0 ≤ Sp.fellow ours i ∧ 0 ≤ Sp.fellow theirs i)) : K (ours, theirs, (o.length : Int), (i : Int) + 1, o, a, b, out, g0, f.1, g2, f.2.1, g4, f.2.2, g6, ()) := by
      rw [if_neg hn] at ha hp
      exact hK _ ⟨i + 1, out, g0, g2, g4, g6, f, rfl, by omega, hf, by omega, ha, by omega, hp⟩ (by simp; omega)
    split
    · exact ⟨by omega, skip (by omega)⟩
    split
    · exact ⟨by omega, skip (by omega)⟩
    rename_i c2 c3
    rw [if_pos (by omega)] at ha hp
    obtain ⟨a1, a2⟩ := ha
    have a3 := a2.le
    have hin : Sp.In O A B f (i, Sp.fellow ours i, Sp.fellow theirs i) := ⟨hf, a1, (Sp.le_next _).trans a3⟩
    have hl : (Sp.upTo i (Sp.fellow ours i) (Sp.fellow theirs i) f.1 f.2.1 f.2.2 O A B out).length ≤ out.length + 1 := by
      have := Sp.seg_len (Sp.kdT O A B) (f.1, f.2.1, f.2.2) (i, Sp.fellow ours i, Sp.fellow theirs i)
      unfold Sp.upTo; rw [List.length_append, List.length_map]; omega
    unfold Sp.Le3 Sp.next Sp.ends at a3
    simp only at a3
    refine ⟨hpre _ hin, by omega, by omega, by omega, by omega, by omega, by omega, by omega, by omega, ?_⟩
    refine hK _ ⟨i + 1, _, 0, 0, 0, 0, (i + 1, Sp.fellow ours i + 1, Sp.fellow theirs i + 1), rfl, by omega, (hf.trans a1).trans (Sp.le_next _), Int.le_refl _, a2, ?_, ?_⟩ (by simp; omega)
    · rw [List.length_append, List.length_singleton]; omega
    · rw [← hp, Sp.pts, List.map_append, List.map_cons]
      unfold Sp.upTo
      simp only [List.append_assoc, List.singleton_append]
      rfl
  · rename_i c1
    have : i = o.length := by omega
    subst this
    rw [Nat.sub_self, Sp.triAt] at ha hp
    rw [← lo, ← la, ← lb]
    exact ⟨hpre (Sp.ends O A B) ⟨hf, ha, ⟨Int.le_refl _, Int.le_refl _, Int.le_refl _⟩⟩, by rw [← hp] at hR; exact hR⟩


theorem blend_Nodes.ok (R : List (Int × (Int × Int) × (Int × Int) × Int × Int) → Prop) (o a b : List Vi.Node) (h : Sp.blendN.pre o a b) (hR : R (Sp.blendN o a b)) : blend_Nodes.vc R o a b := by
  have hp := h
  obtain ⟨⟨⟨k1, h1, _⟩, ⟨k2, h2, _⟩⟩, _, ⟨k3, h3, _⟩⟩ := h
  have l1 := Sp.lists_len o a
  have l2 := Sp.lists_len o b
  have r1 := Sp.lists_rises o a
  have r2 := Sp.lists_rises o b
  refine ⟨hp.1, hp.2, ⟨⟨?_, ?_, ?_, by omega, by omega, ?_, ?_⟩, k1, k2, k3⟩, hR⟩
  · rw [Sp.keysOf_len]; omega
  · rw [Sp.keysOf_len]; omega
  · rw [Sp.keysOf_len]; omega
  · rw [Sp.keysOf_len, Sp.keysOf_len]; exact r1
  · rw [Sp.keysOf_len, Sp.keysOf_len]; exact r2

theorem Sp.blendN_len (o a b : List Nd) : (blendNA o a b).length ≤ 2 * o.length + 1 := by
  have := partsA_len (keysOf o) (keysOf a) (keysOf b) (lists o a) (lists o b)
  rw [keysOf_len] at this
  exact this
