/- One page of three: what is told, shown of the conditions. Plain theorems. -/
import Derived.Test.YtgfpmlildhbboaaVcG
import Derived.Test.YtgfpmlildhbboaaPlE
set_option linter.unnecessarySimpa false
set_option linter.unusedVariables false
set_option linter.unusedSectionVars false
set_option linter.unusedSimpArgs false
set_option autoImplicit false
open Go Vi

namespace Sp
theorem set_self {α : Type} {l : List α} {p : Nat} {d : α} (h : p < l.length) : l.set p (nth l (p : Int) d) = l := by
  rw [nth_lt h]; exact List.set_getElem_self h
theorem attrs_len : ∀ (a : List (Str × Str)), a.length ≤ (atx a).length
  | [] => Nat.zero_le _
  | x :: a => by
    have := attrs_len a
    have := dgs_pos (x.1.length : Int)
    rw [atx_cons]
    unfold tx
    simp only [List.length_append, List.length_cons]
    omega
theorem key_parts (n : Nd) : n.attrs.length + n.text.length + (keys n.kids).length + 1 ≤ (key n).length := by
  have := attrs_len n.attrs
  have := dgs_pos n.kind
  have := tx_len n.text
  rw [key_eq]
  simp only [List.length_append]
  omega
theorem mg_mem {l : List Nd} (h : mg l) {n : Nd} (hn : n ∈ l) : mgN n := by
  have := keys_len_mem hn
  have := h.2
  exact ⟨okL_iff.1 h.1 n hn, by omega⟩
theorem mgN_kids {n : Nd} (h : mgN n) : mg n.kids := by
  have := key_parts n
  have := h.2
  exact ⟨(okN_iff.1 h.1).2.2.2.2, by omega⟩
theorem mg_len {l : List Nd} (h : mg l) : l.length ≤ 1000000 := Nat.le_trans (keys_len l) h.2
theorem mgN_attrs {n : Nd} (h : mgN n) : n.attrs.length ≤ 1000000 := by
  have := key_parts n
  have := h.2
  omega
theorem mg_one {n : Nd} (h : mgN n) : mg [n] := ⟨by rw [okL, okL]; exact ⟨h.1, trivial⟩, by rw [keys, keys]; simp; exact h.2⟩
theorem keys_take_drop (l : List Nd) (k : Nat) : (keys (l.take k)).length + (keys (l.drop k)).length = (keys l).length := by
  rw [← List.length_append, ← keys_app, List.take_append_drop]
theorem mg_take {l : List Nd} (h : mg l) (k : Nat) : mg (l.take k) := by
  have := keys_take_drop l k
  have := h.2
  refine ⟨okL_iff.2 fun n hn => okL_iff.1 h.1 n (List.mem_of_mem_take hn), by omega⟩
theorem mg_drop {l : List Nd} (h : mg l) (k : Nat) : mg (l.drop k) := by
  have := keys_take_drop l k
  have := h.2
  refine ⟨okL_iff.2 fun n hn => okL_iff.1 h.1 n (List.mem_of_mem_drop hn), by omega⟩
theorem mg_sub {l : List Nd} (h : mg l) (i j : Int) : mg (sub l i j) := mg_drop (mg_take h _) _

theorem wt_app : ∀ (a b : List Nd), wt (a ++ b) = wt a + wt b
  | [], b => by simp [wt]
  | n :: a, b => by rw [List.cons_append, wt, wt, wt_app a b]; omega
theorem wt_keys : ∀ (l : List Nd), wt l ≤ (keys l).length
  | [] => Nat.zero_le _
  | n :: l => by
    have := wt_keys l
    have := key_parts n
    rw [wt, keys, List.length_append]
    omega
theorem len_wt : ∀ (l : List Nd), l.length ≤ wt l
  | [] => Nat.zero_le _
  | n :: l => by
    have := len_wt l
    rw [wt, List.length_cons]
    omega
theorem nth_last {α : Type} (l : List α) (x d : α) : nth (l ++ [x]) (((l ++ [x]).length : Int) - 1) d = x := by
  rw [show (((l ++ [x]).length : Int) - 1) = ((l.length : Nat) : Int) by simp]
  exact nth_mid l x [] d rfl
theorem set_last {α : Type} (l : List α) (x y : α) : (l ++ [x]).set ((l ++ [x]).length - 1) y = l ++ [y] := by
  rw [show (l ++ [x]).length - 1 = l.length by simp]
  exact set_mid' l x y [] rfl
theorem addOne_nil (n : Nd) : addOne [] n = [n] := by unfold addOne; rw [if_neg (by simp)]; rfl
theorem addOne_last (l : List Nd) (x n : Nd) : addOne (l ++ [x]) n = if n.kind = 2 ∧ x.kind = 2 then l ++ [withText x (x.text ++ n.text)] else l ++ [x] ++ [n] := by
  unfold addOne
  rw [nth_last, set_last]
  by_cases c : n.kind = 2 ∧ x.kind = 2
  · rw [if_pos c, if_pos ⟨by simp, c.1, c.2⟩]
  · rw [if_neg c, if_neg (fun h => c h.2)]
theorem snoc_of {α : Type} : ∀ (l : List α), l = [] ∨ ∃ r x, l = r ++ [x]
  | [] => .inl rfl
  | y :: l => by
    rcases snoc_of l with h | ⟨r, x, h⟩
    · subst h; exact .inr ⟨[], y, rfl⟩
    · subst h; exact .inr ⟨y :: r, x, rfl⟩
theorem wt_addOne (o : List Nd) (n : Nd) : wt (addOne o n) ≤ wt o + (1 + n.text.length) := by
  rcases snoc_of o with h | ⟨r, x, h⟩
  · subst h; rw [addOne_nil]; simp [wt]
  · subst h
    rw [addOne_last]
    split
    · simp only [wt_app, wt, withText, Vi.Node.text, List.length_append]; omega
    · simp only [wt_app, wt]; omega
theorem addN_cons (o : List Nd) (n : Nd) (l : List Nd) : addN o (n :: l) = addN (addOne o n) l := rfl
theorem addN_nil (o : List Nd) : addN o [] = o := rfl
theorem wt_addN : ∀ (l o : List Nd), wt (addN o l) ≤ wt o + wt l
  | [], o => by rw [addN_nil]; simp [wt]
  | n :: l, o => by
    have h1 := wt_addN l (addOne o n)
    have h2 := wt_addOne o n
    rw [addN_cons, wt]; omega
end Sp

theorem slices_Clone_api_Node_api_Node.ok (R : List Vi.Node → Prop) (s : List Vi.Node) (h : Sp.idN.pre s) (hR : R (Sp.idN s)) : slices_Clone_api_Node_api_Node.vc R s := by
  unfold Sp.idN.pre at h
  refine ⟨fun hz => ?_, by rw [gr_iff]; omega, hR⟩
  have : s = [] := List.eq_nil_of_length_eq_zero hz
  subst this; exact hR
theorem slices_Clone_api_Attr_api_Attr.ok (R : List (List UInt8 × List UInt8) → Prop) (s : List (Str × Str)) (h : Sp.idA.pre s) (hR : R (Sp.idA s)) : slices_Clone_api_Attr_api_Attr.vc R s := by
  unfold Sp.idA.pre at h
  refine ⟨fun hz => ?_, by rw [gr_iff]; omega, hR⟩
  have : s = [] := List.eq_nil_of_length_eq_zero hz
  subst this; exact hR

theorem tree_Copy.ok (nn : Nat) (R : List Vi.Node → Prop) (l : List Vi.Node) (h : Sp.copyN.pre l ∧ Sp.mCp l < nn + 1) (hR : R (Sp.copyN l)) : tree_Copy.vc R nn l := by
  obtain ⟨h1, h2⟩ := h
  unfold Sp.mCp at h2
  have hl := Sp.mg_len h1
  refine ⟨hl, Lp_rule (fun v => ∃ p : Nat, v = ((l.length : Int), (p : Int), l, ()) ∧ p ≤ l.length) (fun v => l.length - v.2.1.toNat) ?_ ⟨0, rfl, Nat.zero_le _⟩⟩
  rintro _ K ⟨p, rfl, hp⟩ hK
  unfold tree_Copy.L0
  dsimp only
  rw [cond_dec]
  split
  · rename_i c
    have hp' : p < l.length := by omega
    have hm : nth l (p : Int) (Vi.Node.mk 0 0 [] [] [] []) ∈ l := Sp.nth_mem hp'
    have hs : l.set p (nth l (p : Int) (Vi.Node.mk 0 0 [] [] [] [])) = l := Sp.set_self hp'
    have hs' := Sp.szL_mem hm
    rw [Sp.szN_eq] at hs'
    have hg := Sp.mg_mem h1 hm
    simp only [Sp.idA, Sp.copyN, Node.eta, Int.toNat_natCast, hs, ix_iff, rg64]
    exact ⟨by omega, Sp.mgN_attrs hg, by omega, by omega, ⟨Sp.mgN_kids hg, by unfold Sp.mCp; omega⟩, by omega, by omega, hK _ ⟨p + 1, rfl, by omega⟩ (by simp; omega)⟩
  · exact hR

theorem merge_add.ok (R : List Vi.Node → Prop) (l out : List Vi.Node) (h : Sp.addN.pre out l) (hR : R (Sp.addN out l)) : merge_add.vc R l out := by
  unfold Sp.addN.pre at h
  have hll := Sp.len_wt l
  refine Lp_rule (fun v => ∃ (p : Nat) (x : List Sp.Nd), v = (l, (l.length : Int), (p : Int), x, ()) ∧ p ≤ l.length ∧ Sp.wt x + Sp.wt (l.drop p) ≤ 1000000000 ∧ Sp.addN x (l.drop p) = Sp.addN out l) (fun v => l.length - v.2.2.1.toNat) ?_ ⟨0, out, rfl, Nat.zero_le _, h, rfl⟩
  rintro _ K ⟨p, x, rfl, hp, hw, he⟩ hK
  unfold merge_add.L0
  simp only [Node.eta]
  rw [cond_dec]
  split
  · rename_i c
    have hp' : p < l.length := by omega
    rw [drop_cons (d := Vi.Node.mk 0 0 [] [] [] []) hp'] at hw he
    rw [Sp.addN_cons] at he
    rw [Sp.wt] at hw
    generalize nth l (p : Int) (Vi.Node.mk 0 0 [] [] [] []) = n at *
    have hx := Sp.len_wt x
    have hwo := Sp.wt_addOne x n
    have nx (y : List Sp.Nd) (hy : y = Sp.addOne x n) : K (l, (l.length : Int), (p : Int) + 1, y, ()) := by
      subst hy
      exact hK _ ⟨p + 1, _, rfl, by omega, by omega, he⟩ (by simp; omega)
    have nxA (hn : ¬ (0 < x.length ∧ n.kind = 2 ∧ (nth x ((x.length : Int) - 1) Sp.nz).kind = 2)) : Gr x.length 1 96 ∧ Rg IntKind.i64 ((p : Int) + 1) ∧ K (l, (l.length : Int), (p : Int) + 1, x ++ [n], ()) :=
      ⟨by rw [gr_iff]; omega, by rw [rg64]; omega, nx _ (by unfold Sp.addOne; rw [if_neg hn])⟩
    refine ⟨by rw [ix_iff]; omega, by rw [rg64]; omega, ?_⟩
    simp only [cond_dec]
    split
    case isFalse c1 => exact nxA (fun h => by omega)
    rename_i c1
    split
    case isFalse c2 => exact nxA (fun h => c2 h.2.1)
    rename_i c2
    refine ⟨by rw [ix_iff]; omega, ?_⟩
    split
    case isFalse c3 => exact nxA (fun h => c3 h.2.2)
    rename_i c3
    have hlast : nth x ((x.length : Int) - 1) Sp.nz ∈ x := by
      rw [show ((x.length : Int) - 1) = ((x.length - 1 : Nat) : Int) by omega]
      exact Sp.nth_mem (by omega)
    have hlt : (nth x ((x.length : Int) - 1) Sp.nz).text.length ≤ Sp.wt x := by
      clear nx nxA hwo he hK
      generalize nth x ((x.length : Int) - 1) Sp.nz = q at *
      clear c1 c3 hx hw
      induction x with
      | nil => cases hlast
      | cons y x ih =>
        rw [Sp.wt]
        rcases List.mem_cons.1 hlast with e | e
        · subst e; omega
        · have := ih e; omega
    refine ⟨by rw [ix_iff]; omega, ?_, by rw [ix_iff]; omega, by rw [rg64]; omega, nx _ ?_⟩
    · show ((nth x ((x.length : Int) - 1) Sp.nz).text.length : Int) + n.text.length ≤ _
      omega
    · unfold Sp.addOne
      rw [if_pos ⟨by omega, c2, c3⟩, show ((x.length : Int) - 1).toNat = x.length - 1 by omega]
      rfl
  · rename_i c
    rw [drop_end (by omega), Sp.addN_nil] at he
    rw [he]; exact hR

theorem merge_joined.ok (R : List Vi.Node → Prop) (l : List Vi.Node) (h : Sp.joinedN.pre l) (hR : R (Sp.joinedN l)) : merge_joined.vc R l := by
  have := Sp.wt_keys l
  have := h.2
  refine ⟨h, ?_, hR⟩
  unfold Sp.addN.pre Sp.copyN
  simp only [Sp.wt]
  omega
theorem merge_box.ok (R : Vi.Node → Prop) (name : Str) (kids : List Vi.Node) (hR : R (Sp.boxN name kids)) : merge_box.vc R name kids := hR
theorem merge_Mark.ok (R : Vi.Node → Prop) (a b : List Vi.Node) (h : Sp.markN.pre a b) (hR : R (Sp.markN a b)) : merge_Mark.vc R a b := by
  unfold merge_Mark.vc
  rw [Node.eta]
  exact ⟨h.1, h.2, hR⟩

namespace Sp
theorem okN_withKids {n : Nd} (h : okN n) : okN (withKids n []) := by
  obtain ⟨o1, o2, o3, _, _⟩ := okN_iff.1 h
  rw [okN_iff]
  exact ⟨o1, o2, o3, Nat.zero_le _, by show okL []; rw [okL]; trivial⟩
theorem eqNs_one (a b : Nd) : eqNs [a] [b] = eqNd a b := by
  rw [Bool.eq_iff_iff, eqNs_iff, eqNd_iff]
  simp
theorem mark_kids {n : Nd} (h : isMarkN n = true) : n.kids.length = 2 := by
  unfold isMarkN at h
  simp only [Bool.and_eq_true, decide_eq_true_iff] at h
  exact h.2.1
end Sp

theorem merge_isBox.ok (R : Bool → Prop) (n : Vi.Node) (name : Str) (h : Sp.isBoxN.pre n name) (hR : R (Sp.isBoxN n name)) : merge_isBox.vc R n name := by
  have ho := Sp.okN_withKids h
  unfold merge_isBox.vc
  rw [Node.eta, Sp.eqNs_one]
  exact ⟨⟨by rw [Sp.okL, Sp.okL]; exact ⟨ho, trivial⟩, by simp⟩, hR⟩

theorem merge_IsMark.ok (R : Bool → Prop) (n : Vi.Node) (h : Sp.isMarkN.pre n) (hR : R (Sp.isMarkN n)) : merge_IsMark.vc R n := by
  have h' := Sp.okN_iff.1 h
  unfold merge_IsMark.vc
  simp only [Node.eta]
  refine ⟨h, ?_⟩
  unfold Sp.isMarkN at hR
  show bif !Sp.isBoxN n Sp.tClash then R false else _
  cases c1 : Sp.isBoxN n Sp.tClash with
  | false => rw [c1] at hR; exact hR
  | true =>
    rw [c1] at hR
    simp only [Bool.not_true, cond_false, cond_ndec]
    split
    case isFalse c2 => rw [decide_eq_false (by omega)] at hR; exact hR
    rename_i c2
    rw [decide_eq_true (by omega)] at hR
    simp only [Bool.true_and] at hR
    have m0 : nth n.kids 0 Sp.nz ∈ n.kids := Sp.nth_mem (p := 0) (by omega)
    have m1 : nth n.kids 1 Sp.nz ∈ n.kids := Sp.nth_mem (p := 1) (by omega)
    refine ⟨by rw [ix_iff]; omega, Sp.okL_iff.1 h'.2.2.2.2 _ m0, ?_⟩
    show bif Sp.isBoxN (nth n.kids 0 Sp.nz) Sp.tOurs then _ else R false
    cases c3 : Sp.isBoxN (nth n.kids 0 Sp.nz) Sp.tOurs with
    | false => rw [c3] at hR; exact hR
    | true =>
      rw [c3] at hR
      exact ⟨by rw [ix_iff]; omega, Sp.okL_iff.1 h'.2.2.2.2 _ m1, hR⟩

namespace Sp
theorem mkN_eq (n : Nd) : mkN n = bif isMarkN n then 1 else mkL n.kids := by cases n; rw [mkN]; rfl
theorem pickN_eq (n : Nd) (b : Bool) : pickN n b = bif isMarkN n then (nth n.kids (bif b then 1 else 0) nz).kids else [withKids n (pickF n.kids b [])] := by cases n; rw [pickN]; rfl
theorem mk_le : ∀ (k : Nat) (l : List Nd), szL l ≤ k → 0 ≤ mkL l ∧ mkL l ≤ szL l := by
  intro k
  induction k with
  | zero =>
    intro l h
    cases l with
    | nil => rw [mkL, szL]; omega
    | cons n l => rw [szL, szN_eq] at h; omega
  | succ k ih =>
    intro l
    induction l with
    | nil => intro _; rw [mkL, szL]; omega
    | cons n l ihl =>
      intro h
      rw [szL] at h
      have h1 := ihl (by omega)
      have h2 := szN_eq n
      have h3 := ih n.kids (by omega)
      rw [mkL, szL, mkN_eq]
      cases isMarkN n with
      | true => simp only [cond_true]; omega
      | false => simp only [cond_false]; omega
theorem szN_key : ∀ (k : Nat), (∀ n : Nd, szN n ≤ k → szN n ≤ (key n).length) ∧ ∀ l : List Nd, szL l ≤ k → szL l ≤ (keys l).length := by
  intro k
  induction k with
  | zero =>
    refine ⟨fun n h => by rw [szN_eq] at h; omega, fun l h => by omega⟩
  | succ k ih =>
    have hN : ∀ n : Nd, szN n ≤ k + 1 → szN n ≤ (key n).length := fun n h => by
      rw [szN_eq] at h ⊢
      have := ih.2 n.kids (by omega)
      have := key_parts n
      omega
    refine ⟨hN, fun l => ?_⟩
    induction l with
    | nil => intro _; rw [szL]; omega
    | cons n l ihl =>
      intro h
      rw [szL] at h
      have := hN n (by omega)
      have := ihl (by omega)
      rw [szL, keys, List.length_append]
      omega
theorem szL_keys (l : List Nd) : szL l ≤ (keys l).length := (szN_key _).2 l (Nat.le_refl _)
theorem wt_pick : ∀ (k : Nat), (∀ (n : Nd) (b : Bool), szN n ≤ k → wt (pickN n b) ≤ (key n).length) ∧ ∀ (l : List Nd) (b : Bool) (o : List Nd), szL l ≤ k → wt (pickF l b o) ≤ wt o + (keys l).length := by
  intro k
  induction k with
  | zero =>
    refine ⟨fun n b h => by rw [szN_eq] at h; omega, fun l b o h => ?_⟩
    cases l with
    | nil => rw [pickF]; omega
    | cons n l => rw [szL, szN_eq] at h; omega
  | succ k ih =>
    have hN : ∀ (n : Nd) (b : Bool), szN n ≤ k + 1 → wt (pickN n b) ≤ (key n).length := fun n b h => by
      rw [szN_eq] at h
      have hk := key_parts n
      rw [pickN_eq]
      cases isMarkN n with
      | true =>
        simp only [cond_true]
        generalize (bif b then (1 : Int) else 0) = i
        by_cases hi : i.toNat < n.kids.length
        · have hm : nth n.kids i nz ∈ n.kids := by
            unfold nth
            rw [List.getD_eq_getElem?_getD, List.getElem?_eq_getElem hi]
            exact List.getElem_mem hi
          have h1 := keys_len_mem hm
          have h2 := key_parts (nth n.kids i nz)
          have h3 := wt_keys (nth n.kids i nz).kids
          omega
        · have : nth n.kids i nz = nz := by
            unfold nth
            rw [List.getD_eq_getElem?_getD, List.getElem?_eq_none (by omega)]; rfl
          rw [this]
          show wt [] ≤ _
          rw [wt]; omega
      | false =>
        simp only [cond_false, wt]
        show 1 + n.text.length + 0 ≤ _
        omega
    refine ⟨hN, fun l => ?_⟩
    induction l with
    | nil => intro b o _; rw [pickF]; omega
    | cons n l ihl =>
      intro b o h
      rw [szL] at h
      have h1 := hN n b (by omega)
      have h2 := ihl b (addN o (pickN n b)) (by omega)
      have h3 := wt_addN (pickN n b) o
      rw [pickF, keys, List.length_append]
      omega
end Sp

theorem merge_Marks.ok (nn : Nat) (R : Int → Prop) (l : List Vi.Node) (h : Sp.mkL.pre l ∧ Sp.mCp l < nn + 1) (hR : R (Sp.mkL l)) : merge_Marks.vc R nn l := by
  obtain ⟨h1, h2⟩ := h
  unfold Sp.mCp at h2
  have hl := Sp.mg_len h1
  have hsz := Sp.szL_keys l
  have hk := h1.2
  have hml := Sp.mk_le _ l (Nat.le_refl _)
  refine Lp_rule (fun v => ∃ (p : Nat) (s : Int), v = (s, l, (l.length : Int), (p : Int), ()) ∧ p ≤ l.length ∧ 0 ≤ s ∧ s + Sp.mkL (l.drop p) = Sp.mkL l) (fun v => l.length - v.2.2.2.1.toNat) ?_ ⟨0, 0, rfl, Nat.zero_le _, Int.le_refl _, by simp⟩
  rintro _ K ⟨p, s, rfl, hp, hs0, he⟩ hK
  unfold merge_Marks.L0
  simp only [Node.eta]
  rw [cond_dec]
  split
  · rename_i c
    have hp' : p < l.length := by omega
    have hm : nth l (p : Int) (Vi.Node.mk 0 0 [] [] [] []) ∈ l := Sp.nth_mem hp'
    have hd := Sp.mk_le _ (l.drop (p + 1)) (Nat.le_refl _)
    rw [drop_cons (d := Vi.Node.mk 0 0 [] [] [] []) hp', Sp.mkL, Sp.mkN_eq] at he
    have hs' := Sp.szL_mem hm
    rw [Sp.szN_eq] at hs'
    have hg := Sp.mg_mem h1 hm
    generalize nth l (p : Int) (Vi.Node.mk 0 0 [] [] [] []) = n at *
    have hkd := Sp.mk_le _ n.kids (Nat.le_refl _)
    refine ⟨by rw [ix_iff]; omega, hg.1, ?_⟩
    cases cm : Sp.isMarkN n with
    | true =>
      rw [cm] at he
      simp only [cond_true] at he ⊢
      exact ⟨by rw [rg64]; omega, by rw [rg64]; omega, hK _ ⟨p + 1, _, rfl, by omega, by omega, by omega⟩ (by simp; omega)⟩
    | false =>
      rw [cm] at he
      simp only [cond_false] at he ⊢
      exact ⟨⟨Sp.mgN_kids hg, by unfold Sp.mCp; omega⟩, by rw [rg64]; omega, by rw [rg64]; omega, hK _ ⟨p + 1, _, rfl, by omega, by omega, by omega⟩ (by simp; omega)⟩
  · rename_i c
    rw [drop_end (by omega), Sp.mkL] at he
    rw [show s = Sp.mkL l by omega]; exact hR

theorem merge_Pick.ok (nn : Nat) (R : List Vi.Node → Prop) (l : List Vi.Node) (b : Bool) (h : Sp.pickL.pre l b ∧ Sp.mPk l b < nn + 1) (hR : R (Sp.pickL l b)) : merge_Pick.vc R nn l b := by
  obtain ⟨h1, h2⟩ := h
  unfold Sp.mPk at h2
  have hl := Sp.mg_len h1
  have hk := h1.2
  refine ⟨h1, ?_⟩
  unfold Sp.copyN
  refine Lp_rule (fun v => ∃ (p : Nat) (x : List Sp.Nd), v = (b, (l.length : Int), (p : Int), x, l, ()) ∧ p ≤ l.length ∧ Sp.wt x + (Sp.keys (l.drop p)).length ≤ 1000000 ∧ Sp.pickF (l.drop p) b x = Sp.pickL l b) (fun v => l.length - v.2.2.1.toNat) ?_ ⟨0, [], rfl, Nat.zero_le _, by simpa [Sp.wt] using hk, rfl⟩
  rintro _ K ⟨p, x, rfl, hp, hw, he⟩ hK
  unfold merge_Pick.L0
  simp only [Node.eta]
  rw [cond_dec]
  split
  · rename_i c
    have hp' : p < l.length := by omega
    have hm : nth l (p : Int) (Vi.Node.mk 0 0 [] [] [] []) ∈ l := Sp.nth_mem hp'
    rw [drop_cons (d := Vi.Node.mk 0 0 [] [] [] []) hp', Sp.pickF] at he
    rw [drop_cons (d := Vi.Node.mk 0 0 [] [] [] []) hp', Sp.keys, List.length_append] at hw
    have hs' := Sp.szL_mem hm
    rw [Sp.szN_eq] at hs'
    have hg := Sp.mg_mem h1 hm
    generalize nth l (p : Int) (Vi.Node.mk 0 0 [] [] [] []) = n at *
    have hwp := (Sp.wt_pick _).1 n b (Nat.le_refl _)
    have fin (y : List Sp.Nd) (hy : y = Sp.pickN n b) : Sp.addN.pre x y ∧ Rg IntKind.i64 ((p : Int) + 1) ∧ K (b, (l.length : Int), (p : Int) + 1, Sp.addN x y, l, ()) := by
      subst hy
      have := Sp.wt_addN (Sp.pickN n b) x
      exact ⟨by unfold Sp.addN.pre; omega, by rw [rg64]; omega, hK _ ⟨p + 1, _, rfl, by omega, by omega, he⟩ (by simp; omega)⟩
    have hpe := Sp.pickN_eq n b
    refine ⟨by rw [ix_iff]; omega, hg.1, ?_⟩
    cases cm : Sp.isMarkN n with
    | true =>
      have h2 := Sp.mark_kids cm
      rw [cm] at hpe
      cases b with
      | true => exact ⟨by rw [ix_iff]; omega, fin _ hpe.symm⟩
      | false => exact ⟨hg.1, by rw [ix_iff]; omega, fin _ hpe.symm⟩
    | false =>
      rw [cm] at hpe
      exact ⟨hg.1, ⟨Sp.mgN_kids hg, by unfold Sp.mPk; omega⟩, fin _ hpe.symm⟩
  · rename_i c
    rw [drop_end (by omega), Sp.pickF] at he
    rw [he]; exact hR

theorem slices_Equal_api_Attr_api_Attr.ok (R : Bool → Prop) (a b : List (Str × Str)) (h : Sp.eqAt.pre a b) (hR : R (Sp.eqAt a b)) : slices_Equal_api_Attr_api_Attr.vc R a b := by
  unfold Sp.eqAt.pre at h
  unfold Sp.eqAt at hR
  have ne (hne : a ≠ b) : R false := by rw [decide_eq_false hne] at hR; exact hR
  unfold slices_Equal_api_Attr_api_Attr.vc
  rw [cond_ndec]
  split
  case isFalse c => exact ne fun e => c (by rw [e])
  rename_i hl
  refine Lp_rule (fun v => ∃ p : Nat, v = (a, b, (a.length : Int), (p : Int), ()) ∧ p ≤ a.length ∧ a.take p = b.take p) (fun v => a.length - v.2.2.2.1.toNat) ?_ ⟨0, rfl, Nat.zero_le _, rfl⟩
  rintro _ K ⟨p, rfl, hp, ht⟩ hK
  simp only [slices_Equal_api_Attr_api_Attr.L0]
  rw [cond_dec]
  split
  · rename_i c
    have h1' : p < a.length := by omega
    have h2' : p < b.length := by omega
    have t1 := take_succ (d := (([] : Str), ([] : Str))) h1'
    have t2 := take_succ (d := (([] : Str), ([] : Str))) h2'
    simp only [rg64, ix_iff]
    refine ⟨by omega, by omega, ?_⟩
    unfold eqS
    by_cases e : nth a (p : Int) ([], []) = nth b (p : Int) ([], [])
    · rw [e]
      simp only [decide_true, Bool.and_self, Bool.not_true, cond_false]
      exact ⟨by omega, hK _ ⟨p + 1, rfl, by omega, by rw [t1, t2, ht, e]⟩ (by simp; omega)⟩
    · have : (decide ((nth a (p : Int) ([], [])).fst = (nth b (p : Int) ([], [])).fst) && decide ((nth a (p : Int) ([], [])).snd = (nth b (p : Int) ([], [])).snd)) = false := by
        rw [← Bool.not_eq_true, Bool.and_eq_true, decide_eq_true_iff, decide_eq_true_iff]
        exact fun h => e (Prod.ext h.1 h.2)
      rw [this]
      exact ne fun e' => e (by rw [e'])
  · rename_i c
    have e : p = a.length := by omega
    subst e
    rw [List.take_length, List.take_of_length_le (by omega)] at ht
    rw [ht, decide_eq_true rfl] at hR
    exact hR

theorem merge_merger_kept_1.ok (R : Bool → Prop) (x y : Str) (hR : R (Sp.eqTx x y)) : merge_merger_kept_1.vc R x y := hR
theorem merge_one_api_Attr.ok (R : List (List UInt8 × List UInt8) → Bool → Prop) (o a b : List (Str × Str)) (h : Sp.oneA.pre o a b) (hR : R (Sp.oneA o a b).1 (Sp.oneA o a b).2) : merge_one_api_Attr.vc R o a b := by
  obtain ⟨h1, h2⟩ := h
  have p1 : Sp.eqAt.pre o a := by unfold Sp.eqAt.pre; omega
  have p2 : Sp.eqAt.pre o b := p1
  have p3 : Sp.eqAt.pre a b := by unfold Sp.eqAt.pre; omega
  unfold merge_one_api_Attr.vc
  unfold Sp.oneA at hR
  revert hR
  cases Sp.eqAt o a <;> cases Sp.eqAt o b <;> cases Sp.eqAt a b <;> intro hR <;> simp only [cond_true, cond_false, Bool.or_true, Bool.or_false, Bool.true_or] at hR ⊢
  · exact ⟨p1, p2, p3, hR⟩
  · exact ⟨p1, p2, p3, hR⟩
  · exact ⟨p1, p2, hR⟩
  · exact ⟨p1, p2, hR⟩
  · exact ⟨p1, hR⟩
  · exact ⟨p1, hR⟩
  · exact ⟨p1, hR⟩
  · exact ⟨p1, hR⟩
theorem merge_one_string.ok (R : List UInt8 → Bool → Prop) (o a b : Str) (hR : R (Sp.oneS o a b).1 (Sp.oneS o a b).2) : merge_one_string.vc R o a b := by
  unfold merge_one_string.vc
  have e (x y : Str) : Sp.eqTx x y = eqS x y := rfl
  simp only [e]
  unfold Sp.oneS at hR
  revert hR
  cases eqS o a <;> cases eqS o b <;> cases eqS a b <;> exact id
theorem merge_merger_mark.ok (R : List Vi.Node → Int → Prop) (a b : List Vi.Node) (m : Int) (h : Sp.mark1.pre a b m) (hR : R [Sp.markN a b] (Sp.pls m 1)) : merge_merger_mark.vc R a b m := by
  obtain ⟨h1, h2, h3, h4⟩ := h
  exact ⟨by rw [rg64]; omega, ⟨h1, h2⟩, hR⟩
theorem rectolaw26_word.ok (R : List Vi.Node → Prop) (s : Str) (hR : R (Sp.wordN s)) : rectolaw26_word.vc R s := hR
theorem rectolaw26_large.ok (R : Bool → Prop) (l : List Vi.Node) (hR : R (Sp.large160 l)) : rectolaw26_large.vc R l :=
  ⟨⟨by decide, by decide, by decide, by decide⟩, hR⟩

theorem Sp.jnN_eq (n : Nd) : jnN n = joinedT n.kids := by cases n; rw [jnN]; rfl
theorem rectolaw26_joined.ok (nn : Nat) (R : Bool → Prop) (l : List Vi.Node) (h : Sp.joinedT.pre l ∧ Sp.mJn l < nn + 1) (hR : R (Sp.joinedT l)) : rectolaw26_joined.vc R nn l := by
  obtain ⟨⟨h1, h3⟩, h2⟩ := h
  unfold Sp.mJn at h2
  refine Lp_rule (fun v => ∃ (p : Nat), v = (l, l, (l.length : Int), (p : Int), ()) ∧ p ≤ l.length ∧ Sp.jnL (if p = 0 then 0 else (nth l ((p : Int) - 1) Sp.nz).kind) (l.drop p) = Sp.joinedT l) (fun v => l.length - v.2.2.2.1.toNat) ?_ ⟨0, rfl, Nat.zero_le _, rfl⟩
  rintro _ K ⟨p, rfl, hp, he⟩ hK
  unfold rectolaw26_joined.L0
  dsimp only
  rw [cond_dec]
  split
  · rename_i c
    have hp' : p < l.length := by omega
    have hm : nth l (p : Int) (Vi.Node.mk 0 0 [] [] [] []) ∈ l := Sp.nth_mem hp'
    rw [drop_cons (d := Vi.Node.mk 0 0 [] [] [] []) hp', Sp.jnL, Sp.jnN_eq] at he
    have hs' := Sp.szL_mem hm
    rw [Sp.szN_eq] at hs'
    have ho := Sp.okN_iff.1 (Sp.okL_iff.1 h1 _ hm)
    have nxt : (nth l (((p + 1 : Nat) : Int) - 1) Sp.nz).kind = (nth l (p : Int) (Vi.Node.mk 0 0 [] [] [] [])).kind := by
      rw [show ((p + 1 : Nat) : Int) - 1 = p by omega]
    generalize nth l (p : Int) (Vi.Node.mk 0 0 [] [] [] []) = n at *
    have fin (hc : (decide ((if p = 0 then (0 : Int) else (nth l ((p : Int) - 1) Sp.nz).kind) = 2) && decide (n.kind = 2)) = false) :
        (Sp.joinedT.pre n.kids ∧ Sp.mJn n.kids < nn) ∧ bif Sp.joinedT n.kids then R true else Rg IntKind.i64 ((p : Int) + 1) ∧ K (l, l, (l.length : Int), (p : Int) + 1, ()) := by
      rw [hc, Bool.false_or] at he
      refine ⟨⟨⟨ho.2.2.2.2, ho.2.2.2.1⟩, by unfold Sp.mJn; omega⟩, ?_⟩
      cases cj : Sp.joinedT n.kids with
      | true => rw [cj, Bool.true_or] at he; rw [← he] at hR; exact hR
      | false =>
        rw [cj, Bool.false_or] at he
        refine ⟨by rw [rg64]; omega, hK _ ⟨p + 1, rfl, by omega, ?_⟩ (by simp; omega)⟩
        rw [if_neg (by omega), nxt]; exact he
    refine ⟨by rw [ix_iff]; omega, ?_⟩
    simp only [cond_dec]
    split
    case isFalse c1 => exact fin (by rw [if_pos (by omega)]; simp)
    rename_i c1
    rw [if_neg (by omega)] at fin he
    split
    case isFalse c2 => exact fin (by rw [decide_eq_false c2, Bool.and_false])
    rename_i c2
    refine ⟨by rw [rg64]; omega, by rw [ix_iff]; omega, ?_⟩
    split
    case isFalse c3 => exact fin (by rw [decide_eq_false c3, Bool.false_and])
    rename_i c3
    rw [decide_eq_true (show (nth l ((p : Int) - 1) Sp.nz).kind = 2 from c3), decide_eq_true c2] at he
    simp only [Bool.and_self, Bool.true_or] at he
    rw [← he] at hR; exact hR
  · rename_i c
    rw [drop_end (by omega), Sp.jnL] at he
    rw [← he] at hR; exact hR


namespace Sp
theorem chn_mem {o a b : List Str} : ∀ {l : List PartA} {f : Tri}, Le3 (0, 0, 0) f → Chn o a b f l → ∀ p ∈ l, In o a b p.2.1 p.2.2 ∧ Pc o a b p ∧ p.2.2 ≠ p.2.1
  | [], _, _, _, p, hp => by cases hp
  | x :: l, f, h0, ⟨h1, h2, h3, h4, h5⟩, p, hp => by
    rcases List.mem_cons.1 hp with e | e
    · subst e
      cases h1
      exact ⟨⟨h0, h2, Chn.le h5⟩, h4, h3⟩
    · exact chn_mem (h0.trans h2) h5 p e
theorem blendN_chn (o a b : List Nd) : Chn (keysOf o) (keysOf a) (keysOf b) (0, 0, 0) (blendNA o a b) := by
  have h := pts_chn le0 (blendN_asc o a b)
  rw [← keysOf_len o] at h
  exact h
theorem blendN_mem {o a b : List Nd} {p : PartA} (hp : p ∈ blendNA o a b) : In (keysOf o) (keysOf a) (keysOf b) p.2.1 p.2.2 ∧ Pc (keysOf o) (keysOf a) (keysOf b) p ∧ p.2.2 ≠ p.2.1 := chn_mem le0 (blendN_chn o a b) p hp

theorem nth_mem' {l : List Nd} {i : Int} (h0 : 0 ≤ i) (h : i < l.length) : nth l i nz ∈ l := by
  obtain ⟨p, rfl⟩ : ∃ p : Nat, i = p := ⟨i.toNat, by omega⟩
  exact nth_mem (by omega)
theorem mrgP_congr {r1 r2 : List Nd → List Nd → List Nd → List Nd × Int} {o a b : List Nd} {p : PartA}
    (h : p.1 = 1 → r1 (nth o p.2.1.1 nz).kids (nth a p.2.1.2.1 nz).kids (nth b p.2.1.2.2 nz).kids = r2 (nth o p.2.1.1 nz).kids (nth a p.2.1.2.1 nz).kids (nth b p.2.1.2.2 nz).kids) : mrgP r1 o a b p = mrgP r2 o a b p := by
  unfold mrgP
  by_cases c : p.1 = 1
  · rw [if_pos c, if_pos c]
    unfold keptN
    rw [h c]
  · rw [if_neg c, if_neg c]
theorem mrgF_congr {r1 r2 : List Nd → List Nd → List Nd → List Nd × Int} {o a b : List Nd} : ∀ {l : List PartA} {out : List Nd}, (∀ p ∈ l, mrgP r1 o a b p = mrgP r2 o a b p) → mrgF r1 o a b l out = mrgF r2 o a b l out
  | [], _, _ => rfl
  | p :: l, out, h => by
    rw [mrgF, mrgF, h p (by simp)]
    rw [mrgF_congr (l := l) fun q hq => h q (by simp [hq])]
/-- The first node of a part that is kept is one of the list's. -/
theorem kept_mem {o a b : List Nd} {p : PartA} (hp : p ∈ blendNA o a b) (h1 : p.1 = 1) : nth o p.2.1.1 nz ∈ o ∧ nth a p.2.1.2.1 nz ∈ a ∧ nth b p.2.1.2.2 nz ∈ b := by
  obtain ⟨⟨⟨a1, a2, a3⟩, _, _⟩, hpc, _⟩ := blendN_mem hp
  rcases hpc with ⟨_, _, b1, b2, b3⟩ | ⟨_, b1, _⟩
  · rw [keysOf_len] at b1 b2 b3
    exact ⟨nth_mem' a1 b1, nth_mem' a2 b2, nth_mem' a3 b3⟩
  · omega
theorem fuel : ∀ (n k k' : Nat) (o a b : List Nd), szL o ≤ n → szL o < k → szL o < k' → mrgL k o a b = mrgL k' o a b := by
  intro n
  induction n with
  | zero =>
    intro k k' o a b h0 h1 h2
    obtain ⟨k, rfl⟩ : ∃ j, k = j + 1 := ⟨k - 1, by omega⟩
    obtain ⟨k', rfl⟩ : ∃ j, k' = j + 1 := ⟨k' - 1, by omega⟩
    rw [mrgL, mrgL]
    refine mrgF_congr fun p hp => mrgP_congr fun hc => ?_
    have := szL_mem (kept_mem hp hc).1
    rw [szN_eq] at this
    omega
  | succ n ih =>
    intro k k' o a b h0 h1 h2
    obtain ⟨k, rfl⟩ : ∃ j, k = j + 1 := ⟨k - 1, by omega⟩
    obtain ⟨k', rfl⟩ : ∃ j, k' = j + 1 := ⟨k' - 1, by omega⟩
    rw [mrgL, mrgL]
    refine mrgF_congr fun p hp => mrgP_congr fun hc => ?_
    have := szL_mem (kept_mem hp hc).1
    rw [szN_eq] at this
    exact ih k k' _ _ _ (by omega) (by omega) (by omega)
theorem mrg_eq (o a b : List Nd) : mrg o a b = mrgF mrg o a b (blendNA o a b) [] := by
  have e : mrg o a b = mrgL (szL o + 1) o a b := rfl
  rw [e, mrgL]
  refine mrgF_congr fun p hp => mrgP_congr fun hc => ?_
  have := szL_mem (kept_mem hp hc).1
  rw [szN_eq] at this
  exact fuel _ _ _ _ _ _ (Nat.le_refl _) (by omega) (Nat.lt_succ_self _)

/-! How long all that is. -/
def kp (o a b : List Nd) (f t : Tri) : Int := ku (sub o f.1 t.1) (sub a f.2.1 t.2.1) (sub b f.2.2 t.2.2)
def kd3 (o a b : List Nd) (f : Tri) : Int := ku (o.drop f.1.toNat) (a.drop f.2.1.toNat) (b.drop f.2.2.toNat)
theorem ku_nonneg (o a b : List Nd) : 0 ≤ ku o a b := by unfold ku; omega
theorem drop_sub {l : List Nd} {i j : Int} (h0 : 0 ≤ i) (h1 : i ≤ j) (h2 : j ≤ l.length) : l.drop i.toNat = sub l i j ++ l.drop j.toNat := by
  have e : l = l.take j.toNat ++ l.drop j.toNat := (List.take_append_drop _ _).symm
  conv => lhs; rw [e]
  rw [List.drop_append_of_le_length (by rw [List.length_take]; omega)]
  rfl
theorem drop_sub_keys {l : List Nd} {i j : Int} (h0 : 0 ≤ i) (h1 : i ≤ j) (h2 : j ≤ l.length) : ((keys (l.drop i.toNat)).length : Int) = (keys (sub l i j)).length + (keys (l.drop j.toNat)).length := by
  rw [drop_sub h0 h1 h2, keys_app, List.length_append]; omega
theorem kd3_split {o a b : List Nd} {f t : Tri} (h : In (keysOf o) (keysOf a) (keysOf b) f t) : kd3 o a b f = kp o a b f t + kd3 o a b t := by
  obtain ⟨⟨a1, a2, a3⟩, ⟨a4, a5, a6⟩, a7, a8, a9⟩ := h
  unfold ends at a7 a8 a9
  simp only [keysOf_len] at a1 a2 a3 a7 a8 a9
  have e1 := drop_sub_keys a1 a4 a7
  have e2 := drop_sub_keys a2 a5 a8
  have e3 := drop_sub_keys a3 a6 a9
  unfold kd3 kp ku
  omega
theorem kd3_zero (o a b : List Nd) : kd3 o a b (0, 0, 0) = ku o a b := rfl
theorem wt_mark (x y : List Nd) : wt [markN x y] = 1 := rfl
theorem one_keys (n : Nd) : (keys [n]).length = (key n).length := by rw [keys, keys]; simp
theorem oneS_text (o a b : Str) : (oneS o a b).1.length ≤ a.length + b.length := by
  unfold oneS
  cases eqS o a <;> cases eqS o b <;> cases eqS a b <;> simp
theorem kept_bound {o a b : Nd} (h : 0 ≤ (mrg o.kids a.kids b.kids).2 ∧ (mrg o.kids a.kids b.kids).2 ≤ ku o.kids a.kids b.kids) :
    0 ≤ (keptN mrg o a b).2 ∧ (keptN mrg o a b).2 ≤ kuN o a b ∧ (wt (keptN mrg o a b).1 : Int) ≤ kuN o a b := by
  have k1 := key_parts o
  have k2 := key_parts a
  have k3 := key_parts b
  have ht := oneS_text o.text a.text b.text
  unfold keptN kuN
  unfold ku at h
  cases ((oneA o.attrs a.attrs b.attrs).2 && (oneS o.text a.text b.text).2) with
  | true =>
    simp only [cond_true, wt]
    show 0 ≤ (mrg o.kids a.kids b.kids).2 ∧ (mrg o.kids a.kids b.kids).2 ≤ _ ∧ ((1 + (oneS o.text a.text b.text).1.length + 0 : Nat) : Int) ≤ _
    omega
  | false =>
    simp only [cond_false, wt_mark]
    omega
theorem part_bound {o a b : List Nd} {p : PartA} (hp : p ∈ blendNA o a b)
    (h : p.1 = 1 → 0 ≤ (mrg (nth o p.2.1.1 nz).kids (nth a p.2.1.2.1 nz).kids (nth b p.2.1.2.2 nz).kids).2 ∧ (mrg (nth o p.2.1.1 nz).kids (nth a p.2.1.2.1 nz).kids (nth b p.2.1.2.2 nz).kids).2 ≤ ku (nth o p.2.1.1 nz).kids (nth a p.2.1.2.1 nz).kids (nth b p.2.1.2.2 nz).kids) :
    0 ≤ (mrgP mrg o a b p).2 ∧ (mrgP mrg o a b p).2 ≤ kp o a b p.2.1 p.2.2 ∧ (wt (mrgP mrg o a b p).1 : Int) ≤ kp o a b p.2.1 p.2.2 := by
  obtain ⟨⟨⟨a1, a2, a3⟩, ⟨a4, a5, a6⟩, a7, a8, a9⟩, hpc, hne⟩ := blendN_mem hp
  unfold ends at a7 a8 a9
  simp only [keysOf_len] at a1 a2 a3 a7 a8 a9
  rcases hpc with ⟨c1, c2, b1, b2, b3⟩ | ⟨_, c1, c2⟩
  · rw [keysOf_len] at b1 b2 b3
    have hb := kept_bound (h c1)
    unfold mrgP
    rw [if_pos c1]
    have : kp o a b p.2.1 p.2.2 = kuN (nth o p.2.1.1 nz) (nth a p.2.1.2.1 nz) (nth b p.2.1.2.2 nz) := by
      unfold kp ku kuN
      rw [c2]
      unfold next
      simp only
      rw [sub_one nz a1 b1, sub_one nz a2 b2, sub_one nz a3 b3, one_keys, one_keys, one_keys]
    rw [this]
    exact hb
  · have w1 := wt_keys (sub a p.2.1.2.1 p.2.2.2.1)
    have w2 := wt_keys (sub b p.2.1.2.2 p.2.2.2.2)
    have l1 := keys_len (sub o p.2.1.1 p.2.2.1)
    have l2 := keys_len (sub a p.2.1.2.1 p.2.2.2.1)
    have l3 := keys_len (sub b p.2.1.2.2 p.2.2.2.2)
    have s1 := sub_len a1 a4 a7
    have s2 := sub_len a2 a5 a8
    have s3 := sub_len a3 a6 a9
    unfold mrgP
    rw [if_neg (by omega)]
    unfold kp ku
    split
    · simp only; omega
    split
    · simp only [wt_mark]
      have : p.2.2.1 ≠ p.2.1.1 ∨ p.2.2.2.1 ≠ p.2.1.2.1 ∨ p.2.2.2.2 ≠ p.2.1.2.2 := by
        by_cases e1 : p.2.2.1 = p.2.1.1
        · by_cases e2 : p.2.2.2.1 = p.2.1.2.1
          · exact .inr (.inr fun e3 => hne (Prod.ext e1 (Prod.ext e2 e3)))
          · exact .inr (.inl e2)
        · exact .inl e1
      omega
    · simp only; omega
theorem mrg_bound : ∀ (n : Nat) (o a b : List Nd), szL o ≤ n → 0 ≤ (mrg o a b).2 ∧ (mrg o a b).2 ≤ ku o a b := by
  have chain (o a b : List Nd) (h : ∀ p ∈ blendNA o a b, 0 ≤ (mrgP mrg o a b p).2 ∧ (mrgP mrg o a b p).2 ≤ kp o a b p.2.1 p.2.2) :
      ∀ (l : List PartA) (f : Tri) (out : List Nd), (∀ p ∈ l, p ∈ blendNA o a b) → Le3 (0, 0, 0) f → Chn (keysOf o) (keysOf a) (keysOf b) f l → 0 ≤ (mrgF mrg o a b l out).2 ∧ (mrgF mrg o a b l out).2 ≤ kd3 o a b f := by
    intro l
    induction l with
    | nil => intro f out _ _ _; rw [mrgF]; exact ⟨Int.le_refl _, ku_nonneg _ _ _⟩
    | cons p l ih =>
      intro f out hm h0 hc
      obtain ⟨h1, h2, h3, h4, h5⟩ := hc
      cases h1
      have hi : In (keysOf o) (keysOf a) (keysOf b) p.2.1 p.2.2 := ⟨h0, h2, h5.le⟩
      have r := ih p.2.2 (addN out (mrgP mrg o a b p).1) (fun q hq => hm q (by simp [hq])) (h0.trans h2) h5
      have hb := h p (hm p (by simp))
      have hs := kd3_split hi
      rw [mrgF]
      simp only
      omega
  intro n
  induction n with
  | zero =>
    intro o a b hn
    rw [mrg_eq]
    refine chain o a b (fun p hp => ?_) _ _ [] (fun _ h => h) le0 (blendN_chn o a b)
    have := part_bound hp fun hc => by
      have := szL_mem (kept_mem hp hc).1
      rw [szN_eq] at this
      omega
    exact ⟨this.1, this.2.1⟩
  | succ n ih =>
    intro o a b hn
    rw [mrg_eq]
    refine chain o a b (fun p hp => ?_) _ _ [] (fun _ h => h) le0 (blendN_chn o a b)
    have := part_bound hp fun hc => by
      have := szL_mem (kept_mem hp hc).1
      rw [szN_eq] at this
      exact ih _ _ _ (by omega)
    exact ⟨this.1, this.2.1⟩
theorem mrg_bd (o a b : List Nd) : 0 ≤ (mrg o a b).2 ∧ (mrg o a b).2 ≤ ku o a b := mrg_bound _ o a b (Nat.le_refl _)
theorem kuN_kids (o a b : Nd) : ku o.kids a.kids b.kids + 3 ≤ kuN o a b := by
  have k1 := key_parts o
  have k2 := key_parts a
  have k3 := key_parts b
  unfold ku kuN
  omega
theorem oneA_len {o a b : List (Str × Str)} {n : Nat} (h1 : a.length ≤ n) (h2 : b.length ≤ n) : (oneA o a b).1.length ≤ n := by
  unfold oneA
  cases eqAt o a <;> cases eqAt o b <;> cases eqAt a b <;> simp <;> omega
end Sp

theorem merge_merger_kept.ok (nn : Nat) (R : List Vi.Node → Int → Prop) (o a b : Vi.Node) (m : Int) (h : Sp.kept.pre o a b m ∧ Sp.mKept o a b m < nn + 1) (hR : R (Sp.kept o a b).1 (Sp.pls m (Sp.kept o a b).2)) : merge_merger_kept.vc R nn o a b m := by
  obtain ⟨⟨h1, h2, h3, h4, h5⟩, h6⟩ := h
  unfold Sp.mKept at h6
  rw [Sp.szN_eq] at h6
  have hk := Sp.kuN_kids o a b
  have hk2 := Sp.ku_nonneg o.kids a.kids b.kids
  have hm1 : Sp.mark1.pre [a] [b] m := ⟨Sp.mg_one h2, Sp.mg_one h3, h4, by omega⟩
  unfold merge_merger_kept.vc
  simp only [Node.eta]
  refine ⟨⟨Sp.mgN_attrs h1, Sp.mgN_attrs h2⟩, ?_⟩
  unfold Sp.kept Sp.keptN at hR
  have hol := Sp.oneA_len (o := o.attrs) (Sp.mgN_attrs h2) (Sp.mgN_attrs h3)
  cases c1 : (Sp.oneA o.attrs a.attrs b.attrs).2 with
  | false =>
    rw [c1] at hR
    exact ⟨hm1, hR⟩
  | true =>
    rw [c1] at hR
    cases c2 : (Sp.oneS o.text a.text b.text).2 with
    | false =>
      rw [c2] at hR
      exact ⟨hm1, hR⟩
    | true =>
      rw [c2] at hR
      exact ⟨hol, ⟨⟨Sp.mgN_kids h1, Sp.mgN_kids h2, Sp.mgN_kids h3, h4, by omega⟩, by unfold Sp.mMrg; omega⟩, hR⟩

theorem merge_merger_lists.ok (nn : Nat) (R : List Vi.Node → Int → Prop) (o a b : List Vi.Node) (m : Int) (h : Sp.mrg.pre o a b m ∧ Sp.mMrg o a b m < nn + 1) (hR : R (Sp.mrg o a b).1 (Sp.pls m (Sp.mrg o a b).2)) : merge_merger_lists.vc R nn o a b m := by
  obtain ⟨⟨h1, h2, h3, h4, h5⟩, h6⟩ := h
  unfold Sp.mMrg at h6
  have lo := Sp.mg_len h1
  have la := Sp.mg_len h2
  have lb := Sp.mg_len h3
  have q1 := h1.2
  have q2 := h2.2
  have q3 := h3.2
  have p1 : Sp.keysOf.pre o := ⟨h1.1, lo, by omega⟩
  have p2 : Sp.keysOf.pre a := ⟨h2.1, la, by omega⟩
  have p3 : Sp.keysOf.pre b := ⟨h3.1, lb, by omega⟩
  refine ⟨⟨⟨p1, p2⟩, p1, p3⟩, ?_⟩
  have hE := Sp.mrg_eq o a b
  have hu : Sp.ku o a b ≤ 3000000 := by unfold Sp.ku; omega
  have hpl := Sp.blendN_len o a b
  have hmem (p : Sp.PartA) (hp : p ∈ Sp.blendNA o a b) := Sp.blendN_mem hp
  have hkm (p : Sp.PartA) (hp : p ∈ Sp.blendNA o a b) (hc : p.1 = 1) := Sp.kept_mem hp hc
  have hbd (p : Sp.PartA) (hp : p ∈ Sp.blendNA o a b) := Sp.part_bound hp fun _ => Sp.mrg_bd _ _ _
  have hch := Sp.blendN_chn o a b
  unfold Sp.blendN
  generalize hX : Sp.mrg o a b = X at *
  generalize Sp.blendNA o a b = PA at *
  rw [List.length_map]
  refine Lp_rule (fun v => ∃ (p : Nat) (m' : Int) (x : List Sp.Nd) (f : Sp.Tri), v = (o, a, b, PA.map Sp.toP, (PA.length : Int), (p : Int), m', x, ()) ∧ p ≤ PA.length ∧ Sp.Le3 (0, 0, 0) f ∧ Sp.Chn (Sp.keysOf o) (Sp.keysOf a) (Sp.keysOf b) f (PA.drop p) ∧ 0 ≤ m' ∧ m' + Sp.kd3 o a b f ≤ 1000000000 ∧
      (Sp.wt x : Int) + Sp.kd3 o a b f ≤ 3000000 ∧ (Sp.mrgF Sp.mrg o a b (PA.drop p) x).1 = X.1 ∧ m' + (Sp.mrgF Sp.mrg o a b (PA.drop p) x).2 = m + X.2)
    (fun v => PA.length - v.2.2.2.2.2.1.toNat) ?_ ⟨0, m, [], (0, 0, 0), rfl, Nat.zero_le _, Sp.le0, hch, h4, by rw [Sp.kd3_zero]; omega, by rw [Sp.kd3_zero]; simp only [Sp.wt]; omega, by rw [hE]; rfl, by rw [hE]; rfl⟩
  rintro _ K ⟨p, m', x, f, rfl, hp, hf, hc, hm0, hm1, hw, he1, he2⟩ hK
  unfold merge_merger_lists.L0
  dsimp only
  rw [cond_dec]
  split
  · rename_i c
    have hp' : p < PA.length := by omega
    have hdm : nth PA (p : Int) Sp.d0 ∈ PA := Sp.nth_mem hp'
    rw [drop_cons (d := Sp.d0) hp'] at hc he1 he2
    rw [Sp.nth_map Sp.toP PA p Sp.d0 _ hp']
    generalize nth PA (p : Int) Sp.d0 = q at *
    obtain ⟨g1, g2, g3, g4, g5⟩ := hc
    cases g1
    obtain ⟨hin, hpc, hne⟩ := hmem q hdm
    have hs := Sp.kd3_split hin
    obtain ⟨b1, b2, b3⟩ := hbd q hdm
    have hkm := hkm q hdm
    have hkd := Sp.ku_nonneg (o.drop q.2.2.1.toNat) (a.drop q.2.2.2.1.toNat) (b.drop q.2.2.2.2.toNat)
    have hkd' : 0 ≤ Sp.kd3 o a b q.2.2 := hkd
    rw [Sp.mrgF] at he1 he2
    simp only at he1 he2
    obtain ⟨⟨a1, a2, a3⟩, ⟨a4, a5, a6⟩, a7, a8, a9⟩ := hin
    unfold Sp.ends at a7 a8 a9
    simp only [Sp.keysOf_len] at a1 a2 a3 a7 a8 a9
    have fin (y : List Sp.Nd) (z : Int) (hy : Sp.mrgP Sp.mrg o a b q = (y, z)) : Sp.addN.pre x y ∧ Rg IntKind.i64 ((p : Int) + 1) ∧ K (o, a, b, PA.map Sp.toP, (PA.length : Int), (p : Int) + 1, m' + z, Sp.addN x y, ()) := by
      rw [hy] at b1 b2 b3 he1 he2
      simp only at b1 b2 b3 he1 he2
      have := Sp.wt_addN y x
      refine ⟨by unfold Sp.addN.pre; omega, by rw [rg64]; omega, hK _ ⟨p + 1, _, _, q.2.2, rfl, by omega, hf.trans ⟨a4, a5, a6⟩, g5, by omega, by omega, by omega, he1, by omega⟩ (by simp; omega)⟩
    have fin0 (y : List Sp.Nd) (hy : Sp.mrgP Sp.mrg o a b q = (y, 0)) : Sp.addN.pre x y ∧ Rg IntKind.i64 ((p : Int) + 1) ∧ K (o, a, b, PA.map Sp.toP, (PA.length : Int), (p : Int) + 1, m', Sp.addN x y, ()) := by
      have := fin y 0 hy
      rwa [Int.add_zero] at this
    have hP : Sp.mrgP Sp.mrg o a b q = Sp.mrgP Sp.mrg o a b q := rfl
    conv at hP => rhs; unfold Sp.mrgP
    unfold Sp.toP
    dsimp only
    simp only [cond_dec]
    refine ⟨by rw [ix_iff, List.length_map]; omega, ⟨a2, a5, a8⟩, ⟨a3, a6, a9⟩, ?_⟩
    split
    · rename_i c1
      rcases hpc with ⟨_, d2, e1, e2, e3⟩ | ⟨_, d1, d2⟩
      case inr => omega
      rw [Sp.keysOf_len] at e1 e2 e3
      obtain ⟨k1, k2, k3⟩ := hkm c1
      rw [if_pos c1] at hP
      have s2 : sub a q.2.1.2.1 q.2.2.2.1 = [nth a q.2.1.2.1 Sp.nz] := by rw [d2]; exact Sp.sub_one Sp.nz a2 e2
      have s3 : sub b q.2.1.2.2 q.2.2.2.2 = [nth b q.2.1.2.2 Sp.nz] := by rw [d2]; exact Sp.sub_one Sp.nz a3 e3
      have s1 : sub o q.2.1.1 q.2.2.1 = [nth o q.2.1.1 Sp.nz] := by rw [d2]; exact Sp.sub_one Sp.nz a1 e1
      have hkp : Sp.kp o a b q.2.1 q.2.2 = Sp.kuN (nth o q.2.1.1 Sp.nz) (nth a q.2.1.2.1 Sp.nz) (nth b q.2.1.2.2 Sp.nz) := by
        unfold Sp.kp Sp.ku Sp.kuN
        rw [s1, s2, s3, Sp.one_keys, Sp.one_keys, Sp.one_keys]
      rw [s2, s3]
      have hz := Sp.szL_mem k1
      refine ⟨by rw [ix_iff]; omega, by rw [ix_iff]; simp, by rw [ix_iff]; simp, ⟨⟨Sp.mg_mem h1 k1, Sp.mg_mem h2 k2, Sp.mg_mem h3 k3, hm0, ?_⟩, ?_⟩, fin _ _ hP⟩
      · show m' + Sp.kuN (nth o q.2.1.1 Sp.nz) (nth a q.2.1.2.1 Sp.nz) (nth b q.2.1.2.2 Sp.nz) ≤ _
        omega
      · show 2 * Sp.szN (nth o q.2.1.1 Sp.nz) < nn
        omega
    rename_i c1
    rw [if_neg c1] at hP
    split
    · rename_i c2
      rw [if_pos c2] at hP
      exact ⟨Sp.mg_sub h3 _ _, fin0 _ hP⟩
    rename_i c2
    rw [if_neg c2] at hP
    split
    · rename_i c3
      rw [if_neg (by omega)] at hP
      exact ⟨Sp.mg_sub h2 _ _, fin0 _ hP⟩
    rename_i c3
    split
    · rename_i c4
      rw [if_neg (by omega)] at hP
      exact ⟨Sp.mg_sub h2 _ _, fin0 _ hP⟩
    · rename_i c4
      have c5 : q.1 = 5 := by
        rcases hpc with ⟨d1, _⟩ | ⟨_, d1, d2⟩ <;> omega
      rw [if_pos c5] at hP
      exact ⟨⟨Sp.mg_sub h2 _ _, Sp.mg_sub h3 _ _, hm0, by omega⟩, fin _ _ hP⟩
  · rename_i c
    rw [drop_end (by omega), Sp.mrgF] at he1 he2
    simp only at he1 he2
    rw [he1, show m' = Sp.pls m X.2 by unfold Sp.pls; omega]
    exact hR

theorem merge_Three.ok (R : List Vi.Node × Int → Prop) (o a b : List Vi.Node) (h : Sp.mrg3.pre o a b) (hR : R (Sp.mrg3 o a b)) : merge_Three.vc R o a b := by
  obtain ⟨h1, h2, h3⟩ := h
  have q1 := h1.2
  have q2 := h2.2
  have q3 := h3.2
  refine ⟨⟨h1, h2, h3, Int.le_refl _, by unfold Sp.ku; omega⟩, ?_⟩
  have : Sp.pls 0 (Sp.mrg o a b).2 = (Sp.mrg o a b).2 := by unfold Sp.pls; omega
  rw [this]
  exact hR


namespace Sp
/-! Texts side by side. -/
def adjF : Int → List Nd → Bool
  | _, [] => false
  | k, n :: l => (decide (k = 2) && decide (n.kind = 2)) || adjF n.kind l
def lastK (k : Int) : List Nd → Int
  | [] => k
  | n :: l => lastK n.kind l
theorem adjF_app : ∀ (u v : List Nd) (k : Int), adjF k (u ++ v) = (adjF k u || adjF (lastK k u) v)
  | [], v, k => by simp [adjF, lastK]
  | n :: u, v, k => by
    rw [List.cons_append, adjF, adjF, adjF_app u v n.kind, lastK, Bool.or_assoc]
theorem lastK_app : ∀ (u : List Nd) (k : Int) (n : Nd), lastK k (u ++ [n]) = n.kind
  | [], k, n => rfl
  | m :: u, k, n => by rw [List.cons_append, lastK, lastK_app u m.kind n]
theorem addN_plain : ∀ (x o : List Nd), adjF (lastK 0 o) x = false → addN o x = o ++ x
  | [], o, _ => by rw [addN_nil, List.append_nil]
  | n :: x, o, h => by
    rw [adjF, Bool.or_eq_false_iff] at h
    rw [addN_cons]
    have e : addOne o n = o ++ [n] := by
      rcases snoc_of o with h1 | ⟨r, y, h1⟩
      · subst h1; exact addOne_nil n
      · subst h1
        rw [lastK_app] at h
        rw [addOne_last, if_neg]
        rintro ⟨e1, e2⟩
        rw [decide_eq_true e1, decide_eq_true e2] at h
        exact absurd h.1 (by decide)
    rw [e, addN_plain x (o ++ [n]) (by rw [lastK_app]; exact h.2), List.append_assoc]
    rfl
theorem jn_split : ∀ (l : List Nd) (k : Int), jnL k l = false → adjF k l = false ∧ ∀ n ∈ l, joinedT n.kids = false
  | [], k, _ => ⟨rfl, fun n h => by cases h⟩
  | m :: l, k, h => by
    rw [jnL, Bool.or_eq_false_iff, Bool.or_eq_false_iff, jnN_eq] at h
    obtain ⟨⟨h1, h2⟩, h3⟩ := h
    obtain ⟨i1, i2⟩ := jn_split l m.kind h3
    refine ⟨by rw [adjF, h1, i1]; rfl, fun n hn => ?_⟩
    rcases List.mem_cons.1 hn with e | e
    · subst e; exact h2
    · exact i2 n e
theorem adj_sub {l : List Nd} (h : adjF 0 l = false) {i j : Int} (h0 : 0 ≤ i) (h1 : i ≤ j) (h2 : j ≤ l.length) : adjF (lastK 0 (sub l 0 i)) (sub l i j) = false := by
  have e : l = sub l 0 i ++ (sub l i j ++ l.drop j.toNat) := by
    have a1 := drop_sub (l := l) (i := 0) (j := i) (Int.le_refl _) h0 (by omega)
    rw [← drop_sub h0 h1 h2, ← a1]; rfl
  rw [e, adjF_app, Bool.or_eq_false_iff, adjF_app, Bool.or_eq_false_iff] at h
  exact h.2.1

/-- Parts whose nodes are one list's own, merged. -/
theorem one_merge {o a b : List Nd} (r : List Nd) (w : Tri → Int) (hw : ∀ f t, Le3 f t → w f ≤ w t) (hw0 : ∀ f, Le3 (0, 0, 0) f → 0 ≤ w f) (he : w (ends (keysOf o) (keysOf a) (keysOf b)) = r.length) (hr : adjF 0 r = false) :
    ∀ {l : List PartA} {f : Tri}, Le3 (0, 0, 0) f → Chn (keysOf o) (keysOf a) (keysOf b) f l → (∀ p ∈ l, mrgP mrg o a b p = (sub r (w p.2.1) (w p.2.2), 0)) → mrgF mrg o a b l (sub r 0 (w f)) = (r, 0)
  | [], f, _, h, _ => by cases h; rw [mrgF, he, sub_all]
  | p :: l, f, h0, ⟨h1, h2, h3, h4, h5⟩, hp => by
    cases h1
    have hl := Chn.le h5
    have ih := one_merge r w hw hw0 he hr (h0.trans h2) h5 fun q hq => hp q (List.mem_cons_of_mem _ hq)
    have hwe : w p.2.2 ≤ (r.length : Int) := by rw [← he]; exact hw _ _ hl
    rw [mrgF, hp p List.mem_cons_self]
    simp only
    rw [addN_plain _ _ (adj_sub hr (hw0 _ h0) (hw _ _ h2) hwe), sub_cat (Int.le_refl _) (hw0 _ h0) (hw _ _ h2) hwe, ih]
    rfl

/-! Pairs have the same label. -/
theorem chain_mem (a b : List Str) : ∀ (l : List Pair) (i j : Nat), Chain a b i j l → ∀ q ∈ l, 0 ≤ q.1 ∧ q.1 < a.length ∧ 0 ≤ q.2.1 ∧ q.2.1 < b.length ∧ nth a q.1 [] = nth b q.2.1 []
  | [], _, _, _, q, hq => by cases hq
  | x :: l, i, j, ⟨h1, h2, h3, h4, h5, h6⟩, q, hq => by
    rcases List.mem_cons.1 hq with e | e
    · subst e; exact ⟨by omega, h2, by omega, h4, h5⟩
    · exact chain_mem a b l _ _ h6 q e
theorem firstAt_eq (s : Str) (y : List Str) : ∀ (n : Nat) (j : Int), 0 ≤ j → 0 ≤ firstAt s y n j → s = nth y (firstAt s y n j) []
  | 0, j, _, h => by rw [firstAt] at h; omega
  | n + 1, j, h0, h => by
    rw [firstAt] at h ⊢
    split
    · rename_i c; exact c
    · rename_i c
      rw [if_neg c] at h
      exact firstAt_eq s y n (j + 1) (by omega) h
theorem alikeAt_eq (x y : List Str) (to : Int) : ∀ (n : Nat) (i f : Int), 0 ≤ f → ∀ q ∈ alikeAt x y to n i f, nth x q.1 [] = nth y q.2.1 []
  | 0, i, f, _, q, hq => by rw [alikeAt] at hq; cases hq
  | n + 1, i, f, h0, q, hq => by
    rw [alikeAt] at hq
    split at hq
    · exact alikeAt_eq x y to n (i + 1) f h0 q hq
    · rename_i c
      rcases List.mem_cons.1 hq with e | e
      · subst e
        exact firstAt_eq (nth x i []) y _ f h0 (by omega)
      · have := firstAt_le (nth x i []) y (to - f).toNat f
        exact alikeAt_eq x y to n (i + 1) _ (by omega) q e
theorem listsAt_eq (x y : List Str) (ea eb : Int) : ∀ (r : List NPair) (i j : Int), 0 ≤ j → (∀ q ∈ r, 0 ≤ q.2.1 ∧ nth x q.1 [] = nth y q.2.1 []) → ∀ q ∈ listsAt x y ea eb i j r, nth x q.1 [] = nth y q.2.1 []
  | [], i, j, h0, _, q, hq => by rw [listsAt] at hq; exact alikeAt_eq x y eb _ i j h0 q hq
  | p :: r, i, j, h0, hr, q, hq => by
    rw [listsAt] at hq
    rcases List.mem_append.1 hq with e | e
    · exact alikeAt_eq x y _ _ i j h0 q e
    · have hp := hr p (by simp)
      rcases List.mem_cons.1 e with e | e
      · subst e; exact hp.2
      · exact listsAt_eq x y ea eb r _ _ (by omega) (fun z hz => hr z (by simp [hz])) q e
theorem nth_map' {α β : Type} (g : α → β) (l : List α) (i : Int) (d : α) (d' : β) (h0 : 0 ≤ i) (h : i < l.length) : nth (l.map g) i d' = g (nth l i d) := by
  obtain ⟨p, rfl⟩ : ∃ p : Nat, i = p := ⟨i.toNat, by omega⟩
  exact nth_map g l p d d' (by omega)
theorem lists_label {o a : List Nd} {q : NPair} (hq : q ∈ lists o a) (h0 : 0 ≤ q.1) (h1 : q.1 < o.length) (h2 : 0 ≤ q.2.1) (h3 : q.2.1 < a.length) : label (nth o q.1 nz) = label (nth a q.2.1 nz) := by
  have := listsAt_eq (labelsOf o) (labelsOf a) o.length a.length (lines (keysOf o) (keysOf a)) 0 0 (Int.le_refl _) (fun z hz => by
    obtain ⟨c1, c2, c3, c4, c5⟩ := chain_mem _ _ _ 0 0 (lines_chain (keysOf o) (keysOf a)) z hz
    rw [keysOf_len] at c2 c4
    refine ⟨c3, ?_⟩
    unfold keysOf at c5
    unfold labelsOf
    rw [nth_map' key o _ nz _ c1 c2, nth_map' key a _ nz _ c3 c4, key_iff] at c5
    rw [nth_map' label o _ nz _ c1 c2, nth_map' label a _ nz _ c3 c4, c5]) q hq
  unfold labelsOf at this
  rwa [nth_map' label o _ nz _ h0 h1, nth_map' label a _ nz _ h2 h3] at this
theorem fellow_mem : ∀ (l : List Pair) (x : Int), 0 ≤ fellow l x → ∃ q ∈ l, q.1 = x ∧ q.2.1 = fellow l x
  | [], x, h => by rw [fellow] at h; omega
  | p :: l, x, h => by
    rw [fellow] at h ⊢
    split
    · rename_i c; exact ⟨p, by simp, c, rfl⟩
    · rename_i c
      rw [if_neg c] at h
      obtain ⟨q, h1, h2⟩ := fellow_mem l x h
      exact ⟨q, by simp [h1], h2⟩
theorem fellow_label {o a : List Nd} {x : Int} (h : 0 ≤ fellow (lists o a) x) : label (nth o x nz) = label (nth a (fellow (lists o a) x) nz) := by
  obtain ⟨q, h1, h2, h3⟩ := fellow_mem _ _ h
  have hb := (lists_up o a).1 x h
  rw [← h3, ← h2]
  exact lists_label h1 (by omega) (by omega) (by omega) (by omega)
theorem lists_self (x : List Str) : ∀ (k : List Str) (i : Int) (n : Int), n = i + k.length → listsAt x x n n i i (linesAt i i k k) = linesAt i i k k
  | [], i, n, h => by
    rw [linesAt, listsAt, show (n - i).toNat = 0 by simp at h; omega, alikeAt]
  | s :: k, i, n, h => by
    rw [linesAt, if_pos rfl, listsAt]
    simp only
    rw [show (i - i).toNat = 0 by omega, alikeAt, lists_self x k (i + 1) n (by simp at h ⊢; omega)]
    rfl
theorem fellow_self {o : List Nd} {x : Int} (h0 : 0 ≤ x) (h1 : x < o.length) : fellow (lists o o) x = x := by
  have e : lists o o = linesAt 0 0 (keysOf o) (keysOf o) := by
    unfold lists lines
    exact lists_self (labelsOf o) (keysOf o) 0 o.length (by rw [keysOf_len]; omega)
  rw [e]
  exact fellow_same (keysOf o) 0 x h0 (by rw [keysOf_len]; omega)

theorem eqAt_refl (x : List (Str × Str)) : eqAt x x = true := decide_eq_true rfl
theorem eqS_refl (x : Str) : eqS x x = true := decide_eq_true rfl
theorem keptN_one {x u v y : Nd} (hA : oneA x.attrs u.attrs v.attrs = (y.attrs, true)) (hS : oneS x.text u.text v.text = (y.text, true)) (hl : label x = label y) (hk : mrg x.kids u.kids v.kids = (y.kids, 0)) : keptN mrg x u v = ([y], 0) := by
  obtain ⟨l1, l2, l3⟩ := label_iff.1 hl
  unfold keptN
  rw [hA, hS, hk]
  simp only [Bool.and_self, cond_true, l1, l2, l3, Node.eta]
theorem blendN_all (o a b : List Nd) (Q : Tri → Prop) (hn : ∀ t, Q t → Q (next t)) (h0 : Q (0, 0, 0)) (ht : ∀ t ∈ triAt (lists o a) (lists o b) o.length 0, Q t) (he : Q (ends (keysOf o) (keysOf a) (keysOf b))) :
    ∀ p ∈ blendNA o a b, Q p.2.1 ∧ Q p.2.2 ∧ ((p.1 = 1 ∧ p.2.1 ∈ triAt (lists o a) (lists o b) o.length 0 ∧ p.2.2 = next p.2.1) ∨ (p.1 ≠ 0 ∧ p.1 = kdT (keysOf o) (keysOf a) (keysOf b) p.2.1 p.2.2)) := by
  have := pts_all (o := keysOf o) (a := keysOf a) (b := keysOf b) Q hn h0 ht he
  rw [← keysOf_len o] at this ⊢
  exact this
theorem eqL_keys {x y : List Nd} : eqL (keysOf x) (keysOf y) = true ↔ x = y := by
  unfold eqL
  rw [decide_eq_true_iff, keysOf_iff]

theorem one_theirsN (o a : List Nd) (hj : joinedT a = false) (ih : ∀ x y : Nd, x ∈ o → y ∈ a → mrg x.kids x.kids y.kids = (y.kids, 0)) : mrg o o a = (a, 0) := by
  obtain ⟨j1, j2⟩ := jn_split a 0 hj
  rw [mrg_eq]
  have h0 : ([] : List Nd) = sub a 0 ((fun t : Tri => t.2.2) (0, 0, 0)) := by rw [sub_self]
  rw [h0]
  refine one_merge a (fun t => t.2.2) (fun _ _ => le_b) (fun _ => le_b) (by simp only [ends, keysOf_len]) j1 le0 (blendN_chn o o a) fun p hp => ?_
  have hm := blendN_mem hp
  obtain ⟨q1, q2, q3⟩ := blendN_all o o a (fun t => t.1 = t.2.1) (fun t h => by simp only [next]; omega) rfl (fun t ht => by
    obtain ⟨m1, m2, m3, _⟩ := triAt_mem _ _ _ _ _ ht
    rw [m3]
    exact (fellow_self m1 (by omega)).symm) rfl p hp
  obtain ⟨⟨⟨a1, a2, a3⟩, ⟨a4, a5, a6⟩, a7, a8, a9⟩, _, _⟩ := hm
  unfold ends at a7 a8 a9
  simp only [keysOf_len] at a1 a2 a3 a7 a8 a9
  unfold mrgP
  rcases q3 with ⟨c1, q4, c2⟩ | ⟨q3, q4⟩
  · rw [if_pos c1, c2]
    obtain ⟨m1, m2, m3, m4, m5, m6⟩ := triAt_mem _ _ _ _ _ q4
    have hb := (lists_up o a).1 p.2.1.1 (by omega)
    simp only [next]
    rw [sub_one nz m6 (by omega), ← q1]
    have hx := nth_mem' (l := o) m1 (by omega)
    have hy := nth_mem' (l := a) m6 (by omega)
    refine keptN_one ?_ ?_ ?_ (ih _ _ hx hy)
    · unfold oneA; rw [eqAt_refl]; rfl
    · unfold oneS; rw [eqS_refl]; rfl
    · rw [m4]; exact fellow_label (by omega)
  · have hk := kd_of (q4 ▸ q3)
    rw [← q4, q1, q2, kindOf, eqL_refl, cond_true] at hk
    rw [if_neg (by omega), if_pos hk]
theorem one_oursN (o a : List Nd) (hj : joinedT a = false) (ih : ∀ x y : Nd, x ∈ o → y ∈ a → mrg x.kids y.kids x.kids = (y.kids, 0)) : mrg o a o = (a, 0) := by
  obtain ⟨j1, j2⟩ := jn_split a 0 hj
  rw [mrg_eq]
  have h0 : ([] : List Nd) = sub a 0 ((fun t : Tri => t.2.1) (0, 0, 0)) := by rw [sub_self]
  rw [h0]
  refine one_merge a (fun t => t.2.1) (fun _ _ => le_a) (fun _ => le_a) (by simp only [ends, keysOf_len]) j1 le0 (blendN_chn o a o) fun p hp => ?_
  have hm := blendN_mem hp
  obtain ⟨q1, q2, q3⟩ := blendN_all o a o (fun t => t.1 = t.2.2) (fun t h => by simp only [next]; omega) rfl (fun t ht => by
    obtain ⟨m1, m2, _, m3, _⟩ := triAt_mem _ _ _ _ _ ht
    rw [m3]
    exact (fellow_self m1 (by omega)).symm) rfl p hp
  obtain ⟨⟨⟨a1, a2, a3⟩, ⟨a4, a5, a6⟩, a7, a8, a9⟩, _, _⟩ := hm
  unfold ends at a7 a8 a9
  simp only [keysOf_len] at a1 a2 a3 a7 a8 a9
  unfold mrgP
  rcases q3 with ⟨c1, q4, c2⟩ | ⟨q3, q4⟩
  · rw [if_pos c1, c2]
    obtain ⟨m1, m2, m3, m4, m5, m6⟩ := triAt_mem _ _ _ _ _ q4
    have hb := (lists_up o a).1 p.2.1.1 (by omega)
    simp only [next]
    rw [sub_one nz m5 (by omega), ← q1]
    have hx := nth_mem' (l := o) m1 (by omega)
    have hy := nth_mem' (l := a) m5 (by omega)
    refine keptN_one ?_ ?_ ?_ (ih _ _ hx hy)
    · unfold oneA
      cases c : eqAt (nth o p.2.1.1 nz).attrs (nth a p.2.1.2.1 nz).attrs with
      | true => rw [show (nth o p.2.1.1 nz).attrs = (nth a p.2.1.2.1 nz).attrs from of_decide_eq_true c]; rfl
      | false => rw [eqAt_refl]; rfl
    · unfold oneS
      cases c : eqS (nth o p.2.1.1 nz).text (nth a p.2.1.2.1 nz).text with
      | true => rw [show (nth o p.2.1.1 nz).text = (nth a p.2.1.2.1 nz).text from of_decide_eq_true c]; rfl
      | false => rw [eqS_refl]; rfl
    · rw [m3]; exact fellow_label (by omega)
  · have hk := kd_of (q4 ▸ q3)
    rw [← q4, ← q1, ← q2, kindOf, eqL_refl, cond_true] at hk
    cases he : eqL (sub (keysOf o) p.2.1.1 p.2.2.1) (sub (keysOf a) p.2.1.2.1 p.2.2.2.1) with
    | true =>
      rw [he] at hk
      simp only [cond_true] at hk
      rw [← keysOf_sub, ← keysOf_sub, eqL_keys] at he
      rw [if_neg (by omega), if_pos hk, ← q1, ← q2, he]
    | false =>
      rw [he] at hk
      simp only [cond_false] at hk
      rw [if_neg (by omega), if_neg (by omega), if_neg (by omega)]
theorem one_bothN (o a : List Nd) (hj : joinedT a = false) (ih : ∀ x y : Nd, x ∈ o → y ∈ a → mrg x.kids y.kids y.kids = (y.kids, 0)) : mrg o a a = (a, 0) := by
  obtain ⟨j1, j2⟩ := jn_split a 0 hj
  rw [mrg_eq]
  have h0 : ([] : List Nd) = sub a 0 ((fun t : Tri => t.2.1) (0, 0, 0)) := by rw [sub_self]
  rw [h0]
  refine one_merge a (fun t => t.2.1) (fun _ _ => le_a) (fun _ => le_a) (by simp only [ends, keysOf_len]) j1 le0 (blendN_chn o a a) fun p hp => ?_
  have hm := blendN_mem hp
  obtain ⟨q1, q2, q3⟩ := blendN_all o a a (fun t => t.2.1 = t.2.2) (fun t h => by simp only [next]; omega) rfl (triAt_same _ _) rfl p hp
  obtain ⟨⟨⟨a1, a2, a3⟩, ⟨a4, a5, a6⟩, a7, a8, a9⟩, _, _⟩ := hm
  unfold ends at a7 a8 a9
  simp only [keysOf_len] at a1 a2 a3 a7 a8 a9
  unfold mrgP
  rcases q3 with ⟨c1, q4, c2⟩ | ⟨q3, q4⟩
  · rw [if_pos c1, c2]
    obtain ⟨m1, m2, m3, m4, m5, m6⟩ := triAt_mem _ _ _ _ _ q4
    have hb := (lists_up o a).1 p.2.1.1 (by omega)
    simp only [next]
    rw [sub_one nz m5 (by omega), ← q1]
    have hx := nth_mem' (l := o) m1 (by omega)
    have hy := nth_mem' (l := a) m5 (by omega)
    refine keptN_one ?_ ?_ ?_ (ih _ _ hx hy)
    · unfold oneA
      cases c : eqAt (nth o p.2.1.1 nz).attrs (nth a p.2.1.2.1 nz).attrs with
      | true => rfl
      | false => rw [eqAt_refl]; rfl
    · unfold oneS
      cases c : eqS (nth o p.2.1.1 nz).text (nth a p.2.1.2.1 nz).text with
      | true => rfl
      | false => rw [eqS_refl]; rfl
    · rw [m3]; exact fellow_label (by omega)
  · have hk := kd_of (q4 ▸ q3)
    rw [← q4, ← q1, ← q2, kindOf, eqL_refl, cond_true] at hk
    cases he : eqL (sub (keysOf o) p.2.1.1 p.2.2.1) (sub (keysOf a) p.2.1.2.1 p.2.2.2.1) with
    | true =>
      rw [he] at hk
      simp only [cond_true] at hk
      rw [if_neg (by omega), if_pos hk, ← q1, ← q2]
    | false =>
      rw [he] at hk
      simp only [cond_false] at hk
      rw [if_neg (by omega), if_neg (by omega), if_neg (by omega)]
theorem merge_one : ∀ (n : Nat) (o a : List Nd), szL o ≤ n → joinedT a = false → mrg o o a = (a, 0) ∧ mrg o a o = (a, 0) ∧ mrg o a a = (a, 0) := by
  intro n
  induction n with
  | zero =>
    intro o a hn hj
    have no (x : Nd) (hx : x ∈ o) : False := by
      have := szL_mem hx
      rw [szN_eq] at this
      omega
    exact ⟨one_theirsN o a hj fun x y hx _ => (no x hx).elim, one_oursN o a hj fun x y hx _ => (no x hx).elim, one_bothN o a hj fun x y hx _ => (no x hx).elim⟩
  | succ n ih =>
    intro o a hn hj
    have st (x y : Nd) (hx : x ∈ o) (hy : y ∈ a) := by
      have h1 := szL_mem hx
      rw [szN_eq] at h1
      exact ih x.kids y.kids (by omega) ((jn_split a 0 hj).2 y hy)
    exact ⟨one_theirsN o a hj fun x y hx hy => (st x y hx hy).1, one_oursN o a hj fun x y hx hy => (st x y hx hy).2.1, one_bothN o a hj fun x y hx hy => (st x y hx hy).2.2⟩

/-! The other way round. -/
theorem blendN_swap (o a b : List Nd) : Tws (keysOf o) (keysOf a) (keysOf b) (blendNA o a b) (blendNA o b a) := by
  have := pts_swap (keysOf o) (keysOf a) (keysOf b) (triAt (lists o a) (lists o b) (keysOf o).length 0) (0, 0, 0) (ends (keysOf o) (keysOf a) (keysOf b))
  rw [← triAt_swap] at this
  exact this
theorem oneA_swap (o a b : List (Str × Str)) : (oneA o a b).2 = (oneA o b a).2 := by
  have e : eqAt a b = eqAt b a := decide_eq_decide.2 ⟨Eq.symm, Eq.symm⟩
  unfold oneA
  rw [e]
  cases eqAt o a <;> cases eqAt o b <;> cases eqAt b a <;> rfl
theorem oneS_swap (o a b : Str) : (oneS o a b).2 = (oneS o b a).2 := by
  have e : eqS a b = eqS b a := decide_eq_decide.2 ⟨Eq.symm, Eq.symm⟩
  unfold oneS
  rw [e]
  cases eqS o a <;> cases eqS o b <;> cases eqS b a <;> rfl
theorem mrgF_swap {o a b : List Nd} : ∀ {l m : List PartA} {x y : List Nd}, l.length = m.length → (∀ i (h1 : i < l.length) (h2 : i < m.length), (mrgP mrg o a b l[i]).2 = (mrgP mrg o b a m[i]).2) → (mrgF mrg o a b l x).2 = (mrgF mrg o b a m y).2
  | [], [], _, _, _, _ => rfl
  | [], _ :: _, _, _, hl, _ => by simp at hl
  | _ :: _, [], _, _, hl, _ => by simp at hl
  | p :: l, q :: m, x, y, hl, h => by
    rw [mrgF, mrgF]
    simp only
    have h0 := h 0 (by simp) (by simp)
    simp only [List.getElem_cons_zero] at h0
    rw [h0, mrgF_swap (l := l) (m := m) (by simpa using hl) fun i h1 h2 => by
      have := h (i + 1) (by simpa using h1) (by simpa using h2)
      simpa using this]
theorem mrg_swap : ∀ (n : Nat) (o a b : List Nd), szL o ≤ n → (mrg o a b).2 = (mrg o b a).2 := by
  have step (o a b : List Nd) (h : ∀ x y z : Nd, x ∈ o → (mrg x.kids y.kids z.kids).2 = (mrg x.kids z.kids y.kids).2) : (mrg o a b).2 = (mrg o b a).2 := by
    have ht := blendN_swap o a b
    rw [mrg_eq o a b, mrg_eq o b a]
    refine mrgF_swap ht.len fun i h1 h2 => ?_
    have hn := ht.nth (d := d0) i h1
    rw [nth_lt h1, nth_lt h2] at hn
    have hm : (blendNA o a b)[i] ∈ blendNA o a b := List.getElem_mem h1
    have hk := kept_mem hm
    generalize (blendNA o a b)[i] = p at *
    generalize (blendNA o b a)[i] = q at *
    obtain ⟨e1, e2, e3⟩ := hn
    rcases e3 with ⟨c1, c2⟩ | ⟨c1, c2, c3, c4⟩
    · unfold mrgP
      rw [if_pos c1, if_pos c2, e1]
      unfold swap keptN
      simp only
      rw [oneA_swap, oneS_swap]
      cases ((oneA (nth o p.2.1.1 nz).attrs (nth b p.2.1.2.2 nz).attrs (nth a p.2.1.2.1 nz).attrs).2 && (oneS (nth o p.2.1.1 nz).text (nth b p.2.1.2.2 nz).text (nth a p.2.1.2.1 nz).text).2) with
      | true => exact h _ _ _ (hk c1).1
      | false => rfl
    · have k1 := kd_of (c1 ▸ c3)
      have k2 := kd_of (c2 ▸ c4)
      rw [← c1] at k1
      rw [← c2, e1, e2] at k2
      unfold swap at k2
      simp only at k2
      have kt := kind_turned (sub (keysOf o) p.2.1.1 p.2.2.1) (sub (keysOf a) p.2.1.2.1 p.2.2.2.1) (sub (keysOf b) p.2.1.2.2 p.2.2.2.2)
      rw [← k1, ← k2] at kt
      have kr := kindOf_ne eqL (sub (keysOf o) p.2.1.1 p.2.2.1) (sub (keysOf a) p.2.1.2.1 p.2.2.2.1) (sub (keysOf b) p.2.1.2.2 p.2.2.2.2)
      rw [← k1] at kr
      have val (o a b : List Nd) (r : PartA) (hr : r.1 ≠ 1) : (mrgP mrg o a b r).2 = if r.1 = 5 then 1 else 0 := by
        unfold mrgP
        rw [if_neg hr]
        by_cases d1 : r.1 = 2
        · rw [if_pos d1, if_neg (by omega)]
        · rw [if_neg d1]
          by_cases d2 : r.1 = 5
          · rw [if_pos d2, if_pos d2]
          · rw [if_neg d2, if_neg d2]
      unfold turned at kt
      rw [val o a b p (by omega), val o b a q (by
        rcases kt with kt | kt
        · rw [kt]; split; omega; split; omega; omega
        · omega)]
      rcases kt with kt | kt
      · by_cases d1 : p.1 = 3
        · rw [if_pos d1] at kt
          rw [if_neg (by omega), if_neg (by omega)]
        · rw [if_neg d1] at kt
          by_cases d2 : p.1 = 2
          · rw [if_pos d2] at kt
            rw [if_neg (by omega), if_neg (by omega)]
          · rw [if_neg d2] at kt
            rw [kt]
      · rw [if_neg (by omega), if_neg (by omega)]
  intro n
  induction n with
  | zero =>
    intro o a b hn
    refine step o a b fun x y z hx => ?_
    have := szL_mem hx
    rw [szN_eq] at this
    omega
  | succ n ih =>
    intro o a b hn
    refine step o a b fun x y z hx => ?_
    have := szL_mem hx
    rw [szN_eq] at this
    exact ih _ _ _ (by omega)

theorem mg_of {l : List Nd} (h : Sz (.sl .node) l) (hl : large160 l = false) : mg l := by
  have ho := sz_okL l h.mem
  have h0 := lg_nonneg hl
  obtain ⟨g1, g2⟩ := lg_lgL hl
  have := (small (szL l)).2 l 160 1 (Nat.le_refl _) ho g1
  exact ⟨ho, by omega⟩
end Sp

theorem rectolaw26_MergeTurned.ok (R : Bool → Prop) (o a b : List Vi.Node) (h : Sz (.sl .node) o ∧ Sz (.sl .node) a ∧ Sz (.sl .node) b) (hR : R Sp.tt) : rectolaw26_MergeTurned.vc R o a b := by
  unfold rectolaw26_MergeTurned.vc
  cases h1 : Sp.large160 o with
  | true => exact hR
  | false =>
    cases h2 : Sp.large160 a with
    | true => exact hR
    | false =>
      cases h3 : Sp.large160 b with
      | true => exact hR
      | false =>
        have m1 := Sp.mg_of h.1 h1
        have m2 := Sp.mg_of h.2.1 h2
        have m3 := Sp.mg_of h.2.2 h3
        refine ⟨⟨m1, m2, m3⟩, ⟨m1, m3, m2⟩, ?_⟩
        unfold Sp.mrg3
        rw [cond_dec, if_pos (Sp.mrg_swap _ o a b (Nat.le_refl _))]
        exact hR

theorem rectolaw26_MergeOne.ok (R : Bool → Prop) (o a : List Vi.Node) (h : Sz (.sl .node) o ∧ Sz (.sl .node) a) (hR : R Sp.tt) : rectolaw26_MergeOne.vc R o a := by
  unfold rectolaw26_MergeOne.vc
  cases h1 : Sp.large160 o with
  | true => exact hR
  | false =>
    cases h2 : Sp.large160 a with
    | true => exact hR
    | false =>
      have m1 := Sp.mg_of h.1 h1
      have m2 := Sp.mg_of h.2 h2
      refine ⟨⟨m1.1, by have := Sp.mg_len m1; omega⟩, ?_⟩
      cases h3 : Sp.joinedT o with
      | true => exact hR
      | false =>
        refine ⟨⟨m2.1, by have := Sp.mg_len m2; omega⟩, ?_⟩
        cases h4 : Sp.joinedT a with
        | true => exact hR
        | false =>
          obtain ⟨e1, e2, e3⟩ := Sp.merge_one _ o a (Nat.le_refl _) h4
          have hp : Sp.eqNs.pre a a := ⟨m2.1, by have := Sp.mg_len m2; omega⟩
          have he : Sp.eqNs a a = true := Sp.eqNs_iff.2 rfl
          refine ⟨⟨m1, m1, m2⟩, ⟨m1, m2, m1⟩, ⟨m1, m2, m2⟩, ?_⟩
          unfold Sp.mrg3
          rw [e1, e2, e3]
          simp only [he, cond_true, decide_true]
          exact ⟨hp, hp, hp, hR⟩

theorem rectolaw26_clash.ok (R : Bool → Prop) (hR : R Sp.tt) : rectolaw26_clash.vc R := by
  have w (c : UInt8) : Sp.mg (Sp.wordN [c]) := by
    refine ⟨?_, ?_⟩
    · simp [Sp.wordN, Sp.okL, Sp.okN, Sp.dgs.pre]
    · exact Nat.le_of_ble_eq_true (by kernel_rfl)
  have e1 : Sp.mrg3 (Sp.wordN [97]) (Sp.wordN [98]) (Sp.wordN [99]) = ([.mk 1 0 [112] [] [] [Sp.boxN Sp.tClash [Sp.boxN Sp.tOurs [.mk 2 0 [] [] [98] []], Sp.boxN Sp.tTheirs [.mk 2 0 [] [] [99] []]]]], 1) := by kernel_rfl
  have e2 : Sp.mrg3 (Sp.wordN [97]) (Sp.wordN [97]) (Sp.wordN [99]) = (Sp.wordN [99], 0) := by kernel_rfl
  have e3 : Sp.pickL [.mk 1 0 [112] [] [] [Sp.boxN Sp.tClash [Sp.boxN Sp.tOurs [.mk 2 0 [] [] [98] []], Sp.boxN Sp.tTheirs [.mk 2 0 [] [] [99] []]]]] true = Sp.wordN [99] := by kernel_rfl
  have hmg : Sp.mg [.mk 1 0 [112] [] [] [Sp.boxN Sp.tClash [Sp.boxN Sp.tOurs [.mk 2 0 [] [] [98] []], Sp.boxN Sp.tTheirs [.mk 2 0 [] [] [99] []]]]] := by
    refine ⟨?_, ?_⟩
    · simp [Sp.boxN, Sp.okL, Sp.okN, Sp.dgs.pre]
    · exact Nat.le_of_ble_eq_true (by kernel_rfl)
  have i0 : Ix 0 1 := ⟨by decide, by decide⟩
  unfold rectolaw26_clash.vc
  rw [e1, e2]
  have hp : Sp.eqNs.pre (Sp.wordN [99]) (Sp.wordN [99]) := ⟨(w 99).1, by have := Sp.mg_len (w 99); omega⟩
  refine ⟨⟨w 97, w 98, w 99⟩, ⟨w 97, w 97, w 99⟩, i0, i0, i0, ?_, hmg, hmg, ?_, hp, hR⟩
  · rw [Node.eta]
    have m1 := Sp.mg_mem hmg List.mem_cons_self
    have m2 : Sp.mgN (Sp.boxN Sp.tClash [Sp.boxN Sp.tOurs [.mk 2 0 [] [] [98] []], Sp.boxN Sp.tTheirs [.mk 2 0 [] [] [99] []]]) := Sp.mg_mem (Sp.mgN_kids m1) List.mem_cons_self
    exact m2.1
  · rw [e3]; exact hp
