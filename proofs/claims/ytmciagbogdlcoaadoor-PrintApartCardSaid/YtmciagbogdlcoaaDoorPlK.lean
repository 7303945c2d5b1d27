/- Right nodes, and equal ones: what is told, shown of the conditions. Plain theorems. -/
import Derived.Test.YtmciagbogdlcoaaDoorVcK
import Derived.Test.YtmciagbogdlcoaaDoorPlH
set_option linter.unnecessarySimpa false
set_option linter.unusedVariables false
set_option linter.unusedSectionVars false
set_option linter.unusedSimpArgs false
set_option autoImplicit false
open Go Vi

namespace Sp
mutual
theorem ndB_eq : ∀ a b : Vi.Node, ndB a b = true ↔ a = b
  | .mk k s n a t c, .mk k' s' n' a' t' c' => by
    rw [ndB]
    simp only [Bool.and_eq_true, decide_eq_true_eq, Vi.Node.mk.injEq, nlB_eq c c']
    constructor
    · rintro ⟨⟨⟨⟨⟨h1, h2⟩, h3⟩, h4⟩, h5⟩, h6⟩; exact ⟨h1, h2, h3, h5, h4, h6⟩
    · rintro ⟨h1, h2, h3, h5, h4, h6⟩; exact ⟨⟨⟨⟨⟨h1, h2⟩, h3⟩, h4⟩, h5⟩, h6⟩
theorem nlB_eq : ∀ a b : List Vi.Node, nlB a b = true ↔ a = b
  | [], [] => by simp [nlB]
  | [], _ :: _ => by simp [nlB]
  | _ :: _, [] => by simp [nlB]
  | x :: l, y :: m => by
    rw [nlB]
    simp only [Bool.and_eq_true, ndB_eq x y, nlB_eq l m, List.cons.injEq]
end
theorem eqS_iff (a b : Str) : eqS a b = decide (a = b) := rfl
end Sp
theorem rectoplain_Attrs.ok (R : Bool → Prop) (a b : List (Str × Str)) (h : Sp.eqAt.pre a b) (hR : R (Sp.eqAt a b)) : rectoplain_Attrs.vc R a b := by
  unfold Sp.eqAt.pre at h
  unfold Sp.eqAt at hR
  unfold rectoplain_Attrs.vc
  refine Lp_rule (fun v => ∃ q : Nat, v = (a, b, (a.length : Int), (q : Int), ()) ∧ q ≤ a.length ∧ q ≤ b.length ∧ a.take q = b.take q) (fun v => a.length - v.2.2.2.1.toNat) ?_ ⟨0, rfl, Nat.zero_le _, Nat.zero_le _, rfl⟩
  rintro _ K ⟨q, rfl, hq, hqb, he⟩ hK
  simp only [rectoplain_Attrs.L0, cond_dec]
  have no (hne : a ≠ b) : R false := by rwa [decide_eq_false hne] at hR
  split
  · have hq' : q < a.length := by omega
    split
    · exact no (fun e => by subst e; omega)
    · have hb' : q < b.length := by omega
      refine ⟨by rw [ix_iff]; omega, by rw [ix_iff]; omega, ?_⟩
      have hta := take_succ (d := (([], []) : Str × Str)) hq'
      have htb := take_succ (d := (([], []) : Str × Str)) hb'
      have hda : nth a (q : Int) (([], []) : Str × Str) = a[q] := nth_lt hq'
      have hdb : nth b (q : Int) (([], []) : Str × Str) = b[q] := nth_lt hb'
      rw [Sp.eqS_iff, Sp.eqS_iff]
      generalize nth a (q : Int) (([], []) : Str × Str) = x at *
      generalize nth b (q : Int) (([], []) : Str × Str) = y at *
      by_cases e : x = y
      · rw [decide_eq_true (show x.1 = y.1 by rw [e]), decide_eq_true (show x.2 = y.2 by rw [e])]
        refine ⟨by rw [rg64]; omega, hK _ ⟨q + 1, rfl, by omega, by omega, by rw [hta, htb, he, e]⟩ (by simp only; omega)⟩
      · have : (decide (x.1 = y.1) && decide (x.2 = y.2)) = false := by
          rw [Bool.and_eq_false_iff, decide_eq_false_iff_not, decide_eq_false_iff_not]
          by_cases e1 : x.1 = y.1
          · right; intro e2; exact e (Prod.ext e1 e2)
          · exact .inl e1
        rw [this]
        exact no (fun e2 => e (by subst e2; rw [hda, hdb]))
  · have : q = a.length := by omega
    subst this
    by_cases e : a = b
    · subst e
      rw [decide_eq_true rfl] at hR
      rw [decide_eq_true rfl]; exact hR
    · rw [decide_eq_false (fun hl => e (by
        have h1 : a.length = b.length := by omega
        rw [List.take_length, h1, List.take_length] at he
        exact he))]
      exact no e
theorem rectoplain_Node.ok (nn : Nat) (R : Bool → Prop) (a b : Vi.Node) (h : Sp.eqNd.pre a b ∧ Sp.mNd a b < nn + 1) (hR : R (Sp.eqNd a b)) : rectoplain_Node.vc R nn a b := by
  obtain ⟨h1, h2⟩ := h
  obtain ⟨k1, k2, k3, k4, k5⟩ := Sp.pkN_eq h1
  unfold Sp.mNd at h2
  rw [Sp.szN_eq] at h2
  unfold Sp.eqNd at hR
  unfold rectoplain_Node.vc
  have no (hne : a ≠ b) : R false := by
    cases e : Sp.ndB a b with
    | true => exact absurd ((Sp.ndB_eq a b).1 e) hne
    | false => rwa [e] at hR
  simp only [cond_dec]
  split
  · split
    · split
      · split
        · rename_i e1 e2 e3 e4
          refine ⟨by unfold Sp.eqAt.pre; have := k2.1; omega, ?_⟩
          unfold Sp.eqAt
          rw [cond_dec]
          split
          · rename_i e5
            refine ⟨⟨⟨k5, k4⟩, by unfold Sp.mNs; omega⟩, ?_⟩
            refine cast (congrArg R ?_) hR
            unfold Sp.eqNs
            cases a; cases b
            simp only [Vi.Node.kind, Vi.Node.space, Vi.Node.name, Vi.Node.text, Vi.Node.attrs, Vi.Node.kids] at e1 e2 e3 e4 e5 ⊢
            subst e1 e2 e3 e4 e5
            rw [Sp.ndB]
            simp
          · rename_i e; exact no (fun h => e (by rw [h]))
        · rename_i e; exact no (fun h => e (by rw [h]))
      · rename_i e; exact no (fun h => e (by rw [h]))
    · rename_i e; exact no (fun h => e (by rw [h]))
  · rename_i e; exact no (fun h => e (by rw [h]))
theorem rectoplain_Nodes.ok (nn : Nat) (R : Bool → Prop) (a b : List Vi.Node) (h : Sp.eqNs.pre a b ∧ Sp.mNs a b < nn + 1) (hR : R (Sp.eqNs a b)) : rectoplain_Nodes.vc R nn a b := by
  obtain ⟨⟨h1, h3⟩, h2⟩ := h
  unfold Sp.mNs at h2
  unfold Sp.eqNs at hR
  have no (hne : a ≠ b) : R false := by
    cases e : Sp.nlB a b with
    | true => exact absurd ((Sp.nlB_eq a b).1 e) hne
    | false => rwa [e] at hR
  unfold rectoplain_Nodes.vc
  refine Lp_rule (fun v => ∃ q : Nat, v = (a, b, (a.length : Int), (q : Int), ()) ∧ q ≤ a.length ∧ q ≤ b.length ∧ a.take q = b.take q) (fun v => a.length - v.2.2.2.1.toNat) ?_ ⟨0, rfl, Nat.zero_le _, Nat.zero_le _, rfl⟩
  rintro _ K ⟨q, rfl, hq, hqb, he⟩ hK
  simp only [rectoplain_Nodes.L0, cond_dec]
  split
  · have hq' : q < a.length := by omega
    split
    · exact no (fun e => by subst e; omega)
    · have hb' : q < b.length := by omega
      have hta := take_succ (d := Vi.Node.mk 0 0 [] [] [] []) hq'
      have htb := take_succ (d := Vi.Node.mk 0 0 [] [] [] []) hb'
      have hda : nth a (q : Int) (Vi.Node.mk 0 0 [] [] [] []) = a[q] := nth_lt hq'
      have hdb : nth b (q : Int) (Vi.Node.mk 0 0 [] [] [] []) = b[q] := nth_lt hb'
      have hm := Sp.nth_mem (d := Vi.Node.mk 0 0 [] [] [] []) hq'
      have hz := Sp.szL_lt hm
      have hp := Sp.pkL_mem h1 hm
      generalize nth a (q : Int) (Vi.Node.mk 0 0 [] [] [] []) = x at *
      generalize nth b (q : Int) (Vi.Node.mk 0 0 [] [] [] []) = y at *
      refine ⟨by rw [ix_iff]; omega, by rw [ix_iff]; omega, ⟨hp, by unfold Sp.mNd; omega⟩, ?_⟩
      unfold Sp.eqNd
      cases e : Sp.ndB x y with
      | true =>
        have e := (Sp.ndB_eq x y).1 e
        exact ⟨by rw [rg64]; omega, hK _ ⟨q + 1, rfl, by omega, by omega, by rw [hta, htb, he, e]⟩ (by simp only; omega)⟩
      | false =>
        exact no (fun e2 => by
          have : x = y := by subst e2; rw [hda, hdb]
          rw [(Sp.ndB_eq x y).2 this] at e; cases e)
  · have : q = a.length := by omega
    subst this
    by_cases e : a = b
    · rw [(Sp.nlB_eq a b).2 e] at hR
      rw [decide_eq_true (by rw [e])]; exact hR
    · rw [decide_eq_false (fun hl => e (by
        have h1 : a.length = b.length := by omega
        rw [List.take_length, h1, List.take_length] at he
        exact he))]
      exact no e

theorem rectoref02_Is.ok (R : Bool → Prop) (c : Int) (hR : R (Sp.isC c)) : rectoref02_Is.vc R c := by
  unfold rectoref02_Is.vc
  rw [Sp.isC_eq] at hR
  simp only [cond_dec]
  split
  · split
    · split
      · rename_i h1 h2 h3
        have e : decide (0 ≤ c ∧ c < 1114112 ∧ (c < 55296 ∨ 57343 < c)) = !decide (c ≤ 57343) := by
          rw [Bool.eq_iff_iff, Bool.not_eq_true', decide_eq_true_iff, decide_eq_false_iff_not]; omega
        rwa [e] at hR
      · rwa [decide_eq_true (by omega)] at hR
    · rwa [decide_eq_false (by omega)] at hR
  · rwa [decide_eq_false (by omega)] at hR
theorem rectoref02_low.ok (R : Int → Prop) (s : Str) (i : Int) (h : Sp.lowS.pre s i) (hR : R (Sp.lowS s i)) : rectoref02_low.vc R s i := by
  unfold Sp.lowS.pre at h
  unfold rectoref02_low.vc
  unfold Sp.lowS at hR
  have hB : (0 : Int) ≤ ((nth s i 0).toNat : Int) ∧ ((nth s i 0).toNat : Int) < 256 := by have := (nth s i 0).toNat_lt; omega
  generalize ((nth s i 0).toNat : Int) = B at *
  simp only [cond_dec]
  split
  · rename_i c; rwa [if_pos (.inl c)] at hR
  rename_i c
  have ix : Ix i s.length := by rw [ix_iff]; omega
  refine ⟨ix, ?_⟩
  split
  · rename_i c2; rwa [if_pos (.inr (.inl c2))] at hR
  rename_i c2
  refine ⟨ix, ?_⟩
  split
  · rename_i c3; rwa [if_pos (.inr (.inr c3))] at hR
  · rename_i c3
    rw [if_neg (fun e => e.elim c fun e => e.elim c2 c3)] at hR
    exact ⟨ix, by rw [rg64]; omega, hR⟩
namespace Sp
theorem b8_wrap {x : Int} (h0 : 0 ≤ x) (h1 : x < 256) : UInt8.ofNat (IntKind.u8.wrap x).toNat = b8 x := by
  obtain ⟨n, rfl⟩ : ∃ n : Nat, x = n := ⟨x.toNat, by omega⟩
  rw [wrap8 (by omega)]; rfl
end Sp
set_option maxRecDepth 20000 in
theorem rectoref02_Bytes.ok (nn : Nat) (R : List UInt8 → Prop) (c : Int) (h : Sp.any c ∧ Sp.mBy c < nn + 1) (hR : R (Sp.bytesC c)) : rectoref02_Bytes.vc R nn c := by
  have hm := h.2
  unfold Sp.mBy at hm
  unfold rectoref02_Bytes.vc
  cases hc : Sp.isC c with
  | false =>
    rw [hc] at hm
    have e : Sp.bytesC c = Sp.bytesC 65533 := by unfold Sp.bytesC; rw [hc]; rfl
    rw [e] at hR
    refine ⟨⟨trivial, ?_⟩, hR⟩
    rw [if_neg (by decide)] at hm
    omega
  | true =>
    have hb : Sp.bytesC c = Sp.encC c := by unfold Sp.bytesC; rw [hc, if_pos rfl]
    rw [hb] at hR
    rw [Sp.isC_eq] at hc
    have hc := of_decide_eq_true hc
    unfold Sp.encC at hR
    simp only [Bool.not_true, cond_false, cond_dec, dv_iff, rg64]
    have w (x : Int) (h0 : 0 ≤ x) (h1 : x < 256) := Sp.b8_wrap h0 h1
    split
    · rename_i c1
      rw [if_pos c1] at hR
      simp only [bytesOf, List.map]
      rw [w c (by omega) (by omega)]; exact hR
    rename_i c1
    rw [if_neg c1] at hR
    split
    · rename_i c2
      rw [if_pos c2] at hR
      refine ⟨by omega, by omega, by omega, by omega, ?_⟩
      simp only [bytesOf, List.map]
      rw [w _ (by omega) (by omega), w _ (by omega) (by omega)]; exact hR
    rename_i c2
    rw [if_neg c2] at hR
    split
    · rename_i c3
      rw [if_pos c3] at hR
      refine ⟨by omega, by omega, by omega, by omega, by omega, by omega, by omega, ?_⟩
      simp only [bytesOf, List.map]
      rw [w _ (by omega) (by omega), w _ (by omega) (by omega), w _ (by omega) (by omega)]; exact hR
    · rename_i c3
      rw [if_neg c3] at hR
      refine ⟨by omega, by omega, by omega, by omega, by omega, by omega, by omega, by omega, by omega, by omega, ?_⟩
      simp only [bytesOf, List.map]
      rw [w _ (by omega) (by omega), w _ (by omega) (by omega), w _ (by omega) (by omega), w _ (by omega) (by omega)]; exact hR
namespace Sp
theorem encC_len (c : Int) : 1 ≤ (encC c).length ∧ (encC c).length ≤ 4 := by
  unfold encC
  split
  · exact ⟨by simp, by simp⟩
  split
  · exact ⟨by simp, by simp⟩
  split
  · exact ⟨by simp, by simp⟩
  · exact ⟨by simp, by simp⟩
theorem bytesC_len (c : Int) : 1 ≤ (bytesC c).length ∧ (bytesC c).length ≤ 4 := encC_len _
def atR (s : Str) (i c : Int) : Int × Int × Bool :=
  if isC c = false then (65533, 1, false)
  else if (s.length : Int) - i < ((bytesC c).length : Int) ∨ sub s i (i + ((bytesC c).length : Int)) ≠ bytesC c then (65533, 1, false)
  else (c, ((bytesC c).length : Int), true)
theorem at_tail {R : Int × Int × Bool → Prop} {s : Str} {i : Int} (h0 : 0 ≤ i) (h1 : i < (s.length : Int)) (h2 : s.length ≤ 1000000) {c : Int} (hR : R (atR s i c)) :
    bif !isC c then R (65533, 1, false)
    else any c ∧ Rg .i64 ((s.length : Int) - i) ∧ bif decide ((s.length : Int) - i < ((bytesC c).length : Int)) then R (65533, 1, false)
      else Rg .i64 (i + ((bytesC c).length : Int)) ∧ Sb i (i + ((bytesC c).length : Int)) s.length ∧ bif !decide (sub s i (i + ((bytesC c).length : Int)) = bytesC c) then R (65533, 1, false) else R (c, ((bytesC c).length : Int), true) := by
  unfold atR at hR
  have hl := bytesC_len c
  cases hc : isC c with
  | false => rw [hc, if_pos rfl] at hR; exact hR
  | true =>
    rw [hc, if_neg (by decide)] at hR
    refine ⟨trivial, by rw [rg64]; omega, ?_⟩
    rw [cond_dec]
    split
    · rename_i c1; rw [if_pos (.inl c1)] at hR; exact hR
    rename_i c1
    refine ⟨by rw [rg64]; omega, by rw [sb_iff]; omega, ?_⟩
    rw [cond_ndec]
    split
    · rename_i c2
      rw [if_neg (fun e => e.elim c1 fun e => e c2)] at hR; exact hR
    · rename_i c2
      rw [if_pos (.inr c2)] at hR; exact hR
theorem low_rg (s : Str) (i : Int) : -1 ≤ lowS s i ∧ lowS s i < 64 := by
  unfold lowS
  split <;> omega
end Sp
theorem rectoref02_At.ok (R : Int × Int × Bool → Prop) (s : Str) (i : Int) (h : Sp.atG.pre s i) (hR : R (Sp.atG s i)) : rectoref02_At.vc R s i := by
  obtain ⟨h0, h1, h2⟩ := h
  have hR : R (Sp.atR s i (Sp.codeS s i)) := hR
  have l1 := Sp.low_rg s (i + 1)
  have l2 := Sp.low_rg s (i + 2)
  have l3 := Sp.low_rg s (i + 3)
  have hb := (nth s i 0).toNat_lt
  unfold rectoref02_At.vc
  refine ⟨by rw [ix_iff]; omega, by rw [rg64]; omega, by unfold Sp.lowS.pre; omega, by rw [rg64]; omega, by unfold Sp.lowS.pre; omega, by rw [rg64]; omega, by unfold Sp.lowS.pre; omega, ?_⟩
  unfold Sp.codeS at hR
  generalize Sp.lowS s (i + 1) = x at *
  generalize Sp.lowS s (i + 2) = y at *
  generalize Sp.lowS s (i + 3) = z at *
  have tl := fun (c : Int) => @Sp.at_tail R s i h0 h1 h2 c
  have bad : R (Sp.atR s i (-1)) → R (65533, 1, false) := fun h => h
  generalize ((nth s i 0).toNat : Int) = B at *
  simp only [rg64]
  rw [cond_dec]
  by_cases c1 : B < 128
  · rw [if_pos c1] at hR ⊢
    exact tl _ hR
  rw [if_neg c1] at hR ⊢
  have q4 : ∀ (X : Prop), X → X := fun _ h => h
  by_cases c2 : 192 ≤ B ∧ B < 224 ∧ 0 ≤ x
  · rw [if_pos c2] at hR
    obtain ⟨d1, d2, d3⟩ := c2
    rw [cond_dec, if_pos d1, cond_dec, if_pos d2, cond_dec, if_pos d3]
    exact ⟨by omega, by omega, by omega, tl _ hR⟩
  rw [if_neg c2] at hR
  by_cases c3 : 224 ≤ B ∧ B < 240 ∧ 0 ≤ x ∧ 0 ≤ y
  · rw [if_pos c3] at hR
    obtain ⟨d1, d2, d3, d4⟩ := c3
    rw [cond_dec, if_pos (show 192 ≤ B by omega), cond_dec, if_neg (show ¬ B < 224 by omega), cond_dec, if_pos d1, cond_dec, if_pos d2, cond_dec, if_pos d3, cond_dec, if_pos d4]
    exact ⟨by omega, by omega, by omega, by omega, by omega, tl _ hR⟩
  rw [if_neg c3] at hR
  by_cases c4 : 240 ≤ B ∧ B < 248 ∧ 0 ≤ x ∧ 0 ≤ y ∧ 0 ≤ z
  · rw [if_pos c4] at hR
    obtain ⟨d1, d2, d3, d4, d5⟩ := c4
    rw [cond_dec, if_pos (show 192 ≤ B by omega), cond_dec, if_neg (show ¬ B < 224 by omega), cond_dec, if_pos (show 224 ≤ B by omega), cond_dec, if_neg (show ¬ B < 240 by omega), cond_dec, if_pos d1, cond_dec, if_pos d2, cond_dec, if_pos d3, cond_dec, if_pos d4, cond_dec, if_pos d5]
    exact ⟨by omega, by omega, by omega, by omega, by omega, by omega, by omega, tl _ hR⟩
  rw [if_neg c4] at hR
  have hb := bad hR
  clear hR tl bad
  simp only [cond_dec]
  by_cases d1 : 192 ≤ B
  · rw [if_pos d1]
    by_cases d2 : B < 224
    · rw [if_pos d2, if_neg (show ¬ 0 ≤ x by omega), if_neg (show ¬ 224 ≤ B by omega), if_neg (show ¬ 240 ≤ B by omega)]
      exact hb
    · rw [if_neg d2, if_pos (show 224 ≤ B by omega)]
      by_cases d3 : B < 240
      · rw [if_pos d3]
        by_cases d4 : 0 ≤ x
        · rw [if_pos d4, if_neg (show ¬ 0 ≤ y by omega), if_neg (show ¬ 240 ≤ B by omega)]
          exact hb
        · rw [if_neg d4, if_neg (show ¬ 240 ≤ B by omega)]
          exact hb
      · rw [if_neg d3, if_pos (show 240 ≤ B by omega)]
        by_cases d4 : B < 248
        · rw [if_pos d4]
          by_cases d5 : 0 ≤ x
          · rw [if_pos d5]
            by_cases d6 : 0 ≤ y
            · rw [if_pos d6, if_neg (show ¬ 0 ≤ z by omega)]
              exact hb
            · rw [if_neg d6]
              exact hb
          · rw [if_neg d5]
            exact hb
        · rw [if_neg d4]
          exact hb
  · rw [if_neg d1, if_neg (show ¬ 224 ≤ B by omega), if_neg (show ¬ 240 ≤ B by omega)]
    exact hb

/- Right nodes: what is told, shown of the conditions. Plain theorems. -/

namespace Sp
theorem atG_rg (s : Str) (i : Int) : 1 ≤ (atG s i).2.1 ∧ (atG s i).2.1 ≤ 4 := by
  unfold atG
  have := bytesC_len (codeS s i)
  split
  · exact ⟨by decide, by decide⟩
  split
  · exact ⟨by decide, by decide⟩
  · simp only; omega
end Sp
theorem rectoref02_Of.ok (R : List Int × Bool → Prop) (s : Str) (h : Sp.ofS.pre s) (hR : R (Sp.ofS s)) : rectoref02_Of.vc R s := by
  unfold Sp.ofS.pre at h
  unfold rectoref02_Of.vc
  refine Lp_rule (fun v => ∃ (k : Nat) (i : Int) (L : List Int) (r : Bool), v = (s, i, false, [], r, L, ()) ∧ 0 ≤ i ∧ (s.length : Int) - i ≤ k ∧ (L.length : Int) ≤ i ∧ Sp.ofFu s k i L r = Sp.ofS s) (fun v => ((s.length : Int) - v.2.1).toNat) ?_ ⟨s.length, 0, [], true, rfl, Int.le_refl _, by omega, Int.le_refl _, rfl⟩
  rintro _ K ⟨k, i, L, r, rfl, hi, hk, hl, he⟩ hK
  simp only [rectoref02_Of.L0]
  rw [cond_dec]
  split
  · rename_i c
    obtain ⟨m, rfl⟩ : ∃ m, k = m + 1 := ⟨k - 1, by omega⟩
    rw [Sp.ofFu, if_pos c] at he
    obtain ⟨g1, g2⟩ := Sp.atG_rg s i
    have go : K (s, i + (Sp.atG s i).2.1, false, [], r && (Sp.atG s i).2.2, L ++ [(Sp.atG s i).1], ()) :=
      hK _ ⟨m, _, _, _, rfl, by omega, by omega, by rw [List.length_append]; simp only [List.length_cons, List.length_nil]; omega, he⟩ (by simp only; omega)
    refine ⟨⟨hi, c, h⟩, by rw [gr_iff]; omega, ?_⟩
    cases r with
    | true => exact ⟨by rw [rg64]; omega, go⟩
    | false => exact ⟨by rw [rg64]; omega, go⟩
  · rename_i c
    have : Sp.ofFu s k i L r = (L, r) := by
      cases k with
      | zero => rfl
      | succ m => rw [Sp.ofFu, if_neg c]
    rw [this] at he
    rw [← he] at hR; exact hR
theorem rectoref06_Good.ok (R : Bool → Prop) (s : Str) (h : Sp.ofS.pre s) (hR : R (Sp.goodS s)) : rectoref06_Good.vc R s := by
  have h' := h
  unfold Sp.ofS.pre at h'
  unfold Sp.goodS at hR
  unfold rectoref06_Good.vc
  refine Lp_rule (fun v => ∃ p : Nat, v = (s, (p : Int), ()) ∧ p ≤ s.length ∧ (s.drop p).any (fun b => b == 0 || b == 13) = s.any fun b => b == 0 || b == 13) (fun v => s.length - v.2.1.toNat) ?_ ⟨0, rfl, Nat.zero_le _, rfl⟩
  rintro _ K ⟨p, rfl, hp, he⟩ hK
  simp only [rectoref06_Good.L0, cond_dec]
  split
  · have hp' : p < s.length := by omega
    rw [drop_cons (d := (0 : UInt8)) hp', List.any_cons] at he
    generalize nth s (p : Int) 0 = b at *
    have k0 := Sp.nat_of (b := b) (k := 0) (by decide)
    have k13 := Sp.nat_of (b := b) (k := 13) (by decide)
    have ix : Ix (p : Int) s.length := by rw [ix_iff]; omega
    refine ⟨ix, ?_⟩
    split
    · rename_i c
      have := k0.1 c
      rw [← he, this] at hR; exact hR
    rename_i c
    refine ⟨ix, ?_⟩
    split
    · rename_i c2
      have := k13.1 c2
      rw [← he, this] at hR; exact hR
    · rename_i c2
      have e : (b == 0 || b == 13) = false := by
        rw [Bool.or_eq_false_iff, beq_eq_false_iff_ne, beq_eq_false_iff_ne]
        exact ⟨fun e => c (k0.2 e), fun e => c2 (k13.2 e)⟩
      rw [e, Bool.false_or] at he
      exact ⟨by rw [rg64]; omega, hK _ ⟨p + 1, rfl, by omega, he⟩ (by simp only; omega)⟩
  · have : p = s.length := by omega
    subst this
    rw [List.drop_length, List.any_nil] at he
    rw [← he] at hR
    exact ⟨h, hR⟩
theorem rectoref06_Wrong.ok (R : Int → Prop) (name : Str) (attrs : List (Str × Str)) (h : Sp.wrongT.pre name attrs) (hR : R (Sp.wrongT name attrs)) : rectoref06_Wrong.vc R name attrs := by
  obtain ⟨h1, h2, h3⟩ := h
  unfold Sp.wrongT at hR
  unfold rectoref06_Wrong.vc
  refine ⟨by unfold Sp.nameS.pre; omega, ?_⟩
  cases hn : Sp.nameS name with
  | false => rw [hn, if_pos rfl] at hR; exact hR
  | true =>
  rw [hn, if_neg (by decide)] at hR
  simp only [Bool.not_true, cond_false]
  refine Lp_rule (fun v => ∃ q : Nat, v = (attrs, attrs, (attrs.length : Int), (q : Int), ()) ∧ q ≤ attrs.length ∧ (attrs.drop q).any (fun x => !Sp.nameS x.1 || !Sp.goodS x.2) = attrs.any fun x => !Sp.nameS x.1 || !Sp.goodS x.2) (fun v => attrs.length - v.2.2.2.1.toNat) ?_ ⟨0, rfl, Nat.zero_le _, rfl⟩
  rintro _ K ⟨q, rfl, hq, he⟩ hK
  simp only [rectoref06_Wrong.L0]
  rw [cond_dec]
  split
  · have hq' : q < attrs.length := by omega
    have hm := h3 _ (Sp.nth_mem (d := (([], []) : Str × Str)) hq')
    rw [drop_cons (d := (([], []) : Str × Str)) hq', List.any_cons] at he
    generalize nth attrs (q : Int) (([], []) : Str × Str) = x at *
    refine ⟨by rw [ix_iff]; omega, by unfold Sp.nameS.pre; omega, ?_⟩
    cases e1 : Sp.nameS x.1 with
    | false =>
      rw [e1] at he
      rw [← he, if_pos (by simp)] at hR; exact hR
    | true =>
      refine ⟨by unfold Sp.ofS.pre; omega, ?_⟩
      cases e2 : Sp.goodS x.2 with
      | false =>
        rw [e1, e2] at he
        rw [← he, if_pos (by simp)] at hR; exact hR
      | true =>
        rw [e1, e2] at he
        exact ⟨by rw [rg64]; omega, hK _ ⟨q + 1, rfl, by omega, he⟩ (by simp only; omega)⟩
  · have : q = attrs.length := by omega
    subst this
    rw [List.drop_length, List.any_nil] at he
    rw [← he, if_neg (by decide)] at hR
    clear hK he hq K
    have R8 (i k : Nat) (hi : i < attrs.length) (hk : k < i) (e : (attrs.getD i ([], [])).1 = (attrs.getD k ([], [])).1) : R 8 := by
      rw [if_pos] at hR
      · exact hR
      · unfold Sp.dupB
        exact decide_eq_true ⟨i, hi, k, hk, e⟩
    refine Lp_rule (fun v => ∃ q : Nat, v = (attrs, attrs, (attrs.length : Int), (q : Int), ()) ∧ q ≤ attrs.length ∧ ∀ i, i < q → ∀ k, k < i → (attrs.getD i ([], [])).1 ≠ (attrs.getD k ([], [])).1) (fun v => attrs.length - v.2.2.2.1.toNat) ?_ ⟨0, rfl, Nat.zero_le _, fun i hi => absurd hi (Nat.not_lt_zero _)⟩
    rintro _ K ⟨q, rfl, hq, he⟩ hK
    simp only [rectoref06_Wrong.L1]
    rw [cond_dec]
    split
    · have hq' : q < attrs.length := by omega
      refine ⟨by rw [ix_iff]; omega, ?_⟩
      refine Lp_rule (fun v => ∃ k : Nat, v = (attrs, (q : Int), attrs, (attrs.length : Int), (q : Int), attrs, (attrs.length : Int), (k : Int), (nth attrs (q : Int) (([], []) : Str × Str)).1, (nth attrs (q : Int) (([], []) : Str × Str)).2, ()) ∧ k ≤ attrs.length ∧ ∀ j, j < k → j < q → (attrs.getD q ([], [])).1 ≠ (attrs.getD j ([], [])).1) (fun v => attrs.length - v.2.2.2.2.2.2.2.1.toNat) ?_ ⟨0, rfl, Nat.zero_le _, fun i hi => absurd hi (Nat.not_lt_zero _)⟩
      rintro _ K2 ⟨k, rfl, hk, hj⟩ hK2
      simp only [rectoref06_Wrong.L2]
      rw [cond_dec]
      split
      · have hk' : k < attrs.length := by omega
        refine ⟨by rw [ix_iff]; omega, ?_⟩
        rw [cond_dec]
        split
        · rename_i c
          rw [cond_dec]
          split
          · rename_i e; exact R8 q k hq' (by omega) e
          · rename_i e
            exact ⟨by rw [rg64]; omega, hK2 _ ⟨k + 1, rfl, by omega, fun j h1 h2 => by
              by_cases ej : j = k
              · subst ej; exact e
              · exact hj j (by omega) h2⟩ (by simp only; omega)⟩
        · rename_i c
          exact ⟨by rw [rg64]; omega, hK2 _ ⟨k + 1, rfl, by omega, fun j h1 h2 => hj j (by omega) h2⟩ (by simp only; omega)⟩
      · refine ⟨by rw [rg64]; omega, hK _ ⟨q + 1, rfl, by omega, fun i hi k' hk' => ?_⟩ (by simp only; omega)⟩
        by_cases ei : i = q
        · subst ei; exact hj k' (by omega) hk'
        · exact he i (by omega) k' hk'
    · have : q = attrs.length := by omega
      subst this
      rw [if_neg] at hR
      · rw [cond_dec]
        split
        · rename_i c; rw [if_pos c] at hR; exact hR
        · rename_i c; rw [if_neg c] at hR; exact hR
      · unfold Sp.dupB
        intro e
        obtain ⟨i, hi, k, hk, e⟩ := of_decide_eq_true e
        exact he i hi k hk e
theorem rectoref08_leaf.ok (R : Bool → Prop) (n : Vi.Node) (hR : R (Sp.leafN n)) : rectoref08_leaf.vc R n := by
  unfold rectoref08_leaf.vc
  unfold Sp.leafN at hR
  cases h : decide (n.kind = 2) <;> (rw [h] at hR; exact hR)
namespace Sp
mutual
theorem dpN_rg : ∀ n : Vi.Node, 0 ≤ dpN n ∧ dpN n ≤ szN n
  | .mk k _ _ _ _ c => by
    have := dpL_rg c
    rw [dpN, szN]
    split <;> omega
theorem dpL_rg : ∀ l : List Vi.Node, 0 ≤ dpL l ∧ dpL l ≤ szL l
  | [] => by rw [dpL, szL]; exact ⟨Int.le_refl _, Int.le_refl _⟩
  | n :: l => by
    have := dpN_rg n
    have := dpL_rg l
    rw [dpL, szL]
    split <;> omega
end
theorem dpN_eq (n : Vi.Node) : dpN n = if 0 < dpL n.kids ∨ ¬ (n.kind = 2 ∨ n.kind = 3) then dpL n.kids + 1 else dpL n.kids := by cases n; rw [dpN]; rfl
theorem leaf_iff (n : Vi.Node) : leafN n = true ↔ (n.kind = 2 ∨ n.kind = 3) := by unfold leafN; simp
end Sp
theorem rectoref08_Depth.ok (nn : Nat) (R : Int → Prop) (l : List Vi.Node) (h : Sp.prOk l ∧ Sp.mCt l < nn + 1) (hR : R (Sp.dpL l)) : rectoref08_Depth.vc R nn l := by
  obtain ⟨⟨h1, h2, h3⟩, h5⟩ := h
  unfold Sp.mCt at h5
  have hr0 := Sp.dpL_rg l
  unfold rectoref08_Depth.vc
  refine Lp_rule (fun v => ∃ (q : Nat) (m : Int), v = (m, l, (l.length : Int), (q : Int), ()) ∧ q ≤ l.length ∧ 0 ≤ m ∧ (if m < Sp.dpL (l.drop q) then Sp.dpL (l.drop q) else m) = Sp.dpL l) (fun v => l.length - v.2.2.2.1.toNat) ?_ ⟨0, 0, rfl, Nat.zero_le _, Int.le_refl _, by rw [List.drop_zero]; split <;> omega⟩
  rintro _ K ⟨q, m, rfl, hq, hm0, he⟩ hK
  simp only [rectoref08_Depth.L0]
  rw [cond_dec]
  split
  · have hq' : q < l.length := by omega
    have hm := Sp.nth_mem (d := Vi.Node.mk 0 0 [] [] [] []) hq'
    rw [drop_cons (d := Vi.Node.mk 0 0 [] [] [] []) hq', Sp.dpL] at he
    have hz := Sp.szL_lt hm
    have hp := Sp.pkL_mem h2 hm
    simp only [Sp.node_eta]
    generalize nth l (q : Int) (Vi.Node.mk 0 0 [] [] [] []) = n at *
    obtain ⟨k1, k2, k3, k4, k5⟩ := Sp.pkN_eq hp
    have hd := Sp.dpN_eq n
    have hrg := Sp.dpL_rg n.kids
    rw [Sp.szN_eq] at hz
    refine ⟨by rw [ix_iff]; omega, ⟨⟨k4, k5, by omega⟩, by unfold Sp.mCt; omega⟩, ?_⟩
    have go (z : Int) (hz : Sp.dpN n = z) : (m < z → Rg .i64 ((q : Int) + 1) ∧ K (z, l, (l.length : Int), (q : Int) + 1, ())) ∧ (¬ m < z → Rg .i64 ((q : Int) + 1) ∧ K (m, l, (l.length : Int), (q : Int) + 1, ())) := by
      subst hz
      refine ⟨fun c => ⟨by rw [rg64]; omega, hK _ ⟨q + 1, _, rfl, by omega, by omega, ?_⟩ (by simp only; omega)⟩, fun c => ⟨by rw [rg64]; omega, hK _ ⟨q + 1, _, rfl, by omega, by omega, ?_⟩ (by simp only; omega)⟩⟩
      · rw [← he]; split <;> split <;> omega
      · rw [← he]; split <;> (try split) <;> omega
    have fin (z : Int) (hz : Sp.dpN n = z) : bif decide (m < z) then Rg .i64 ((q : Int) + 1) ∧ K (z, l, (l.length : Int), (q : Int) + 1, ()) else Rg .i64 ((q : Int) + 1) ∧ K (m, l, (l.length : Int), (q : Int) + 1, ()) := by
      rw [cond_dec]
      split
      · rename_i c; exact (go z hz).1 c
      · rename_i c; exact (go z hz).2 c
    have hlf := Sp.leaf_iff n
    rw [cond_dec]
    split
    · rename_i c
      rw [if_pos (.inl c)] at hd
      exact ⟨by rw [rg64]; omega, fin _ hd⟩
    rename_i c
    cases hv : Sp.leafN n with
    | false =>
      rw [if_pos (.inr (fun e => by rw [hlf.2 e] at hv; cases hv))] at hd
      exact ⟨by rw [rg64]; omega, fin _ hd⟩
    | true =>
      rw [if_neg (fun e => e.elim c (fun e => e (hlf.1 hv)))] at hd
      exact fin _ hd
  · have : q = l.length := by omega
    subst this
    rw [List.drop_length, Sp.dpL] at he
    refine cast (congrArg R ?_) hR
    rw [← he]
    split
    · omega
    · rfl

/- Right nodes; unlike nodes have unlike texts. Plain theorems. -/

namespace Sp
theorem riN_eq (n : Vi.Node) : riN n = if n.kind = 2 ∨ n.kind = 3 then decide (n.space = 0) && decide (n.name = []) && decide (n.attrs = []) && decide (n.kids = []) && goodS n.text && (decide (n.kind = 3) || !decide (n.text = []))
    else decide (n.kind = 1) && decide (0 ≤ n.space) && decide (n.space ≤ 2) && decide (n.text = []) && decide (wrongT n.name n.attrs = 0) && riL false n.kids := by cases n; rw [riN]; rfl
theorem smN_eq (sp : Int) (n : Vi.Node) : smN sp n = (!(decide (n.kind = 3) || (decide (n.kind = 1) && (!decide (n.space = sp) || decide (groupN n.name = 15) || decide (groupN n.name = 16) || voidN n.name))) && smL sp n.kids) := by cases n; rw [smN]; rfl
theorem len0 {α : Type} {l : List α} : ¬ (0 < (l.length : Int)) → l = [] := fun h => List.eq_nil_of_length_eq_zero (by omega)
end Sp
/-- What is asked of a node behind the first question. -/
theorem right_rest (R : Bool → Prop) (nn : Nat) (n : Vi.Node) (G : Prop) (hp : Sp.pkN n) (hz : Sp.szL n.kids + 1 ≤ nn) (hz2 : Sp.szL n.kids ≤ 1000000) (hF : Sp.riN n = false → R false) (hG : Sp.riN n = true → G) :
    bif Sp.leafN n then
      bif !decide (n.space = 0) then R false else bif !decide (n.name = []) then R false else bif decide (0 < (n.attrs.length : Int)) then R false else bif decide (0 < (n.kids.length : Int)) then R false
      else Sp.ofS.pre n.text ∧ bif !Sp.goodS n.text then R false else bif decide (n.kind = 2) then bif decide (n.text = []) then R false else G else G
    else bif !decide (n.kind = 1) then R false else bif decide (n.space < 0) then R false else bif decide (2 < n.space) then R false else bif !decide (n.text = []) then R false
      else Sp.wrongT.pre n.name n.attrs ∧ bif !decide (Sp.wrongT n.name n.attrs = 0) then R false else (Sp.prOk n.kids ∧ Sp.mCt n.kids < nn) ∧ bif !Sp.rightP n.kids then R false else G := by
  obtain ⟨k1, k2, k3, k4, k5⟩ := Sp.pkN_eq hp
  have hlf := Sp.leaf_iff n
  rw [Sp.riN_eq] at hF hG
  cases hv : Sp.leafN n with
  | true =>
    have hk := hlf.1 hv
    rw [if_pos hk] at hF hG
    simp only [cond_true, cond_ndec, cond_dec]
    split
    · rename_i c1
      rw [decide_eq_true c1] at hF hG
      split
      · rename_i c2
        rw [decide_eq_true c2] at hF hG
        split
        · rename_i c3; exact hF (by rw [decide_eq_false (fun e => by rw [e] at c3; simp at c3)]; rfl)
        rename_i c3
        rw [decide_eq_true (Sp.len0 c3)] at hF hG
        split
        · rename_i c4; exact hF (by rw [decide_eq_false (fun e => by rw [e] at c4; simp at c4)]; rfl)
        rename_i c4
        rw [decide_eq_true (Sp.len0 c4)] at hF hG
        refine ⟨by unfold Sp.ofS.pre; omega, ?_⟩
        cases hg : Sp.goodS n.text with
        | false => rw [hg] at hF; exact hF rfl
        | true =>
          rw [hg] at hF hG
          simp only [Bool.not_true, cond_false]
          split
          · rename_i c5
            rw [decide_eq_false (show ¬ n.kind = 3 by omega)] at hF hG
            split
            · rename_i c6; exact hF (by rw [decide_eq_true c6]; rfl)
            · rename_i c6; exact hG (by rw [decide_eq_false c6]; rfl)
          · rename_i c5
            exact hG (by rw [decide_eq_true (show n.kind = 3 by omega)]; rfl)
      · rename_i c2; exact hF (by rw [decide_eq_false c2]; rfl)
    · rename_i c1; exact hF (by rw [decide_eq_false c1]; rfl)
  | false =>
    have hk : ¬ (n.kind = 2 ∨ n.kind = 3) := fun e => by rw [hlf.2 e] at hv; cases hv
    rw [if_neg hk] at hF hG
    simp only [cond_false, cond_ndec, cond_dec]
    split
    · rename_i c1
      rw [decide_eq_true c1] at hF hG
      split
      · rename_i c2; exact hF (by rw [decide_eq_false (by omega)]; rfl)
      rename_i c2
      rw [decide_eq_true (show 0 ≤ n.space by omega)] at hF hG
      split
      · rename_i c3; exact hF (by rw [decide_eq_false (by omega)]; rfl)
      rename_i c3
      rw [decide_eq_true (show n.space ≤ 2 by omega)] at hF hG
      split
      · rename_i c4
        rw [decide_eq_true c4] at hF hG
        refine ⟨⟨by omega, k2⟩, ?_⟩
        split
        · rename_i c5
          rw [decide_eq_true c5] at hF hG
          refine ⟨⟨⟨k4, k5, hz2⟩, by unfold Sp.mCt; omega⟩, ?_⟩
          unfold Sp.rightP
          cases hr : Sp.riL false n.kids with
          | true => rw [hr] at hG; exact hG rfl
          | false => rw [hr] at hF; exact hF rfl
        · rename_i c5; exact hF (by rw [decide_eq_false c5]; rfl)
      · rename_i c4; exact hF (by rw [decide_eq_false c4]; rfl)
    · rename_i c1; exact hF (by rw [decide_eq_false c1]; rfl)
theorem rectoref08_Right.ok (nn : Nat) (R : Bool → Prop) (l : List Vi.Node) (h : Sp.prOk l ∧ Sp.mCt l < nn + 1) (hR : R (Sp.rightP l)) : rectoref08_Right.vc R nn l := by
  obtain ⟨⟨h1, h2, h3⟩, h5⟩ := h
  unfold Sp.mCt at h5
  unfold Sp.rightP at hR
  unfold rectoref08_Right.vc
  refine Lp_rule (fun v => ∃ (q : Nat), v = (l, l, (l.length : Int), (q : Int), ()) ∧ q ≤ l.length ∧ Sp.riL (decide (0 < q ∧ (nth l ((q : Int) - 1) (Vi.Node.mk 0 0 [] [] [] [])).kind = 2)) (l.drop q) = Sp.riL false l) (fun v => l.length - v.2.2.2.1.toNat) ?_ ⟨0, rfl, Nat.zero_le _, by rw [decide_eq_false (by omega)]; rfl⟩
  rintro _ K ⟨q, rfl, hq, he⟩ hK
  simp only [rectoref08_Right.L0]
  rw [cond_dec]
  split
  · have hq' : q < l.length := by omega
    have hm := Sp.nth_mem (d := Vi.Node.mk 0 0 [] [] [] []) hq'
    rw [drop_cons (d := Vi.Node.mk 0 0 [] [] [] []) hq', Sp.riL] at he
    have hz := Sp.szL_lt hm
    have hp := Sp.pkL_mem h2 hm
    have hnx : nth l (((q + 1 : Nat) : Int) - 1) (Vi.Node.mk 0 0 [] [] [] []) = nth l (q : Int) (Vi.Node.mk 0 0 [] [] [] []) := by rw [show ((q + 1 : Nat) : Int) - 1 = (q : Int) by omega]
    simp only [Sp.node_eta]
    have hK' (c : Sp.riL (decide ((nth l (q : Int) (Vi.Node.mk 0 0 [] [] [] [])).kind = 2)) (l.drop (q + 1)) = Sp.riL false l) : Rg .i64 ((q : Int) + 1) ∧ K (l, l, (l.length : Int), (q : Int) + 1, ()) := by
      refine ⟨by rw [rg64]; omega, hK _ ⟨q + 1, rfl, by omega, ?_⟩ (by simp only; omega)⟩
      rw [hnx]
      rw [← c]
      congr 1
      simp
    clear hK hnx
    generalize nth l (q : Int) (Vi.Node.mk 0 0 [] [] [] []) = n at *
    generalize nth l ((q : Int) - 1) (Vi.Node.mk 0 0 [] [] [] []) = m at *
    rw [Sp.szN_eq] at hz
    have rest (e : (!(decide (n.kind = 2) && decide (0 < q ∧ m.kind = 2))) = true) := right_rest R nn n (Rg .i64 ((q : Int) + 1) ∧ K (l, l, (l.length : Int), (q : Int) + 1, ())) hp (by omega) (by omega)
      (fun e2 => by rw [e, e2] at he; rw [← he] at hR; exact hR) (fun e2 => hK' (by rw [e, e2] at he; exact he))
    refine ⟨by rw [ix_iff]; omega, ?_⟩
    rw [cond_dec]
    split
    · rename_i c
      rw [cond_dec]
      split
      · rename_i c2
        refine ⟨by rw [rg64]; omega, by rw [ix_iff]; omega, ?_⟩
        rw [cond_dec]
        split
        · rename_i c3
          rw [decide_eq_true c, decide_eq_true (show 0 < q ∧ m.kind = 2 from ⟨by omega, c3⟩)] at he
          rw [← he] at hR; exact hR
        · rename_i c3
          exact rest (by rw [decide_eq_false (show ¬ (0 < q ∧ m.kind = 2) from fun e => c3 e.2), Bool.and_false]; rfl)
      · rename_i c2
        exact rest (by rw [decide_eq_false (show ¬ (0 < q ∧ m.kind = 2) from fun e => c2 (by omega)), Bool.and_false]; rfl)
    · rename_i c
      exact rest (by rw [decide_eq_false c]; rfl)
  · have : q = l.length := by omega
    subst this
    rw [List.drop_length, Sp.riL] at he
    rw [← he] at hR; exact hR
theorem rectoref08_Check.ok (R : Int → Prop) (l : List Vi.Node) (h : Sp.prOk l) (hR : R (Sp.chkP l)) : rectoref08_Check.vc R l := by
  unfold rectoref08_Check.vc
  unfold Sp.chkP at hR
  refine ⟨h, ?_⟩
  rw [cond_dec]
  split
  · rename_i c; rw [if_pos (.inl c)] at hR; exact hR
  rename_i c
  refine ⟨h, ?_⟩
  rw [cond_dec]
  split
  · rename_i c2; rw [if_pos (.inr c2)] at hR; exact hR
  rename_i c2
  rw [if_neg (fun e => e.elim c c2)] at hR
  refine ⟨h, ?_⟩
  cases hr : Sp.rightP l with
  | true => rw [hr, if_neg (by decide)] at hR; exact hR
  | false => rw [hr, if_pos rfl] at hR; exact hR
theorem rectolaw13_simple.ok (nn : Nat) (R : Bool → Prop) (l : List Vi.Node) (space : Int) (h : Sp.simP.pre l space ∧ Sp.mSi l space < nn + 1) (hR : R (Sp.simP l space)) : rectolaw13_simple.vc R nn l space := by
  obtain ⟨⟨h1, h2, h3⟩, h5⟩ := h
  unfold Sp.mSi at h5
  unfold Sp.simP at hR
  unfold rectolaw13_simple.vc
  refine Lp_rule (fun v => ∃ (q : Nat), v = (space, l, (l.length : Int), (q : Int), ()) ∧ q ≤ l.length ∧ Sp.smL space (l.drop q) = Sp.smL space l) (fun v => l.length - v.2.2.2.1.toNat) ?_ ⟨0, rfl, Nat.zero_le _, rfl⟩
  rintro _ K ⟨q, rfl, hq, he⟩ hK
  simp only [rectolaw13_simple.L0]
  rw [cond_dec]
  split
  · have hq' : q < l.length := by omega
    have hm := Sp.nth_mem (d := Vi.Node.mk 0 0 [] [] [] []) hq'
    rw [drop_cons (d := Vi.Node.mk 0 0 [] [] [] []) hq', Sp.smL] at he
    have hz := Sp.szL_lt hm
    have hp := Sp.pkL_mem h2 hm
    generalize nth l (q : Int) (Vi.Node.mk 0 0 [] [] [] []) = n at *
    obtain ⟨k1, k2, k3, k4, k5⟩ := Sp.pkN_eq hp
    rw [Sp.szN_eq] at hz
    have hn := Sp.smN_eq space n
    have bad (e : Sp.smN space n = false) : R false := by rw [e] at he; rw [← he] at hR; exact hR
    have rest (e : (decide (n.kind = 3) || (decide (n.kind = 1) && (!decide (n.space = space) || decide (Sp.groupN n.name = 15) || decide (Sp.groupN n.name = 16) || Sp.voidN n.name))) = false) :
        (Sp.simP.pre n.kids space ∧ Sp.mSi n.kids space < nn) ∧ bif !Sp.simP n.kids space then R false else Rg .i64 ((q : Int) + 1) ∧ K (space, l, (l.length : Int), (q : Int) + 1, ()) := by
      rw [e] at hn
      refine ⟨⟨⟨k4, k5, by omega⟩, by unfold Sp.mSi; omega⟩, ?_⟩
      unfold Sp.simP
      cases hr : Sp.smL space n.kids with
      | false => rw [hr] at hn; exact bad hn
      | true =>
        rw [hr] at hn
        rw [hn] at he
        exact ⟨by rw [rg64]; omega, hK _ ⟨q + 1, rfl, by omega, he⟩ (by simp only; omega)⟩
    refine ⟨by rw [ix_iff]; omega, ?_⟩
    rw [cond_dec]
    split
    · rename_i c; exact bad (by rw [hn, decide_eq_true c]; rfl)
    rename_i c
    rw [decide_eq_false c] at hn rest
    rw [cond_dec]
    split
    · rename_i c2
      rw [decide_eq_true c2] at hn rest
      rw [cond_ndec]
      split
      · rename_i c3
        rw [decide_eq_true c3] at hn rest
        rw [cond_dec]
        split
        · rename_i c4; exact bad (by rw [hn, decide_eq_true c4]; rfl)
        rename_i c4
        rw [decide_eq_false c4] at hn rest
        rw [cond_dec]
        split
        · rename_i c5; exact bad (by rw [hn, decide_eq_true c5]; rfl)
        rename_i c5
        rw [decide_eq_false c5] at hn rest
        cases hv : Sp.voidN n.name with
        | true => rw [hv] at hn; exact bad hn
        | false => rw [hv] at rest; exact rest rfl
      · rename_i c3; exact bad (by rw [hn, decide_eq_false c3]; rfl)
    · rename_i c2; exact rest (by rw [decide_eq_false c2]; rfl)
  · have : q = l.length := by omega
    subst this
    rw [List.drop_length, Sp.smL] at he
    rw [← he] at hR; exact hR

/- Unlike nodes have unlike texts. Plain theorems. -/

namespace Sp
/-- References read back. -/
def dec : Nat → Str → Str
  | 0, _ => []
  | _ + 1, [] => []
  | k + 1, b :: t =>
    if b = 38 then
      (if t.take 4 = [97, 109, 112, 59] then 38 :: dec k (t.drop 4) else if t.take 3 = [108, 116, 59] then 60 :: dec k (t.drop 3) else if t.take 3 = [103, 116, 59] then 62 :: dec k (t.drop 3)
      else if t.take 5 = [113, 117, 111, 116, 59] then 34 :: dec k (t.drop 5) else if t.take 5 = [110, 98, 115, 112, 59] then 194 :: 160 :: dec k (t.drop 5) else b :: dec k t)
    else b :: dec k t
theorem dec_e1 (v : Bool) (b : UInt8) (r : Str) (k : Nat) (h : (e1 v b ++ r).length ≤ k) (ih : ∀ j, r.length ≤ j → ∃ q, dec j r = q ∧ q = dec r.length r) : dec k (e1 v b ++ r) = b :: dec r.length r := by
  have ih' : ∀ j, r.length ≤ j → dec j r = dec r.length r := fun j hj => by obtain ⟨q, h1, h2⟩ := ih j hj; rw [h1, h2]
  clear ih
  unfold e1 at *
  by_cases c1 : b = 38
  · rw [if_pos c1] at *
    subst c1
    simp only [List.length_append, List.length_cons, List.length_nil] at h
    obtain ⟨m, rfl⟩ : ∃ m, k = m + 1 := ⟨k - 1, by omega⟩
    show dec (m + 1) (38 :: ([97, 109, 112, 59] ++ r)) = _
    rw [dec, if_pos rfl, if_pos (by rfl)]
    show _ :: dec m r = _
    rw [ih' m (by omega)]
  rw [if_neg c1] at *
  by_cases c2 : b = 60
  · rw [if_pos c2] at *
    subst c2
    simp only [List.length_append, List.length_cons, List.length_nil] at h
    obtain ⟨m, rfl⟩ : ∃ m, k = m + 1 := ⟨k - 1, by omega⟩
    show dec (m + 1) (38 :: ([108, 116, 59] ++ r)) = _
    rw [dec, if_pos rfl, if_neg (by simp), if_pos (by rfl)]
    show _ :: dec m r = _
    rw [ih' m (by omega)]
  rw [if_neg c2] at *
  by_cases c3 : b = 62
  · rw [if_pos c3] at *
    subst c3
    simp only [List.length_append, List.length_cons, List.length_nil] at h
    obtain ⟨m, rfl⟩ : ∃ m, k = m + 1 := ⟨k - 1, by omega⟩
    show dec (m + 1) (38 :: ([103, 116, 59] ++ r)) = _
    rw [dec, if_pos rfl, if_neg (by simp), if_neg (by simp), if_pos (by rfl)]
    show _ :: dec m r = _
    rw [ih' m (by omega)]
  rw [if_neg c3] at *
  by_cases c4 : b = 34 ∧ v = true
  · rw [if_pos c4] at *
    obtain ⟨rfl, _⟩ := c4
    simp only [List.length_append, List.length_cons, List.length_nil] at h
    obtain ⟨m, rfl⟩ : ∃ m, k = m + 1 := ⟨k - 1, by omega⟩
    show dec (m + 1) (38 :: ([113, 117, 111, 116, 59] ++ r)) = _
    rw [dec, if_pos rfl, if_neg (by simp), if_neg (by simp), if_neg (by simp), if_pos (by rfl)]
    show _ :: dec m r = _
    rw [ih' m (by omega)]
  rw [if_neg c4] at *
  simp only [List.length_append, List.length_cons, List.length_nil] at h
  obtain ⟨m, rfl⟩ : ∃ m, k = m + 1 := ⟨k - 1, by omega⟩
  show dec (m + 1) (b :: r) = _
  rw [dec, if_neg c1, ih' m (by omega)]
theorem dec_esc (v : Bool) : ∀ (s : Str) (k : Nat), (esc v s).length ≤ k → dec k (esc v s) = s
  | [], k, _ => by cases k <;> rfl
  | [b], k, h => by
    rw [esc] at *
    have := dec_e1 v b [] k (by rw [List.append_nil]; exact h) (fun j _ => ⟨_, rfl, by cases j <;> rfl⟩)
    rw [List.append_nil] at this
    rw [this]; rfl
  | b :: c :: t, k, h => by
    rw [esc] at *
    by_cases e : b = 194 ∧ c = 160
    · rw [if_pos e] at *
      obtain ⟨rfl, rfl⟩ := e
      simp only [List.length_append, List.length_cons, List.length_nil] at h
      obtain ⟨m, rfl⟩ : ∃ m, k = m + 1 := ⟨k - 1, by omega⟩
      show dec (m + 1) (38 :: ([110, 98, 115, 112, 59] ++ esc v t)) = _
      rw [dec, if_pos rfl, if_neg (by simp), if_neg (by simp), if_neg (by simp), if_neg (by simp), if_pos (by rfl)]
      show 194 :: 160 :: dec m (esc v t) = _
      rw [dec_esc v t m (by omega)]
    · rw [if_neg e] at *
      have h1 := dec_esc v (c :: t)
      rw [dec_e1 v b _ k h (fun j hj => ⟨_, h1 j hj, (h1 _ (Nat.le_refl _)).symm⟩), h1 _ (Nat.le_refl _)]
theorem esc_inj {v : Bool} {s t : Str} (h : esc v s = esc v t) : s = t := by
  have h1 := dec_esc v s _ (Nat.le_refl _)
  have h2 := dec_esc v t _ (Nat.le_refl _)
  rw [← h1, ← h2, h]
theorem e1_no (v : Bool) (b : UInt8) : (∀ x, x ∈ e1 v b → x ≠ 60) ∧ (v = true → ∀ x, x ∈ e1 v b → x ≠ 34) := by
  unfold e1
  split
  · exact ⟨by decide, fun _ => by decide⟩
  split
  · exact ⟨by decide, fun _ => by decide⟩
  split
  · exact ⟨by decide, fun _ => by decide⟩
  split
  · exact ⟨by decide, fun _ => by decide⟩
  · rename_i c1 c2 c3 c4
    refine ⟨fun x hx => ?_, fun hv x hx => ?_⟩
    · rw [List.mem_singleton] at hx; subst hx; exact c2
    · rw [List.mem_singleton] at hx; subst hx; exact fun e => c4 ⟨e, hv⟩
theorem esc_no (v : Bool) : ∀ s : Str, (∀ x, x ∈ esc v s → x ≠ 60) ∧ (v = true → ∀ x, x ∈ esc v s → x ≠ 34)
  | [] => ⟨fun x hx => (by cases hx), fun _ x hx => (by cases hx)⟩
  | [b] => e1_no v b
  | b :: c :: t => by
    have h1 := esc_no v t
    have h2 := esc_no v (c :: t)
    have h3 := e1_no v b
    rw [esc]
    split
    · refine ⟨fun x hx => ?_, fun hv x hx => ?_⟩
      · rcases List.mem_append.1 hx with hx | hx
        · exact (by decide : ∀ x, x ∈ ([38, 110, 98, 115, 112, 59] : Str) → x ≠ 60) x hx
        · exact h1.1 x hx
      · rcases List.mem_append.1 hx with hx | hx
        · exact (by decide : ∀ x, x ∈ ([38, 110, 98, 115, 112, 59] : Str) → x ≠ 34) x hx
        · exact h1.2 hv x hx
    · refine ⟨fun x hx => ?_, fun hv x hx => ?_⟩
      · rcases List.mem_append.1 hx with hx | hx
        · exact h3.1 x hx
        · exact h2.1 x hx
      · rcases List.mem_append.1 hx with hx | hx
        · exact h3.2 hv x hx
        · exact h2.2 hv x hx
theorem e1_ne (v : Bool) (b : UInt8) : e1 v b ≠ [] := by unfold e1; (repeat' split) <;> simp
theorem esc_ne (v : Bool) {s : Str} (h : s ≠ []) : esc v s ≠ [] := by
  match s, h with
  | [b], _ => exact e1_ne v b
  | b :: c :: t, _ =>
    rw [esc]
    split
    · simp
    · intro e
      exact e1_ne v b (List.append_eq_nil_iff.1 e).1
/-- Cut behind what is of a sort. -/
theorem cut_inj {p : UInt8 → Prop} : ∀ {u w y z : Str}, (∀ x, x ∈ u → p x) → (∀ x, x ∈ w → p x) → (∀ b r, y = b :: r → ¬ p b) → (∀ b r, z = b :: r → ¬ p b) → u ++ y = w ++ z → u = w ∧ y = z
  | [], [], _, _, _, _, _, _, h => ⟨rfl, h⟩
  | [], b :: w, y, z, _, hw, hy, _, h => absurd (hw b (List.mem_cons_self ..)) (hy b (w ++ z) h)
  | b :: u, [], y, z, hu, _, _, hz, h => absurd (hu b (List.mem_cons_self ..)) (hz b (u ++ y) h.symm)
  | b :: u, c :: w, y, z, hu, hw, hy, hz, h => by
    simp only [List.cons_append, List.cons.injEq] at h
    obtain ⟨h1, h2⟩ := cut_inj (fun x hx => hu x (List.mem_cons_of_mem _ hx)) (fun x hx => hw x (List.mem_cons_of_mem _ hx)) hy hz h.2
    exact ⟨by rw [h.1, h1], h2⟩
def nmB (b : UInt8) : Prop := nameB b.toNat = true
theorem name_all {s : Str} (h : nameS s = true) : (∀ x, x ∈ s → nmB x) ∧ ∃ c t, s = c :: t ∧ smallB c.toNat = true := by
  unfold nameS at h
  split at h
  · cases h
  · rename_i c t
    simp only [Bool.and_eq_true] at h
    refine ⟨fun x hx => ?_, c, t, rfl, h.1.2⟩
    have ha := h.2
    unfold allN at ha
    exact List.all_eq_true.1 ha x hx
theorem attrs_inj : ∀ {a b : List (Str × Str)} {y z : Str}, (∀ x, x ∈ a → nameS x.1 = true) → (∀ x, x ∈ b → nameS x.1 = true) → a.flatMap attrT ++ 62 :: y = b.flatMap attrT ++ 62 :: z → a = b ∧ y = z
  | [], [], _, _, _, _, h => by simp at h; exact ⟨rfl, h⟩
  | [], w :: b, _, _, _, _, h => by simp [attrT] at h
  | x :: a, [], _, _, _, _, h => by simp [attrT] at h
  | x :: a, w :: b, y, z, ha, hb, h => by
    rw [List.flatMap_cons, List.flatMap_cons] at h
    have h : ([32] ++ x.1 ++ [61, 34] ++ esc true x.2 ++ [34]) ++ a.flatMap attrT ++ 62 :: y = ([32] ++ w.1 ++ [61, 34] ++ esc true w.2 ++ [34]) ++ b.flatMap attrT ++ 62 :: z := h
    simp only [List.append_assoc, List.cons_append, List.nil_append, List.cons.injEq, true_and] at h
    obtain ⟨e1', h⟩ := cut_inj (p := nmB) (name_all (ha x (List.mem_cons_self ..))).1 (name_all (hb w (List.mem_cons_self ..))).1
      (fun b r e => by simp only [List.cons.injEq] at e; rw [← e.1]; unfold nmB; decide) (fun b r e => by simp only [List.cons.injEq] at e; rw [← e.1]; unfold nmB; decide) h
    simp only [List.cons.injEq, true_and] at h
    obtain ⟨e2', h⟩ := cut_inj (p := fun b => b ≠ 34) ((esc_no true x.2).2 rfl) ((esc_no true w.2).2 rfl)
      (fun b r e => by simp only [List.cons.injEq] at e; rw [← e.1]; decide) (fun b r e => by simp only [List.cons.injEq] at e; rw [← e.1]; decide) h
    simp only [List.cons.injEq, true_and] at h
    obtain ⟨e3, e4⟩ := attrs_inj (fun q hq => ha q (List.mem_cons_of_mem _ hq)) (fun q hq => hb q (List.mem_cons_of_mem _ hq)) h
    exact ⟨by rw [e3, show x = w from Prod.ext e1' (esc_inj e2')], e4⟩
theorem open_inj {n m : Str} {a b : List (Str × Str)} {y z : Str} (hn : nameS n = true) (hm : nameS m = true) (ha : ∀ x, x ∈ a → nameS x.1 = true) (hb : ∀ x, x ∈ b → nameS x.1 = true)
    (h : openT n a ++ y = openT m b ++ z) : n = m ∧ a = b ∧ y = z := by
  unfold openT at h
  simp only [List.append_assoc, List.cons_append, List.nil_append, List.cons.injEq, true_and] at h
  have hd : ∀ (a : List (Str × Str)) (y : Str) b r, a.flatMap attrT ++ 62 :: y = b :: r → ¬ nmB b := fun a y b r e => by
    cases a with
    | nil => simp at e; rw [← e.1]; unfold nmB; decide
    | cons x a => simp [attrT] at e; rw [← e.1]; unfold nmB; decide
  obtain ⟨e1', h⟩ := cut_inj (p := nmB) (name_all hn).1 (name_all hm).1 (hd a y) (hd b z) h
  obtain ⟨e2', e3⟩ := attrs_inj ha hb h
  exact ⟨e1', e2', e3⟩
/-- What stands behind nodes. -/
def endS (x : Str) : Prop := x = [] ∨ ∃ r, x = 60 :: 47 :: r
/-- A right text; a right element, of a space. -/
def isText (n : Vi.Node) : Prop := n.kind = 2 ∧ n.space = 0 ∧ n.name = [] ∧ n.attrs = [] ∧ n.kids = [] ∧ n.text ≠ []
def isEl (sp : Int) (n : Vi.Node) : Prop := n.kind = 1 ∧ n.space = sp ∧ n.text = [] ∧ nameS n.name = true ∧ (∀ x, x ∈ n.attrs → nameS x.1 = true) ∧ voidN n.name = false ∧ rawNd n = false ∧ riL false n.kids = true ∧ smL sp n.kids = true
theorem node_sort {sp : Int} {n : Vi.Node} (h1 : riN n = true) (h2 : smN sp n = true) : isText n ∨ isEl sp n := by
  rw [riN_eq] at h1
  rw [smN_eq] at h2
  simp only [Bool.and_eq_true, Bool.not_eq_true', Bool.or_eq_false_iff, decide_eq_false_iff_not, Bool.and_eq_false_iff, Bool.not_eq_false', decide_eq_true_eq] at h2
  obtain ⟨⟨h3, h4⟩, h5⟩ := h2
  split at h1
  · rename_i c
    simp only [Bool.and_eq_true, decide_eq_true_eq, Bool.or_eq_true, Bool.not_eq_true', decide_eq_false_iff_not] at h1
    obtain ⟨⟨⟨⟨⟨a1, a2⟩, a3⟩, a4⟩, _⟩, a6⟩ := h1
    exact .inl ⟨by omega, a1, a2, a3, a4, a6.resolve_left h3⟩
  · simp only [Bool.and_eq_true, decide_eq_true_eq] at h1
    obtain ⟨⟨⟨⟨⟨a1, _⟩, _⟩, a4⟩, a5⟩, a6⟩ := h1
    obtain ⟨⟨⟨b1, b2⟩, b3⟩, b4⟩ := h4.resolve_left (fun e => e a1)
    have hw : nameS n.name = true ∧ (n.attrs.any fun x => !nameS x.1 || !goodS x.2) = false := by
      unfold wrongT at a5
      cases e : nameS n.name with
      | false => rw [e, if_pos rfl] at a5; cases a5
      | true =>
        rw [e, if_neg (by decide)] at a5
        cases e2 : (n.attrs.any fun x => !nameS x.1 || !goodS x.2) with
        | false => exact ⟨rfl, rfl⟩
        | true => rw [e2, if_pos rfl] at a5; cases a5
    refine .inr ⟨a1, b1, a4, hw.1, fun x hx => ?_, b4, ?_, a6, h5⟩
    · have := List.any_eq_false.1 hw.2 x hx
      simp only [Bool.or_eq_true, Bool.not_eq_true', not_or, Bool.not_eq_false] at this
      exact this.1
    · unfold rawNd
      rw [decide_eq_false b2, decide_eq_false b3]
      simp
theorem text_in {n : Vi.Node} (h : isText n) : inN false n = esc false n.text := by
  rw [inN_eq, if_neg (by rw [h.1]; decide), if_pos h.1, if_neg (by decide)]
theorem el_in {sp : Int} {n : Vi.Node} (h : isEl sp n) : inN false n = openT n.name n.attrs ++ inL false n.kids ++ ([60, 47] ++ n.name ++ [62]) := by
  obtain ⟨h1, h2, h3, h4, h5, h6, h7, h8, h9⟩ := h
  rw [inN_eq, if_pos h1, if_neg (by rw [h6]; simp), h7]
theorem text_first {n : Vi.Node} (h : isText n) (r : Str) : ∃ b t, inN false n ++ r = b :: t ∧ b ≠ 60 := by
  rw [text_in h]
  have h1 := esc_ne false h.2.2.2.2.2
  have h2 := (esc_no false n.text).1
  cases e : esc false n.text with
  | nil => exact absurd e h1
  | cons b t => exact ⟨b, t ++ r, rfl, h2 b (by rw [e]; exact List.mem_cons_self ..)⟩
theorem el_first {sp : Int} {n : Vi.Node} (h : isEl sp n) (r : Str) : ∃ b t, inN false n ++ r = 60 :: b :: t ∧ b ≠ 47 := by
  rw [el_in h]
  obtain ⟨_, c, t, e, hs⟩ := name_all h.2.2.2.1
  unfold openT
  rw [e]
  refine ⟨c, _, rfl, fun e2 => ?_⟩
  rw [e2] at hs
  exact absurd hs (by decide)
theorem sorts {sp : Int} {p : Bool} {n : Vi.Node} {l : List Vi.Node} (h1 : riL p (n :: l) = true) (h2 : smL sp (n :: l) = true) :
    (isText n ∨ isEl sp n) ∧ (p = true → ¬ isText n) ∧ riL (decide (n.kind = 2)) l = true ∧ smL sp l = true := by
  rw [riL] at h1
  rw [smL] at h2
  simp only [Bool.and_eq_true, Bool.not_eq_true', Bool.and_eq_false_iff, decide_eq_false_iff_not] at h1 h2
  exact ⟨node_sort h1.1.2 h2.1, fun hp ht => h1.1.1.elim (fun e => e ht.1) (fun e => by rw [hp] at e; cases e), h1.2, h2.2⟩
theorem begins60 {sp : Int} {l : List Vi.Node} {x : Str} (h1 : riL true l = true) (h2 : smL sp l = true) (hx : endS x) : ∀ b r, inL false l ++ x = b :: r → ¬ (b ≠ 60) := by
  intro b r e hb
  cases l with
  | nil =>
    rcases hx with rfl | ⟨r', rfl⟩
    · cases e
    · simp [inL] at e; exact hb e.1.symm
  | cons n l =>
    obtain ⟨hs, ht, _, _⟩ := sorts h1 h2
    obtain ⟨c, t, e2, _⟩ := el_first (hs.resolve_left (ht rfl)) (inL false l ++ x)
    rw [inL, List.append_assoc, e2] at e
    exact hb (List.cons.inj e).1.symm
theorem text_inj {sp : Int} : ∀ (k : Nat) (a b : List Vi.Node) (p q : Bool) (x y : Str), szL a ≤ k → riL p a = true → smL sp a = true → riL q b = true → smL sp b = true → endS x → endS y →
    inL false a ++ x = inL false b ++ y → a = b ∧ x = y
  | _, [], [], _, _, _, _, _, _, _, _, _, _, _, h => ⟨rfl, h⟩
  | _, [], m :: b, _, _, x, y, _, _, _, h3, h4, hx, _, h => by
    obtain ⟨hs, _, _, _⟩ := sorts h3 h4
    rw [inL, inL, List.append_assoc] at h
    rcases hs with hs | hs
    · obtain ⟨c, t, e, hc⟩ := text_first hs (inL false b ++ y)
      rw [e] at h
      rcases hx with rfl | ⟨r, rfl⟩
      · cases h
      · simp at h; exact absurd h.1.symm hc
    · obtain ⟨c, t, e, hc⟩ := el_first hs (inL false b ++ y)
      rw [e] at h
      rcases hx with rfl | ⟨r, rfl⟩
      · cases h
      · simp at h; exact absurd h.1.symm hc
  | _, n :: a, [], _, _, x, y, _, h1, h2, _, _, _, hy, h => by
    obtain ⟨hs, _, _, _⟩ := sorts h1 h2
    rw [inL, inL, List.append_assoc] at h
    rcases hs with hs | hs
    · obtain ⟨c, t, e, hc⟩ := text_first hs (inL false a ++ x)
      rw [e] at h
      rcases hy with rfl | ⟨r, rfl⟩
      · cases h
      · simp at h; exact absurd h.1 hc
    · obtain ⟨c, t, e, hc⟩ := el_first hs (inL false a ++ x)
      rw [e] at h
      rcases hy with rfl | ⟨r, rfl⟩
      · cases h
      · simp at h; exact absurd h.1 hc
  | 0, n :: a, _ :: _, _, _, _, _, hk, _, _, _, _, _, _, _ => by rw [szL] at hk; omega
  | k + 1, n :: a, m :: b, p, q, x, y, hk, h1, h2, h3, h4, hx, hy, h => by
    obtain ⟨hs, _, k1, k2⟩ := sorts h1 h2
    obtain ⟨ht, _, k3, k4⟩ := sorts h3 h4
    rw [inL, inL, List.append_assoc, List.append_assoc] at h
    rw [szL] at hk
    rcases hs with hs | hs <;> rcases ht with ht | ht
    · rw [text_in hs, text_in ht] at h
      rw [decide_eq_true hs.1] at k1
      rw [decide_eq_true ht.1] at k3
      obtain ⟨e1', h⟩ := cut_inj (p := fun b => b ≠ 60) (esc_no false n.text).1 (esc_no false m.text).1 (begins60 k1 k2 hx) (begins60 k3 k4 hy) h
      obtain ⟨e2', e3⟩ := text_inj k a b _ _ x y (by omega) k1 k2 k3 k4 hx hy h
      have e4 := esc_inj e1'
      obtain ⟨a1, a2, a3, a4, a5, _⟩ := hs
      obtain ⟨b1, b2, b3, b4, b5, _⟩ := ht
      have : n = m := by
        cases n; cases m
        simp only [Vi.Node.kind, Vi.Node.space, Vi.Node.name, Vi.Node.text, Vi.Node.attrs, Vi.Node.kids] at a1 a2 a3 a4 a5 b1 b2 b3 b4 b5 e4
        subst a1 a2 a3 a4 a5 b1 b2 b3 b4 b5 e4
        rfl
      exact ⟨by rw [this, e2'], e3⟩
    · obtain ⟨c, t, e, hc⟩ := text_first hs (inL false a ++ x)
      obtain ⟨d, u, e2, _⟩ := el_first ht (inL false b ++ y)
      rw [e, e2] at h
      exact absurd (List.cons.inj h).1 hc
    · obtain ⟨c, t, e, hc⟩ := text_first ht (inL false b ++ y)
      obtain ⟨d, u, e2, _⟩ := el_first hs (inL false a ++ x)
      rw [e, e2] at h
      exact absurd (List.cons.inj h).1.symm hc
    · rw [el_in hs, el_in ht] at h
      obtain ⟨a1, a2, a3, a4, a5, _, _, a8, a9⟩ := hs
      obtain ⟨b1, b2, b3, b4, b5, _, _, b8, b9⟩ := ht
      simp only [List.append_assoc] at h
      obtain ⟨e1', e2', h⟩ := open_inj a4 b4 a5 b5 h
      have hz := szN_eq n
      obtain ⟨e3, h⟩ := text_inj k n.kids m.kids _ _ _ _ (by omega) a8 a9 b8 b9 (.inr ⟨_, rfl⟩) (.inr ⟨_, rfl⟩) h
      rw [e1'] at h
      have h : m.name ++ (62 :: (inL false a ++ x)) = m.name ++ (62 :: (inL false b ++ y)) := by simpa using h
      have h := (List.cons.inj (List.append_cancel_left h)).2
      obtain ⟨e4, e5⟩ := text_inj k a b _ _ x y (by omega) k1 k2 k3 k4 hx hy h
      have : n = m := by
        cases n; cases m
        simp only [Vi.Node.kind, Vi.Node.space, Vi.Node.name, Vi.Node.text, Vi.Node.attrs, Vi.Node.kids] at a1 a2 a3 b1 b2 b3 e1' e2' e3
        subst a1 b1 b3 a3 e1' e2' e3
        rw [a2, b2]
      exact ⟨by rw [this, e4], e5⟩
theorem apart_ok {sp : Int} {a b : List Vi.Node} (h1 : rightP a = true) (h2 : smL sp a = true) (h3 : rightP b = true) (h4 : smL sp b = true) : eqB (decide (textN a = textN b)) (nlB a b) = true := by
  cases e : nlB a b with
  | true =>
    have := (nlB_eq a b).1 e
    rw [this, decide_eq_true rfl]
    rfl
  | false =>
    rw [decide_eq_false (fun h => by
      have := (text_inj _ a b false false [] [] (Nat.le_refl _) h1 h2 h3 h4 (.inl rfl) (.inl rfl) (by rw [List.append_nil, List.append_nil]; exact h)).1
      rw [(nlB_eq a b).2 this] at e; cases e)]
    rfl
theorem chk_right {l : List Vi.Node} (h : chkP l = 0) : rightP l = true := by
  unfold chkP at h
  split at h
  · cases h
  · split at h
    · cases h
    · rename_i c; cases e : rightP l with
      | true => rfl
      | false => exact absurd e c
end Sp
theorem rectolaw13_PrintApart.ok (R : Bool → Prop) (a b : List Vi.Node) (space : Int) (h : Sz (.sl .node) a ∧ Sz (.sl .node) b ∧ Sz (.int .i64) space) (hR : R Sp.tt) : rectolaw13_PrintApart.vc R a b space := by
  unfold rectolaw13_PrintApart.vc
  cases hl : Sp.large8 a with
  | true => exact hR
  | false =>
  cases hn : Sp.large8 b with
  | true => exact hR
  | false =>
  have ha := (Sp.large_ok hl).1
  have hb := (Sp.large_ok hn).1
  simp only [cond_false]
  refine ⟨ha, ?_⟩
  rw [cond_ndec]
  split
  · rename_i c1
    refine ⟨hb, ?_⟩
    rw [cond_ndec]
    split
    · rename_i c2
      refine ⟨ha, ?_⟩
      cases s1 : Sp.simP a space with
      | false => exact hR
      | true =>
        refine ⟨hb, ?_⟩
        cases s2 : Sp.simP b space with
        | false => exact hR
        | true =>
          refine ⟨ha, hb, ⟨ha.2.1, ha.1⟩, ?_⟩
          unfold Sp.eqNs
          rw [Sp.apart_ok (Sp.chk_right c1) s1 (Sp.chk_right c2) s2]
          exact hR
    · exact hR
  · exact hR
