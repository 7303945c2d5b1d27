/- Right nodes, and equal ones: what is told, shown of the conditions. Plain theorems. -/
import Derived.Test.YtmciagbogdlcoaaGreatDoorVcK
import Derived.Test.YtmciagbogdlcoaaGreatDoorPlH
set_option linter.unnecessarySimpa false
set_option linter.unusedVariables false
set_option linter.unusedSectionVars false
set_option linter.unusedSimpArgs false
set_option autoImplicit false
open Go Vi

namespace Sp
mutual
theorem ndB_eq : ∀ a b : Vi.Node, ndB a b = true ↔ a = b
  | .mk k s n a t c, .mk k' s' n' a' t' c' => by
    rw [ndB]
    simp only [Bool.and_eq_true, decide_eq_true_eq, Vi.Node.mk.injEq, nlB_eq c c']
    constructor
    · rintro ⟨⟨⟨⟨⟨h1, h2⟩, h3⟩, h4⟩, h5⟩, h6⟩; exact ⟨h1, h2, h3, h5, h4, h6⟩
    · rintro ⟨h1, h2, h3, h5, h4, h6⟩; exact ⟨⟨⟨⟨⟨h1, h2⟩, h3⟩, h4⟩, h5⟩, h6⟩
theorem nlB_eq : ∀ a b : List Vi.Node, nlB a b = true ↔ a = b
  | [], [] => by simp [nlB]
  | [], _ :: _ => by simp [nlB]
  | _ :: _, [] => by simp [nlB]
  | x :: l, y :: m => by
    rw [nlB]
    simp only [Bool.and_eq_true, ndB_eq x y, nlB_eq l m, List.cons.injEq]
end
theorem eqS_iff (a b : Str) : eqS a b = decide (a = b) := rfl
end Sp
theorem rectoplain_Attrs.ok (R : Bool → Prop) (a b : List (Str × Str)) (h : Sp.eqAt.pre a b) (hR : R (Sp.eqAt a b)) : rectoplain_Attrs.vc R a b := by
  unfold Sp.eqAt.pre at h
  unfold Sp.eqAt at hR
  unfold rectoplain_Attrs.vc
  refine Lp_rule (fun v => ∃ q : Nat, v = (a, b, (a.length : Int), (q : Int), ()) ∧ q ≤ a.length ∧ q ≤ b.length ∧ a.take q = b.take q) (fun v => a.length - v.2.2.2.1.toNat) ?_ ⟨0, rfl, Nat.zero_le _, Nat.zero_le _, rfl⟩
  rintro _ K ⟨q, rfl, hq, hqb, he⟩ hK
  simp only [rectoplain_Attrs.L0, cond_dec]
  have no (hne : a ≠ b) : R false := by rwa [decide_eq_false hne] at hR
  split
  · have hq' : q < a.length := by omega
    split
    · exact no (fun e => by subst e; omega)
    · have hb' : q < b.length := by omega
      refine ⟨by rw [ix_iff]; omega, by rw [ix_iff]; omega, ?_⟩
      have hta := take_succ (d := (([], []) : Str × Str)) hq'
      have htb := take_succ (d := (([], []) : Str × Str)) hb'
      have hda : nth a (q : Int) (([], []) : Str × Str) = a[q] := nth_lt hq'
      have hdb : nth b (q : Int) (([], []) : Str × Str) = b[q] := nth_lt hb'
      rw [Sp.eqS_iff, Sp.eqS_iff]
      generalize nth a (q : Int) (([], []) : Str × Str) = x at *
      generalize nth b (q : Int) (([], []) : Str × Str) = y at *
      by_cases e : x = y
      · rw [decide_eq_true (show x.1 = y.1 by rw [e]), decide_eq_true (show x.2 = y.2 by rw [e])]
        refine ⟨by rw [rg64]; omega, hK _ ⟨q + 1, rfl, by omega, by omega, by rw [hta, htb, he, e]⟩ (by simp only; omega)⟩
      · have : (decide (x.1 = y.1) && decide (x.2 = y.2)) = false := by
          rw [Bool.and_eq_false_iff, decide_eq_false_iff_not, decide_eq_false_iff_not]
          by_cases e1 : x.1 = y.1
          · right; intro e2; exact e (Prod.ext e1 e2)
          · exact .inl e1
        rw [this]
        exact no (fun e2 => e (by subst e2; rw [hda, hdb]))
  · have : q = a.length := by omega
    subst this
    by_cases e : a = b
    · subst e
      rw [decide_eq_true rfl] at hR
      rw [decide_eq_true rfl]; exact hR
    · rw [decide_eq_false (fun hl => e (by
        have h1 : a.length = b.length := by omega
        rw [List.take_length, h1, List.take_length] at he
        exact he))]
      exact no e
theorem rectoplain_Node.ok (nn : Nat) (R : Bool → Prop) (a b : Vi.Node) (h : Sp.eqNd.pre a b ∧ Sp.mNd a b < nn + 1) (hR : R (Sp.eqNd a b)) : rectoplain_Node.vc R nn a b := by
  obtain ⟨h1, h2⟩ := h
  obtain ⟨k1, k2, k3, k4, k5⟩ := Sp.pkN_eq h1
  unfold Sp.mNd at h2
  rw [Sp.szN_eq] at h2
  unfold Sp.eqNd at hR
  unfold rectoplain_Node.vc
  have no (hne : a ≠ b) : R false := by
    cases e : Sp.ndB a b with
    | true => exact absurd ((Sp.ndB_eq a b).1 e) hne
    | false => rwa [e] at hR
  simp only [cond_dec]
  split
  · split
    · split
      · split
        · rename_i e1 e2 e3 e4
          refine ⟨by unfold Sp.eqAt.pre; have := k2.1; omega, ?_⟩
          unfold Sp.eqAt
          rw [cond_dec]
          split
          · rename_i e5
            refine ⟨⟨⟨k5, k4⟩, by unfold Sp.mNs; omega⟩, ?_⟩
            refine cast (congrArg R ?_) hR
            unfold Sp.eqNs
            cases a; cases b
            simp only [Vi.Node.kind, Vi.Node.space, Vi.Node.name, Vi.Node.text, Vi.Node.attrs, Vi.Node.kids] at e1 e2 e3 e4 e5 ⊢
            subst e1 e2 e3 e4 e5
            rw [Sp.ndB]
            simp
          · rename_i e; exact no (fun h => e (by rw [h]))
        · rename_i e; exact no (fun h => e (by rw [h]))
      · rename_i e; exact no (fun h => e (by rw [h]))
    · rename_i e; exact no (fun h => e (by rw [h]))
  · rename_i e; exact no (fun h => e (by rw [h]))
theorem rectoplain_Nodes.ok (nn : Nat) (R : Bool → Prop) (a b : List Vi.Node) (h : Sp.eqNs.pre a b ∧ Sp.mNs a b < nn + 1) (hR : R (Sp.eqNs a b)) : rectoplain_Nodes.vc R nn a b := by
  obtain ⟨⟨h1, h3⟩, h2⟩ := h
  unfold Sp.mNs at h2
  unfold Sp.eqNs at hR
  have no (hne : a ≠ b) : R false := by
    cases e : Sp.nlB a b with
    | true => exact absurd ((Sp.nlB_eq a b).1 e) hne
    | false => rwa [e] at hR
  unfold rectoplain_Nodes.vc
  refine Lp_rule (fun v => ∃ q : Nat, v = (a, b, (a.length : Int), (q : Int), ()) ∧ q ≤ a.length ∧ q ≤ b.length ∧ a.take q = b.take q) (fun v => a.length - v.2.2.2.1.toNat) ?_ ⟨0, rfl, Nat.zero_le _, Nat.zero_le _, rfl⟩
  rintro _ K ⟨q, rfl, hq, hqb, he⟩ hK
  simp only [rectoplain_Nodes.L0, cond_dec]
  split
  · have hq' : q < a.length := by omega
    split
    · exact no (fun e => by subst e; omega)
    · have hb' : q < b.length := by omega
      have hta := take_succ (d := Vi.Node.mk 0 0 [] [] [] []) hq'
      have htb := take_succ (d := Vi.Node.mk 0 0 [] [] [] []) hb'
      have hda : nth a (q : Int) (Vi.Node.mk 0 0 [] [] [] []) = a[q] := nth_lt hq'
      have hdb : nth b (q : Int) (Vi.Node.mk 0 0 [] [] [] []) = b[q] := nth_lt hb'
      have hm := Sp.nth_mem (d := Vi.Node.mk 0 0 [] [] [] []) hq'
      have hz := Sp.szL_lt hm
      have hp := Sp.pkL_mem h1 hm
      generalize nth a (q : Int) (Vi.Node.mk 0 0 [] [] [] []) = x at *
      generalize nth b (q : Int) (Vi.Node.mk 0 0 [] [] [] []) = y at *
      refine ⟨by rw [ix_iff]; omega, by rw [ix_iff]; omega, ⟨hp, by unfold Sp.mNd; omega⟩, ?_⟩
      unfold Sp.eqNd
      cases e : Sp.ndB x y with
      | true =>
        have e := (Sp.ndB_eq x y).1 e
        exact ⟨by rw [rg64]; omega, hK _ ⟨q + 1, rfl, by omega, by omega, by rw [hta, htb, he, e]⟩ (by simp only; omega)⟩
      | false =>
        exact no (fun e2 => by
          have : x = y := by subst e2; rw [hda, hdb]
          rw [(Sp.ndB_eq x y).2 this] at e; cases e)
  · have : q = a.length := by omega
    subst this
    by_cases e : a = b
    · rw [(Sp.nlB_eq a b).2 e] at hR
      rw [decide_eq_true (by rw [e])]; exact hR
    · rw [decide_eq_false (fun hl => e (by
        have h1 : a.length = b.length := by omega
        rw [List.take_length, h1, List.take_length] at he
        exact he))]
      exact no e

theorem rectoref02_Is.ok (R : Bool → Prop) (c : Int) (hR : R (Sp.isC c)) : rectoref02_Is.vc R c := by
  unfold rectoref02_Is.vc
  rw [Sp.isC_eq] at hR
  simp only [cond_dec]
  split
  · split
    · split
      · rename_i h1 h2 h3
        have e : decide (0 ≤ c ∧ c < 1114112 ∧ (c < 55296 ∨ 57343 < c)) = !decide (c ≤ 57343) := by
          rw [Bool.eq_iff_iff, Bool.not_eq_true', decide_eq_true_iff, decide_eq_false_iff_not]; omega
        rwa [e] at hR
      · rwa [decide_eq_true (by omega)] at hR
    · rwa [decide_eq_false (by omega)] at hR
  · rwa [decide_eq_false (by omega)] at hR
theorem rectoref02_low.ok (R : Int → Prop) (s : Str) (i : Int) (h : Sp.lowS.pre s i) (hR : R (Sp.lowS s i)) : rectoref02_low.vc R s i := by
  unfold Sp.lowS.pre at h
  unfold rectoref02_low.vc
  unfold Sp.lowS at hR
  have hB : (0 : Int) ≤ ((nth s i 0).toNat : Int) ∧ ((nth s i 0).toNat : Int) < 256 := by have := (nth s i 0).toNat_lt; omega
  generalize ((nth s i 0).toNat : Int) = B at *
  simp only [cond_dec]
  split
  · rename_i c; rwa [if_pos (.inl c)] at hR
  rename_i c
  have ix : Ix i s.length := by rw [ix_iff]; omega
  refine ⟨ix, ?_⟩
  split
  · rename_i c2; rwa [if_pos (.inr (.inl c2))] at hR
  rename_i c2
  refine ⟨ix, ?_⟩
  split
  · rename_i c3; rwa [if_pos (.inr (.inr c3))] at hR
  · rename_i c3
    rw [if_neg (fun e => e.elim c fun e => e.elim c2 c3)] at hR
    exact ⟨ix, by rw [rg64]; omega, hR⟩
namespace Sp
theorem b8_wrap {x : Int} (h0 : 0 ≤ x) (h1 : x < 256) : UInt8.ofNat (IntKind.u8.wrap x).toNat = b8 x := by
  obtain ⟨n, rfl⟩ : ∃ n : Nat, x = n := ⟨x.toNat, by omega⟩
  rw [wrap8 (by omega)]; rfl
end Sp
set_option maxRecDepth 20000 in
theorem rectoref02_Bytes.ok (nn : Nat) (R : List UInt8 → Prop) (c : Int) (h : Sp.any c ∧ Sp.mBy c < nn + 1) (hR : R (Sp.bytesC c)) : rectoref02_Bytes.vc R nn c := by
  have hm := h.2
  unfold Sp.mBy at hm
  unfold rectoref02_Bytes.vc
  cases hc : Sp.isC c with
  | false =>
    rw [hc] at hm
    have e : Sp.bytesC c = Sp.bytesC 65533 := by unfold Sp.bytesC; rw [hc]; rfl
    rw [e] at hR
    refine ⟨⟨trivial, ?_⟩, hR⟩
    rw [if_neg (by decide)] at hm
    omega
  | true =>
    have hb : Sp.bytesC c = Sp.encC c := by unfold Sp.bytesC; rw [hc, if_pos rfl]
    rw [hb] at hR
    rw [Sp.isC_eq] at hc
    have hc := of_decide_eq_true hc
    unfold Sp.encC at hR
    simp only [Bool.not_true, cond_false, cond_dec, dv_iff, rg64]
    have w (x : Int) (h0 : 0 ≤ x) (h1 : x < 256) := Sp.b8_wrap h0 h1
    split
    · rename_i c1
      rw [if_pos c1] at hR
      simp only [bytesOf, List.map]
      rw [w c (by omega) (by omega)]; exact hR
    rename_i c1
    rw [if_neg c1] at hR
    split
    · rename_i c2
      rw [if_pos c2] at hR
      refine ⟨by omega, by omega, by omega, by omega, ?_⟩
      simp only [bytesOf, List.map]
      rw [w _ (by omega) (by omega), w _ (by omega) (by omega)]; exact hR
    rename_i c2
    rw [if_neg c2] at hR
    split
    · rename_i c3
      rw [if_pos c3] at hR
      refine ⟨by omega, by omega, by omega, by omega, by omega, by omega, by omega, ?_⟩
      simp only [bytesOf, List.map]
      rw [w _ (by omega) (by omega), w _ (by omega) (by omega), w _ (by omega) (by omega)]; exact hR
    · rename_i c3
      rw [if_neg c3] at hR
      refine ⟨by omega, by omega, by omega, by omega, by omega, by omega, by omega, by omega, by omega, by omega, ?_⟩
      simp only [bytesOf, List.map]
      rw [w _ (by omega) (by omega), w _ (by omega) (by omega), w _ (by omega) (by omega), w _ (by omega) (by omega)]; exact hR
namespace Sp
theorem encC_len (c : Int) : 1 ≤ (encC c).length ∧ (encC c).length ≤ 4 := by
  unfold encC
  split
  · exact ⟨by simp, by simp⟩
  split
  · exact ⟨by simp, by simp⟩
  split
  · exact ⟨by simp, by simp⟩
  · exact ⟨by simp, by simp⟩
theorem bytesC_len (c : Int) : 1 ≤ (bytesC c).length ∧ (bytesC c).length ≤ 4 := encC_len _
def atR (s : Str) (i c : Int) : Int × Int × Bool :=
  if isC c = false then (65533, 1, false)
  else if (s.length : Int) - i < ((bytesC c).length : Int) ∨ sub s i (i + ((bytesC c).length : Int)) ≠ bytesC c then (65533, 1, false)
  else (c, ((bytesC c).length : Int), true)
theorem at_tail {R : Int × Int × Bool → Prop} {s : Str} {i : Int} (h0 : 0 ≤ i) (h1 : i < (s.length : Int)) (h2 : s.length ≤ 1000000) {c : Int} (hR : R (atR s i c)) :
    bif !isC c then R (65533, 1, false)
    else any c ∧ Rg .i64 ((s.length : Int) - i) ∧ bif decide ((s.length : Int) - i < ((bytesC c).length : Int)) then R (65533, 1, false)
      else Rg .i64 (i + ((bytesC c).length : Int)) ∧ Sb i (i + ((bytesC c).length : Int)) s.length ∧ bif !decide (sub s i (i + ((bytesC c).length : Int)) = bytesC c) then R (65533, 1, false) else R (c, ((bytesC c).length : Int), true) := by
  unfold atR at hR
  have hl := bytesC_len c
  cases hc : isC c with
  | false => rw [hc, if_pos rfl] at hR; exact hR
  | true =>
    rw [hc, if_neg (by decide)] at hR
    refine ⟨trivial, by rw [rg64]; omega, ?_⟩
    rw [cond_dec]
    split
    · rename_i c1; rw [if_pos (.inl c1)] at hR; exact hR
    rename_i c1
    refine ⟨by rw [rg64]; omega, by rw [sb_iff]; omega, ?_⟩
    rw [cond_ndec]
    split
    · rename_i c2
      rw [if_neg (fun e => e.elim c1 fun e => e c2)] at hR; exact hR
    · rename_i c2
      rw [if_pos (.inr c2)] at hR; exact hR
theorem low_rg (s : Str) (i : Int) : -1 ≤ lowS s i ∧ lowS s i < 64 := by
  unfold lowS
  split <;> omega
end Sp
theorem rectoref02_At.ok (R : Int × Int × Bool → Prop) (s : Str) (i : Int) (h : Sp.atG.pre s i) (hR : R (Sp.atG s i)) : rectoref02_At.vc R s i := by
  obtain ⟨h0, h1, h2⟩ := h
  have hR : R (Sp.atR s i (Sp.codeS s i)) := hR
  have l1 := Sp.low_rg s (i + 1)
  have l2 := Sp.low_rg s (i + 2)
  have l3 := Sp.low_rg s (i + 3)
  have hb := (nth s i 0).toNat_lt
  unfold rectoref02_At.vc
  refine ⟨by rw [ix_iff]; omega, by rw [rg64]; omega, by unfold Sp.lowS.pre; omega, by rw [rg64]; omega, by unfold Sp.lowS.pre; omega, by rw [rg64]; omega, by unfold Sp.lowS.pre; omega, ?_⟩
  unfold Sp.codeS at hR
  generalize Sp.lowS s (i + 1) = x at *
  generalize Sp.lowS s (i + 2) = y at *
  generalize Sp.lowS s (i + 3) = z at *
  have tl := fun (c : Int) => @Sp.at_tail R s i h0 h1 h2 c
  have bad : R (Sp.atR s i (-1)) → R (65533, 1, false) := fun h => h
  generalize ((nth s i 0).toNat : Int) = B at *
  simp only [rg64]
  rw [cond_dec]
  by_cases c1 : B < 128
  · rw [if_pos c1] at hR ⊢
    exact tl _ hR
  rw [if_neg c1] at hR ⊢
  have q4 : ∀ (X : Prop), X → X := fun _ h => h
  by_cases c2 : 192 ≤ B ∧ B < 224 ∧ 0 ≤ x
  · rw [if_pos c2] at hR
    obtain ⟨d1, d2, d3⟩ := c2
    rw [cond_dec, if_pos d1, cond_dec, if_pos d2, cond_dec, if_pos d3]
    exact ⟨by omega, by omega, by omega, tl _ hR⟩
  rw [if_neg c2] at hR
  by_cases c3 : 224 ≤ B ∧ B < 240 ∧ 0 ≤ x ∧ 0 ≤ y
  · rw [if_pos c3] at hR
    obtain ⟨d1, d2, d3, d4⟩ := c3
    rw [cond_dec, if_pos (show 192 ≤ B by omega), cond_dec, if_neg (show ¬ B < 224 by omega), cond_dec, if_pos d1, cond_dec, if_pos d2, cond_dec, if_pos d3, cond_dec, if_pos d4]
    exact ⟨by omega, by omega, by omega, by omega, by omega, tl _ hR⟩
  rw [if_neg c3] at hR
  by_cases c4 : 240 ≤ B ∧ B < 248 ∧ 0 ≤ x ∧ 0 ≤ y ∧ 0 ≤ z
  · rw [if_pos c4] at hR
    obtain ⟨d1, d2, d3, d4, d5⟩ := c4
    rw [cond_dec, if_pos (show 192 ≤ B by omega), cond_dec, if_neg (show ¬ B < 224 by omega), cond_dec, if_pos (show 224 ≤ B by omega), cond_dec, if_neg (show ¬ B < 240 by omega), cond_dec, if_pos d1, cond_dec, if_pos d2, cond_dec, if_pos d3, cond_dec, if_pos d4, cond_dec, if_pos d5]
    exact ⟨by omega, by omega, by omega, by omega, by omega, by omega, by omega, tl _ hR⟩
  rw [if_neg c4] at hR
  have hb := bad hR
  clear hR tl bad
  simp only [cond_dec]
  by_cases d1 : 192 ≤ B
  · rw [if_pos d1]
    by_cases d2 : B < 224
    · rw [if_pos d2, if_neg (show ¬ 0 ≤ x by omega), if_neg (show ¬ 224 ≤ B by omega), if_neg (show ¬ 240 ≤ B by omega)]
      exact hb
    · rw [if_neg d2, if_pos (show 224 ≤ B by omega)]
      by_cases d3 : B < 240
      · rw [if_pos d3]
        by_cases d4 : 0 ≤ x
        · rw [if_pos d4, if_neg (show ¬ 0 ≤ y by omega), if_neg (show ¬ 240 ≤ B by omega)]
          exact hb
        · rw [if_neg d4, if_neg (show ¬ 240 ≤ B by omega)]
          exact hb
      · rw [if_neg d3, if_pos (show 240 ≤ B by omega)]
        by_cases d4 : B < 248
        · rw [if_pos d4]
          by_cases d5 : 0 ≤ x
          · rw [if_pos d5]
            by_cases d6 : 0 ≤ y
            · rw [if_pos d6, if_neg (show ¬ 0 ≤ z by omega)]
              exact hb
            · rw [if_neg d6]
              exact hb
          · rw [if_neg d5]
            exact hb
        · rw [if_neg d4]
          exact hb
  · rw [if_neg d1, if_neg (show ¬ 224 ≤ B by omega), if_neg (show ¬ 240 ≤ B by omega)]
    exact hb

/- Right nodes: what is told, shown of the conditions. Plain theorems. -/

namespace Sp
theorem atG_rg (s : Str) (i : Int) : 1 ≤ (atG s i).2.1 ∧ (atG s i).2.1 ≤ 4 := by
  unfold atG
  have := bytesC_len (codeS s i)
  split
  · exact ⟨by decide, by decide⟩
  split
  · exact ⟨by decide, by decide⟩
  · simp only; omega
end Sp
theorem rectoref02_Of.ok (R : List Int × Bool → Prop) (s : Str) (h : Sp.ofS.pre s) (hR : R (Sp.ofS s)) : rectoref02_Of.vc R s := by
  unfold Sp.ofS.pre at h
  unfold rectoref02_Of.vc
  refine Lp_rule (fun v => ∃ (k : Nat) (i : Int) (L : List Int) (r : Bool), v = (s, i, false, [], r, L, ()) ∧ 0 ≤ i ∧ (s.length : Int) - i ≤ k ∧ (L.length : Int) ≤ i ∧ Sp.ofFu s k i L r = Sp.ofS s) (fun v => ((s.length : Int) - v.2.1).toNat) ?_ ⟨s.length, 0, [], true, rfl, Int.le_refl _, by omega, Int.le_refl _, rfl⟩
  rintro _ K ⟨k, i, L, r, rfl, hi, hk, hl, he⟩ hK
  simp only [rectoref02_Of.L0]
  rw [cond_dec]
  split
  · rename_i c
    obtain ⟨m, rfl⟩ : ∃ m, k = m + 1 := ⟨k - 1, by omega⟩
    rw [Sp.ofFu, if_pos c] at he
    obtain ⟨g1, g2⟩ := Sp.atG_rg s i
    have go : K (s, i + (Sp.atG s i).2.1, false, [], r && (Sp.atG s i).2.2, L ++ [(Sp.atG s i).1], ()) :=
      hK _ ⟨m, _, _, _, rfl, by omega, by omega, by rw [List.length_append]; simp only [List.length_cons, List.length_nil]; omega, he⟩ (by simp only; omega)
    refine ⟨⟨hi, c, h⟩, by rw [gr_iff]; omega, ?_⟩
    cases r with
    | true => exact ⟨by rw [rg64]; omega, go⟩
    | false => exact ⟨by rw [rg64]; omega, go⟩
  · rename_i c
    have : Sp.ofFu s k i L r = (L, r) := by
      cases k with
      | zero => rfl
      | succ m => rw [Sp.ofFu, if_neg c]
    rw [this] at he
    rw [← he] at hR; exact hR
theorem rectoref06_Good.ok (R : Bool → Prop) (s : Str) (h : Sp.ofS.pre s) (hR : R (Sp.goodS s)) : rectoref06_Good.vc R s := by
  have h' := h
  unfold Sp.ofS.pre at h'
  unfold Sp.goodS at hR
  unfold rectoref06_Good.vc
  refine Lp_rule (fun v => ∃ p : Nat, v = (s, (p : Int), ()) ∧ p ≤ s.length ∧ (s.drop p).any (fun b => b == 0 || b == 13) = s.any fun b => b == 0 || b == 13) (fun v => s.length - v.2.1.toNat) ?_ ⟨0, rfl, Nat.zero_le _, rfl⟩
  rintro _ K ⟨p, rfl, hp, he⟩ hK
  simp only [rectoref06_Good.L0, cond_dec]
  split
  · have hp' : p < s.length := by omega
    rw [drop_cons (d := (0 : UInt8)) hp', List.any_cons] at he
    generalize nth s (p : Int) 0 = b at *
    have k0 := Sp.nat_of (b := b) (k := 0) (by decide)
    have k13 := Sp.nat_of (b := b) (k := 13) (by decide)
    have ix : Ix (p : Int) s.length := by rw [ix_iff]; omega
    refine ⟨ix, ?_⟩
    split
    · rename_i c
      have := k0.1 c
      rw [← he, this] at hR; exact hR
    rename_i c
    refine ⟨ix, ?_⟩
    split
    · rename_i c2
      have := k13.1 c2
      rw [← he, this] at hR; exact hR
    · rename_i c2
      have e : (b == 0 || b == 13) = false := by
        rw [Bool.or_eq_false_iff, beq_eq_false_iff_ne, beq_eq_false_iff_ne]
        exact ⟨fun e => c (k0.2 e), fun e => c2 (k13.2 e)⟩
      rw [e, Bool.false_or] at he
      exact ⟨by rw [rg64]; omega, hK _ ⟨p + 1, rfl, by omega, he⟩ (by simp only; omega)⟩
  · have : p = s.length := by omega
    subst this
    rw [List.drop_length, List.any_nil] at he
    rw [← he] at hR
    exact ⟨h, hR⟩
theorem rectoref06_Wrong.ok (R : Int → Prop) (name : Str) (attrs : List (Str × Str)) (h : Sp.wrongT.pre name attrs) (hR : R (Sp.wrongT name attrs)) : rectoref06_Wrong.vc R name attrs := by
  obtain ⟨h1, h2, h3⟩ := h
  unfold Sp.wrongT at hR
  unfold rectoref06_Wrong.vc
  refine ⟨by unfold Sp.nameS.pre; omega, ?_⟩
  cases hn : Sp.nameS name with
  | false => rw [hn, if_pos rfl] at hR; exact hR
  | true =>
  rw [hn, if_neg (by decide)] at hR
  simp only [Bool.not_true, cond_false]
  refine Lp_rule (fun v => ∃ q : Nat, v = (attrs, attrs, (attrs.length : Int), (q : Int), ()) ∧ q ≤ attrs.length ∧ (attrs.drop q).any (fun x => !Sp.nameS x.1 || !Sp.goodS x.2) = attrs.any fun x => !Sp.nameS x.1 || !Sp.goodS x.2) (fun v => attrs.length - v.2.2.2.1.toNat) ?_ ⟨0, rfl, Nat.zero_le _, rfl⟩
  rintro _ K ⟨q, rfl, hq, he⟩ hK
  simp only [rectoref06_Wrong.L0]
  rw [cond_dec]
  split
  · have hq' : q < attrs.length := by omega
    have hm := h3 _ (Sp.nth_mem (d := (([], []) : Str × Str)) hq')
    rw [drop_cons (d := (([], []) : Str × Str)) hq', List.any_cons] at he
    generalize nth attrs (q : Int) (([], []) : Str × Str) = x at *
    refine ⟨by rw [ix_iff]; omega, by unfold Sp.nameS.pre; omega, ?_⟩
    cases e1 : Sp.nameS x.1 with
    | false =>
      rw [e1] at he
      rw [← he, if_pos (by simp)] at hR; exact hR
    | true =>
      refine ⟨by unfold Sp.ofS.pre; omega, ?_⟩
      cases e2 : Sp.goodS x.2 with
      | false =>
        rw [e1, e2] at he
        rw [← he, if_pos (by simp)] at hR; exact hR
      | true =>
        rw [e1, e2] at he
        exact ⟨by rw [rg64]; omega, hK _ ⟨q + 1, rfl, by omega, he⟩ (by simp only; omega)⟩
  · have : q = attrs.length := by omega
    subst this
    rw [List.drop_length, List.any_nil] at he
    rw [← he, if_neg (by decide)] at hR
    clear hK he hq K
    have R8 (i k : Nat) (hi : i < attrs.length) (hk : k < i) (e : (attrs.getD i ([], [])).1 = (attrs.getD k ([], [])).1) : R 8 := by
      rw [if_pos] at hR
      · exact hR
      · unfold Sp.dupB
        exact decide_eq_true ⟨i, hi, k, hk, e⟩
    refine Lp_rule (fun v => ∃ q : Nat, v = (attrs, attrs, (attrs.length : Int), (q : Int), ()) ∧ q ≤ attrs.length ∧ ∀ i, i < q → ∀ k, k < i → (attrs.getD i ([], [])).1 ≠ (attrs.getD k ([], [])).1) (fun v => attrs.length - v.2.2.2.1.toNat) ?_ ⟨0, rfl, Nat.zero_le _, fun i hi => absurd hi (Nat.not_lt_zero _)⟩
    rintro _ K ⟨q, rfl, hq, he⟩ hK
    simp only [rectoref06_Wrong.L1]
    rw [cond_dec]
    split
    · have hq' : q < attrs.length := by omega
      refine ⟨by rw [ix_iff]; omega, ?_⟩
      refine Lp_rule (fun v => ∃ k : Nat, v = (attrs, (q : Int), attrs, (attrs.length : Int), (q : Int), attrs, (attrs.length : Int), (k : Int), (nth attrs (q : Int) (([], []) : Str × Str)).1, (nth attrs (q : Int) (([], []) : Str × Str)).2, ()) ∧ k ≤ attrs.length ∧ ∀ j, j < k → j < q → (attrs.getD q ([], [])).1 ≠ (attrs.getD j ([], [])).1) (fun v => attrs.length - v.2.2.2.2.2.2.2.1.toNat) ?_ ⟨0, rfl, Nat.zero_le _, fun i hi => absurd hi (Nat.not_lt_zero _)⟩
      rintro _ K2 ⟨k, rfl, hk, hj⟩ hK2
      simp only [rectoref06_Wrong.L2]
      rw [cond_dec]
      split
      · have hk' : k < attrs.length := by omega
        refine ⟨by rw [ix_iff]; omega, ?_⟩
        rw [cond_dec]
        split
        · rename_i c
          rw [cond_dec]
          split
          · rename_i e; exact R8 q k hq' (by omega) e
          · rename_i e
            exact ⟨by rw [rg64]; omega, hK2 _ ⟨k + 1, rfl, by omega, fun j h1 h2 => by
              by_cases ej : j = k
              · subst ej; exact e
              · exact hj j (by omega) h2⟩ (by simp only; omega)⟩
        · rename_i c
          exact ⟨by rw [rg64]; omega, hK2 _ ⟨k + 1, rfl, by omega, fun j h1 h2 => hj j (by omega) h2⟩ (by simp only; omega)⟩
      · refine ⟨by rw [rg64]; omega, hK _ ⟨q + 1, rfl, by omega, fun i hi k' hk' => ?_⟩ (by simp only; omega)⟩
        by_cases ei : i = q
        · subst ei; exact hj k' (by omega) hk'
        · exact he i (by omega) k' hk'
    · have : q = attrs.length := by omega
      subst this
      rw [if_neg] at hR
      · rw [cond_dec]
        split
        · rename_i c; rw [if_pos c] at hR; exact hR
        · rename_i c; rw [if_neg c] at hR; exact hR
      · unfold Sp.dupB
        intro e
        obtain ⟨i, hi, k, hk, e⟩ := of_decide_eq_true e
        exact he i hi k hk e
theorem rectoref08_leaf.ok (R : Bool → Prop) (n : Vi.Node) (hR : R (Sp.leafN n)) : rectoref08_leaf.vc R n := by
  unfold rectoref08_leaf.vc
  unfold Sp.leafN at hR
  cases h : decide (n.kind = 2) <;> (rw [h] at hR; exact hR)
namespace Sp
mutual
theorem dpN_rg : ∀ n : Vi.Node, 0 ≤ dpN n ∧ dpN n ≤ szN n
  | .mk k _ _ _ _ c => by
    have := dpL_rg c
    rw [dpN, szN]
    split <;> omega
theorem dpL_rg : ∀ l : List Vi.Node, 0 ≤ dpL l ∧ dpL l ≤ szL l
  | [] => by rw [dpL, szL]; exact ⟨Int.le_refl _, Int.le_refl _⟩
  | n :: l => by
    have := dpN_rg n
    have := dpL_rg l
    rw [dpL, szL]
    split <;> omega
end
theorem dpN_eq (n : Vi.Node) : dpN n = if 0 < dpL n.kids ∨ ¬ (n.kind = 2 ∨ n.kind = 3) then dpL n.kids + 1 else dpL n.kids := by cases n; rw [dpN]; rfl
theorem leaf_iff (n : Vi.Node) : leafN n = true ↔ (n.kind = 2 ∨ n.kind = 3) := by unfold leafN; simp
end Sp
theorem rectoref08_Depth.ok (nn : Nat) (R : Int → Prop) (l : List Vi.Node) (h : Sp.prOk l ∧ Sp.mCt l < nn + 1) (hR : R (Sp.dpL l)) : rectoref08_Depth.vc R nn l := by
  obtain ⟨⟨h1, h2, h3⟩, h5⟩ := h
  unfold Sp.mCt at h5
  have hr0 := Sp.dpL_rg l
  unfold rectoref08_Depth.vc
  refine Lp_rule (fun v => ∃ (q : Nat) (m : Int), v = (m, l, (l.length : Int), (q : Int), ()) ∧ q ≤ l.length ∧ 0 ≤ m ∧ (if m < Sp.dpL (l.drop q) then Sp.dpL (l.drop q) else m) = Sp.dpL l) (fun v => l.length - v.2.2.2.1.toNat) ?_ ⟨0, 0, rfl, Nat.zero_le _, Int.le_refl _, by rw [List.drop_zero]; split <;> omega⟩
  rintro _ K ⟨q, m, rfl, hq, hm0, he⟩ hK
  simp only [rectoref08_Depth.L0]
  rw [cond_dec]
  split
  · have hq' : q < l.length := by omega
    have hm := Sp.nth_mem (d := Vi.Node.mk 0 0 [] [] [] []) hq'
    rw [drop_cons (d := Vi.Node.mk 0 0 [] [] [] []) hq', Sp.dpL] at he
    have hz := Sp.szL_lt hm
    have hp := Sp.pkL_mem h2 hm
    simp only [Sp.node_eta]
    generalize nth l (q : Int) (Vi.Node.mk 0 0 [] [] [] []) = n at *
    obtain ⟨k1, k2, k3, k4, k5⟩ := Sp.pkN_eq hp
    have hd := Sp.dpN_eq n
    have hrg := Sp.dpL_rg n.kids
    rw [Sp.szN_eq] at hz
    refine ⟨by rw [ix_iff]; omega, ⟨⟨k4, k5, by omega⟩, by unfold Sp.mCt; omega⟩, ?_⟩
    have go (z : Int) (hz : Sp.dpN n = z) : (m < z → Rg .i64 ((q : Int) + 1) ∧ K (z, l, (l.length : Int), (q : Int) + 1, ())) ∧ (¬ m < z → Rg .i64 ((q : Int) + 1) ∧ K (m, l, (l.length : Int), (q : Int) + 1, ())) := by
      subst hz
      refine ⟨fun c => ⟨by rw [rg64]; omega, hK _ ⟨q + 1, _, rfl, by omega, by omega, ?_⟩ (by simp only; omega)⟩, fun c => ⟨by rw [rg64]; omega, hK _ ⟨q + 1, _, rfl, by omega, by omega, ?_⟩ (by simp only; omega)⟩⟩
      · rw [← he]; split <;> split <;> omega
      · rw [← he]; split <;> (try split) <;> omega
    have fin (z : Int) (hz : Sp.dpN n = z) : bif decide (m < z) then Rg .i64 ((q : Int) + 1) ∧ K (z, l, (l.length : Int), (q : Int) + 1, ()) else Rg .i64 ((q : Int) + 1) ∧ K (m, l, (l.length : Int), (q : Int) + 1, ()) := by
      rw [cond_dec]
      split
      · rename_i c; exact (go z hz).1 c
      · rename_i c; exact (go z hz).2 c
    have hlf := Sp.leaf_iff n
    rw [cond_dec]
    split
    · rename_i c
      rw [if_pos (.inl c)] at hd
      exact ⟨by rw [rg64]; omega, fin _ hd⟩
    rename_i c
    cases hv : Sp.leafN n with
    | false =>
      rw [if_pos (.inr (fun e => by rw [hlf.2 e] at hv; cases hv))] at hd
      exact ⟨by rw [rg64]; omega, fin _ hd⟩
    | true =>
      rw [if_neg (fun e => e.elim c (fun e => e (hlf.1 hv)))] at hd
      exact fin _ hd
  · have : q = l.length := by omega
    subst this
    rw [List.drop_length, Sp.dpL] at he
    refine cast (congrArg R ?_) hR
    rw [← he]
    split
    · omega
    · rfl

/- Right nodes; unlike nodes have unlike texts. Plain theorems. -/

namespace Sp
theorem riN_eq (n : Vi.Node) : riN n = if n.kind = 2 ∨ n.kind = 3 then decide (n.space = 0) && decide (n.name = []) && decide (n.attrs = []) && decide (n.kids = []) && goodS n.text && (decide (n.kind = 3) || !decide (n.text = []))
    else decide (n.kind = 1) && decide (0 ≤ n.space) && decide (n.space ≤ 2) && decide (n.text = []) && decide (wrongT n.name n.attrs = 0) && riL false n.kids := by cases n; rw [riN]; rfl
theorem len0 {α : Type} {l : List α} : ¬ (0 < (l.length : Int)) → l = [] := fun h => List.eq_nil_of_length_eq_zero (by omega)
end Sp
/-- What is asked of a node behind the first question. -/
theorem right_rest (R : Bool → Prop) (nn : Nat) (n : Vi.Node) (G : Prop) (hp : Sp.pkN n) (hz : Sp.szL n.kids + 1 ≤ nn) (hz2 : Sp.szL n.kids ≤ 1000000) (hF : Sp.riN n = false → R false) (hG : Sp.riN n = true → G) :
    bif Sp.leafN n then
      bif !decide (n.space = 0) then R false else bif !decide (n.name = []) then R false else bif decide (0 < (n.attrs.length : Int)) then R false else bif decide (0 < (n.kids.length : Int)) then R false
      else Sp.ofS.pre n.text ∧ bif !Sp.goodS n.text then R false else bif decide (n.kind = 2) then bif decide (n.text = []) then R false else G else G
    else bif !decide (n.kind = 1) then R false else bif decide (n.space < 0) then R false else bif decide (2 < n.space) then R false else bif !decide (n.text = []) then R false
      else Sp.wrongT.pre n.name n.attrs ∧ bif !decide (Sp.wrongT n.name n.attrs = 0) then R false else (Sp.prOk n.kids ∧ Sp.mCt n.kids < nn) ∧ bif !Sp.rightP n.kids then R false else G := by
  obtain ⟨k1, k2, k3, k4, k5⟩ := Sp.pkN_eq hp
  have hlf := Sp.leaf_iff n
  rw [Sp.riN_eq] at hF hG
  cases hv : Sp.leafN n with
  | true =>
    have hk := hlf.1 hv
    rw [if_pos hk] at hF hG
    simp only [cond_true, cond_ndec, cond_dec]
    split
    · rename_i c1
      rw [decide_eq_true c1] at hF hG
      split
      · rename_i c2
        rw [decide_eq_true c2] at hF hG
        split
        · rename_i c3; exact hF (by rw [decide_eq_false (fun e => by rw [e] at c3; simp at c3)]; rfl)
        rename_i c3
        rw [decide_eq_true (Sp.len0 c3)] at hF hG
        split
        · rename_i c4; exact hF (by rw [decide_eq_false (fun e => by rw [e] at c4; simp at c4)]; rfl)
        rename_i c4
        rw [decide_eq_true (Sp.len0 c4)] at hF hG
        refine ⟨by unfold Sp.ofS.pre; omega, ?_⟩
        cases hg : Sp.goodS n.text with
        | false => rw [hg] at hF; exact hF rfl
        | true =>
          rw [hg] at hF hG
          simp only [Bool.not_true, cond_false]
          split
          · rename_i c5
            rw [decide_eq_false (show ¬ n.kind = 3 by omega)] at hF hG
            split
            · rename_i c6; exact hF (by rw [decide_eq_true c6]; rfl)
            · rename_i c6; exact hG (by rw [decide_eq_false c6]; rfl)
          · rename_i c5
            exact hG (by rw [decide_eq_true (show n.kind = 3 by omega)]; rfl)
      · rename_i c2; exact hF (by rw [decide_eq_false c2]; rfl)
    · rename_i c1; exact hF (by rw [decide_eq_false c1]; rfl)
  | false =>
    have hk : ¬ (n.kind = 2 ∨ n.kind = 3) := fun e => by rw [hlf.2 e] at hv; cases hv
    rw [if_neg hk] at hF hG
    simp only [cond_false, cond_ndec, cond_dec]
    split
    · rename_i c1
      rw [decide_eq_true c1] at hF hG
      split
      · rename_i c2; exact hF (by rw [decide_eq_false (by omega)]; rfl)
      rename_i c2
      rw [decide_eq_true (show 0 ≤ n.space by omega)] at hF hG
      split
      · rename_i c3; exact hF (by rw [decide_eq_false (by omega)]; rfl)
      rename_i c3
      rw [decide_eq_true (show n.space ≤ 2 by omega)] at hF hG
      split
      · rename_i c4
        rw [decide_eq_true c4] at hF hG
        refine ⟨⟨by omega, k2⟩, ?_⟩
        split
        · rename_i c5
          rw [decide_eq_true c5] at hF hG
          refine ⟨⟨⟨k4, k5, hz2⟩, by unfold Sp.mCt; omega⟩, ?_⟩
          unfold Sp.rightP
          cases hr : Sp.riL false n.kids with
          | true => rw [hr] at hG; exact hG rfl
          | false => rw [hr] at hF; exact hF rfl
        · rename_i c5; exact hF (by rw [decide_eq_false c5]; rfl)
      · rename_i c4; exact hF (by rw [decide_eq_false c4]; rfl)
    · rename_i c1; exact hF (by rw [decide_eq_false c1]; rfl)
theorem rectoref08_Right.ok (nn : Nat) (R : Bool → Prop) (l : List Vi.Node) (h : Sp.prOk l ∧ Sp.mCt l < nn + 1) (hR : R (Sp.rightP l)) : rectoref08_Right.vc R nn l := by
  obtain ⟨⟨h1, h2, h3⟩, h5⟩ := h
  unfold Sp.mCt at h5
  unfold Sp.rightP at hR
  unfold rectoref08_Right.vc
  refine Lp_rule (fun v => ∃ (q : Nat), v = (l, l, (l.length : Int), (q : Int), ()) ∧ q ≤ l.length ∧ Sp.riL (decide (0 < q ∧ (nth l ((q : Int) - 1) (Vi.Node.mk 0 0 [] [] [] [])).kind = 2)) (l.drop q) = Sp.riL false l) (fun v => l.length - v.2.2.2.1.toNat) ?_ ⟨0, rfl, Nat.zero_le _, by rw [decide_eq_false (by omega)]; rfl⟩
  rintro _ K ⟨q, rfl, hq, he⟩ hK
  simp only [rectoref08_Right.L0]
  rw [cond_dec]
  split
  · have hq' : q < l.length := by omega
    have hm := Sp.nth_mem (d := Vi.Node.mk 0 0 [] [] [] []) hq'
    rw [drop_cons (d := Vi.Node.mk 0 0 [] [] [] []) hq', Sp.riL] at he
    have hz := Sp.szL_lt hm
    have hp := Sp.pkL_mem h2 hm
    have hnx : nth l (((q + 1 : Nat) : Int) - 1) (Vi.Node.mk 0 0 [] [] [] []) = nth l (q : Int) (Vi.Node.mk 0 0 [] [] [] []) := by rw [show ((q + 1 : Nat) : Int) - 1 = (q : Int) by omega]
    simp only [Sp.node_eta]
    have hK' (c : Sp.riL (decide ((nth l (q : Int) (Vi.Node.mk 0 0 [] [] [] [])).kind = 2)) (l.drop (q + 1)) = Sp.riL false l) : Rg .i64 ((q : Int) + 1) ∧ K (l, l, (l.length : Int), (q : Int) + 1, ()) := by
      refine ⟨by rw [rg64]; omega, hK _ ⟨q + 1, rfl, by omega, ?_⟩ (by simp only; omega)⟩
      rw [hnx]
      rw [← c]
      congr 1
      simp
    clear hK hnx
    generalize nth l (q : Int) (Vi.Node.mk 0 0 [] [] [] []) = n at *
    generalize nth l ((q : Int) - 1) (Vi.Node.mk 0 0 [] [] [] []) = m at *
    rw [Sp.szN_eq] at hz
    have rest (e : (!(decide (n.kind = 2) && decide (0 < q ∧ m.kind = 2))) = true) := right_rest R nn n (Rg .i64 ((q : Int) + 1) ∧ K (l, l, (l.length : Int), (q : Int) + 1, ())) hp (by omega) (by omega)
      (fun e2 => by rw [e, e2] at he; rw [← he] at hR; exact hR) (fun e2 => hK' (by rw [e, e2] at he; exact he))
    refine ⟨by rw [ix_iff]; omega, ?_⟩
    rw [cond_dec]
    split
    · rename_i c
      rw [cond_dec]
      split
      · rename_i c2
        refine ⟨by rw [rg64]; omega, by rw [ix_iff]; omega, ?_⟩
        rw [cond_dec]
        split
        · rename_i c3
          rw [decide_eq_true c, decide_eq_true (show 0 < q ∧ m.kind = 2 from ⟨by omega, c3⟩)] at he
          rw [← he] at hR; exact hR
        · rename_i c3
          exact rest (by rw [decide_eq_false (show ¬ (0 < q ∧ m.kind = 2) from fun e => c3 e.2), Bool.and_false]; rfl)
      · rename_i c2
        exact rest (by rw [decide_eq_false (show ¬ (0 < q ∧ m.kind = 2) from fun e => c2 (by omega)), Bool.and_false]; rfl)
    · rename_i c
      exact rest (by rw [decide_eq_false c]; rfl)
  · have : q = l.length := by omega
    subst this
    rw [List.drop_length, Sp.riL] at he
    rw [← he] at hR; exact hR
theorem rectoref08_Check.ok (R : Int → Prop) (l : List Vi.Node) (h : Sp.prOk l) (hR : R (Sp.chkP l)) : rectoref08_Check.vc R l := by
  unfold rectoref08_Check.vc
  unfold Sp.chkP at hR
  refine ⟨h, ?_⟩
  rw [cond_dec]
  split
  · rename_i c; rw [if_pos (.inl c)] at hR; exact hR
  rename_i c
  refine ⟨h, ?_⟩
  rw [cond_dec]
  split
  · rename_i c2; rw [if_pos (.inr c2)] at hR; exact hR
  rename_i c2
  rw [if_neg (fun e => e.elim c c2)] at hR
  refine ⟨h, ?_⟩
  cases hr : Sp.rightP l with
  | true => rw [hr, if_neg (by decide)] at hR; exact hR
  | false => rw [hr, if_pos rfl] at hR; exact hR
/- Unlike nodes have unlike texts. Plain theorems. -/

namespace Sp
theorem chk_right {l : List Vi.Node} (h : chkP l = 0) : rightP l = true := by
  unfold chkP at h
  split at h
  · cases h
  · split at h
    · cases h
    · rename_i c; cases e : rightP l with
      | true => rfl
      | false => exact absurd e c
end Sp