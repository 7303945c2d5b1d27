/- What was sealed is opened again: shown of the condition. Plain theorems. -/
import Derived.Test.YtpgodffogmgnhaaVcJ
import Derived.Test.YtpgodffogmgnhaaPlL
set_option linter.unnecessarySimpa false
set_option linter.unusedVariables false
set_option linter.unusedSectionVars false
set_option linter.unusedSimpArgs false
set_option autoImplicit false
open Go Vi

namespace Sp
/-- A block that has B's bytes, so far as these reach. -/
def Ag (B : Str) (i : Nat) (x : Str) : Prop := x.take (B.length - 256 * i) = (B.drop (256 * i)).take 256
theorem page_ag (B m : Str) (i : Nat) : Ag B i (pageB (B ++ m) (i : Int)) := by
  unfold Ag pageB
  rw [Int.toNat_natCast]
  by_cases c : B.length ≤ 256 * i
  · rw [show B.length - 256 * i = 0 by omega, List.drop_of_length_le c]; rfl
  · have hd : (B ++ m).drop (256 * i) = B.drop (256 * i) ++ m := by rw [List.drop_append_of_le_length (by omega)]
    rw [hd]
    have hl : (B.drop (256 * i)).length = B.length - 256 * i := List.length_drop
    by_cases c2 : 256 ≤ B.length - 256 * i
    · have e : (B.drop (256 * i) ++ m).take 256 = (B.drop (256 * i)).take 256 := List.take_append_of_le_length (by omega)
      have l2 : ((B.drop (256 * i)).take 256).length = 256 := by rw [List.length_take]; omega
      rw [e, l2]
      simp only [Nat.sub_self, List.replicate_zero, List.append_nil]
      rw [List.take_of_length_le (by omega)]
    · have h1 : ((B.drop (256 * i) ++ m).take 256 ++ List.replicate (256 - ((B.drop (256 * i) ++ m).take 256).length) 0).take (B.length - 256 * i) = B.drop (256 * i) := by
        have e : (B.drop (256 * i) ++ m).take 256 = B.drop (256 * i) ++ m.take (256 - (B.length - 256 * i)) := by
          rw [List.take_append, List.take_of_length_le (by omega), hl]
        rw [e, List.append_assoc, List.take_append_of_le_length (by omega), List.take_of_length_le (by omega)]
      rw [h1, List.take_of_length_le (by omega)]
theorem mix_ag {B : Str} {i q : Nat} {x y : Str} (hx : Ag B i x) (hy : Ag B i y) : Ag B i (x.take q ++ y.drop q) := by
  unfold Ag at *
  generalize B.length - 256 * i = r at *
  by_cases c : r ≤ (x.take q).length
  · rw [List.take_append_of_le_length c, List.take_take, show min r q = r by rw [List.length_take] at c; omega]
    exact hx
  · rw [List.take_append, List.take_of_length_le (by omega), List.length_take]
    by_cases c2 : q ≤ x.length
    · rw [show min q x.length = q by omega]
      have c3 : q < r := by rw [List.length_take] at c; omega
      have e1 : x.take q = y.take q := by
        have h1 := congrArg (List.take q) hx
        have h2 := congrArg (List.take q) hy
        rw [List.take_take, show min q r = q by omega] at h1 h2
        rw [h1, h2]
      rw [e1, ← hy]
      have := List.take_append_drop q (y.take r)
      rw [List.take_take, show min q r = q by omega, List.drop_take] at this
      exact this
    · have c3 : x.length < r := by rw [List.length_take] at c; omega
      rw [List.take_of_length_le (by omega)] at hx
      rw [show min q x.length = x.length by omega, List.take_of_length_le (l := x) (by omega)]
      have hl := congrArg List.length hx
      have hl2 := congrArg List.length hy
      rw [List.length_take] at hl2
      have : (y.drop q).take (r - x.length) = [] := by
        apply List.eq_nil_of_length_eq_zero
        rw [List.length_take, List.length_drop]; omega
      rw [this, List.append_nil]; exact hx
/-- What lasts and what waits has B's bytes. -/
def AgD (B : Str) (d : DSt) : Prop := ∀ i : Nat, i < 6 → Ag B i (nth d.bs (2 + (i : Int)) []).flatten ∧ ∀ w, w ∈ d.ws → w.1 = 2 + (i : Int) → Ag B i w.2.flatten
theorem fallF_ag {B : Str} {keep : List Int} {i : Nat} : ∀ {ws : List Wr} {k : Int} {bs : List Blk}, (∀ x, x ∈ bs → bOk x) → (∀ w, w ∈ ws → 0 ≤ w.1 ∧ w.1 < bs.length ∧ bOk w.2) → Ag B i (nth bs (2 + (i : Int)) []).flatten → (∀ w, w ∈ ws → w.1 = 2 + (i : Int) → Ag B i w.2.flatten) →
    Ag B i (nth (fallF keep k bs ws) (2 + (i : Int)) []).flatten
  | [], k, bs, _, _, h, _ => h
  | w :: l, k, bs, hb, hw, h, hwa => by
    have h0 := hw w (by simp)
    have hk := kept_range keep k
    have hbb := hb _ (nth_get (d := []) h0.1 h0.2.1)
    rw [fallF]
    refine fallF_ag (set_ok hb (cpA_ok h0.2.2 hbb hk.1 hk.2)) (fun x hx => by rw [List.length_set]; exact hw x (by simp [hx])) ?_ (fun x hx => hwa x (by simp [hx]))
    by_cases c : w.1 = 2 + (i : Int)
    · rw [← c, nth_set_eq h0.1 h0.2.1, cpA_flat h0.2.2 hbb]
      rw [← c] at h
      exact mix_ag (hwa w (by simp) c) h
    · rw [nth_set_ne (by omega) h0.1 c]; exact h
theorem flushF_ag {B : Str} {i : Nat} : ∀ {ws : List Wr} {bs : List Blk}, (∀ w, w ∈ ws → 0 ≤ w.1 ∧ w.1 < bs.length) → Ag B i (nth bs (2 + (i : Int)) []).flatten ∨ (∃ w, w ∈ ws ∧ w.1 = 2 + (i : Int)) → (∀ w, w ∈ ws → w.1 = 2 + (i : Int) → Ag B i w.2.flatten) →
    Ag B i (nth (flushF bs ws) (2 + (i : Int)) []).flatten
  | [], bs, _, h, _ => by
    rcases h with h | ⟨w, hw, _⟩
    · exact h
    · exact absurd hw List.not_mem_nil
  | w :: l, bs, hw, h, hwa => by
    have h0 := hw w (by simp)
    rw [flushF]
    refine flushF_ag (fun x hx => by rw [List.length_set]; exact hw x (by simp [hx])) ?_ (fun x hx => hwa x (by simp [hx]))
    by_cases c : w.1 = 2 + (i : Int)
    · rw [← c, nth_set_eq h0.1 h0.2]
      exact .inl (hwa w (by simp) c)
    · rw [nth_set_ne (by omega) h0.1 c]
      rcases h with h | ⟨x, hx, hx2⟩
      · exact .inl h
      · rcases List.mem_cons.1 hx with rfl | hx
        · exact absurd hx2 c
        · exact .inr ⟨x, hx, hx2⟩
/-- Up, and no arm. -/
def Idle (d : DSt) : Prop := d.down = false ∧ d.armed = false ∧ d.bs.length = 8
theorem write_idle {d : DSt} {i : Int} {s : Str} (h : Idle d) (hi : 0 ≤ i ∧ i < 8) (hs : s.length = 256) : dWrite i s d = ((d.down, d.armed, d.after, d.acut, d.keep, d.bs, d.ws ++ [(i, cutB s)]), 0) := by
  have hin : inD i d = true := in_iff.2 ⟨hi.1, by rw [h.2.2]; omega⟩
  have hg : dGoes d = (d, 0, false) := by unfold dGoes; rw [if_pos h.2.1]
  unfold dWrite
  rw [if_neg (by rw [hin, hs]; simp), if_neg (by rw [h.1]; simp), hg, if_neg (by simp)]
theorem wrF_idle {l : LSt} (hf : l.frm = 2) : ∀ (k : Nat) (i : Nat) (d : DSt), Idle d → i + k ≤ 6 → (wrF l k (i : Int) d).2 = 0 ∧ Idle (wrF l k (i : Int) d).1 ∧ (wrF l k (i : Int) d).1.bs = d.bs ∧
    (∀ w, w ∈ (wrF l k (i : Int) d).1.ws ↔ w ∈ d.ws ∨ ∃ j : Nat, i ≤ j ∧ j < i + k ∧ w = (2 + (j : Int), cutB (pageB l.b (j : Int))))
  | 0, i, d, h, _ => ⟨rfl, h, rfl, fun w => ⟨.inl, fun e => e.elim id (fun ⟨j, h1, h2, _⟩ => by omega)⟩⟩
  | k + 1, i, d, h, hk => by
    have e := write_idle (d := d) (i := l.frm + (i : Int)) (s := pageB l.b (i : Int)) h (by omega) (page_len _ _)
    have ih := wrF_idle hf k (i + 1) (d.down, d.armed, d.after, d.acut, d.keep, d.bs, d.ws ++ [(l.frm + (i : Int), cutB (pageB l.b (i : Int)))]) h (by omega)
    rw [wrF, e, if_neg (by simp)]
    rw [show ((i : Int) + 1) = ((i + 1 : Nat) : Int) by omega]
    refine ⟨ih.1, ih.2.1, ih.2.2.1, fun w => ?_⟩
    rw [ih.2.2.2 w]
    constructor
    · rintro (hw | ⟨j, h1, h2, h3⟩)
      · rcases List.mem_append.1 hw with hw | hw
        · exact .inl hw
        · rw [List.mem_singleton] at hw
          exact .inr ⟨i, Nat.le_refl _, by omega, by rw [hw, hf]⟩
      · exact .inr ⟨j, by omega, by omega, h3⟩
    · rintro (hw | ⟨j, h1, h2, h3⟩)
      · exact .inl (List.mem_append.2 (.inl hw))
      · by_cases c : j = i
        · subst c
          exact .inl (List.mem_append.2 (.inr (by rw [List.mem_singleton, h3, hf])))
        · exact .inr ⟨j, by omega, by omega, h3⟩
theorem lWrite_idle {l : LSt} {d : DSt} (hl : lOk l) (hf : l.frm = 2) (hb : l.blocks = 6) (h : Idle d) : (lWrite l d).2 = 0 ∧ Idle (lWrite l d).1 ∧ (lWrite l d).1.bs = d.bs ∧
    (∀ w, w ∈ (lWrite l d).1.ws ↔ w ∈ d.ws ∨ (l.sealed < l.b.length ∧ ∃ j : Nat, l.sealed / 256 ≤ (j : Int) ∧ (j : Int) < blocksOf l.b.length ∧ w = (2 + (j : Int), cutB (pageB l.b (j : Int))))) := by
  obtain ⟨h1, h2, h3, h4, h5, h6, h7⟩ := hl
  rw [hb] at h7
  have hbl := blocksOf_nat (n := (l.b.length : Int)) (by omega)
  unfold lWrite
  by_cases c : l.sealed < l.b.length
  · rw [if_pos c]
    obtain ⟨i0, hi0⟩ : ∃ i0 : Nat, l.sealed / 256 = i0 := ⟨(l.sealed / 256).toNat, by omega⟩
    obtain ⟨k0, hk0⟩ : ∃ k0 : Nat, (blocksOf (l.b.length : Int) - l.sealed / 256).toNat = k0 := ⟨_, rfl⟩
    have hik : (i0 : Int) + k0 = blocksOf (l.b.length : Int) := by unfold blocksOf at *; omega
    rw [hk0, hi0]
    have := wrF_idle (l := l) hf k0 i0 d h (by omega)
    refine ⟨this.1, this.2.1, this.2.2.1, fun w => ?_⟩
    rw [this.2.2.2 w]
    constructor
    · rintro (hw | ⟨j, a1, a2, a3⟩)
      · exact .inl hw
      · exact .inr ⟨c, j, by omega, by omega, a3⟩
    · rintro (hw | ⟨_, j, a1, a2, a3⟩)
      · exact .inl hw
      · exact .inr ⟨j, by omega, by omega, a3⟩
  · rw [if_neg c]
    exact ⟨rfl, h, rfl, fun w => ⟨.inl, fun e => e.elim id (fun ⟨h, _⟩ => absurd h c)⟩⟩
theorem wrF_ok {l : LSt} (h1 : 0 ≤ l.frm) (h2 : l.frm ≤ 1000) : ∀ (k : Nat) (i : Nat) {n : Nat} {d : DSt}, i + k ≤ 1000 → dOk n d → dOk (n + k) (wrF l k (i : Int) d).1
  | 0, i, n, d, _, h => h
  | k + 1, i, n, d, hk, h => by
    have hw := write_ok (i := l.frm + (i : Int)) h (by omega) (page_len l.b (i : Int))
    rw [wrF]
    split
    · exact dOk_le hw (by omega)
    · rw [show ((i : Int) + 1) = ((i + 1 : Nat) : Int) by omega]
      exact dOk_le (wrF_ok h1 h2 k (i + 1) (by omega) hw) (by omega)
theorem lWrite_ok {l : LSt} {n : Nat} {d : DSt} (hl : lOk l) (hb : l.blocks = 6) (h : dOk n d) : dOk (n + 6) (lWrite l d).1 := by
  obtain ⟨h1, h2, h3, h4, h5, h6, h7⟩ := hl
  rw [hb] at h7
  have hbl := blocksOf_nat (n := (l.b.length : Int)) (by omega)
  unfold lWrite
  split
  · obtain ⟨i0, hi0⟩ : ∃ i0 : Nat, l.sealed / 256 = i0 := ⟨(l.sealed / 256).toNat, by omega⟩
    rw [hi0]
    exact dOk_le (wrF_ok h1 h2 _ i0 (by omega) h) (by omega)
  · exact dOk_le h (by omega)
theorem rd_ag {B : Str} {d : DSt} {n : Nat} (hok : dOk n d) (hi : Idle d) (hw : d.ws = []) (ha : AgD B d) : ∀ (k i : Nat), i + k ≤ 6 → B.length ≤ 256 * (i + k) → (rdF d k (2 + (i : Int))).2 = 0 ∧ (rdF d k (2 + (i : Int))).1.take (B.length - 256 * i) = B.drop (256 * i)
  | 0, i, _, h => ⟨rfl, by rw [show B.length - 256 * i = 0 by omega, List.drop_of_length_le (by omega)]; rfl⟩
  | k + 1, i, hk, h => by
    have hin : 0 ≤ 2 + (i : Int) ∧ 2 + (i : Int) < d.bs.length := by rw [hi.2.2]; omega
    have hr : dRead (2 + (i : Int)) d = ((nth d.bs (2 + (i : Int)) []).flatten, 0) := by
      unfold dRead
      rw [if_neg (by rw [in_iff.2 hin]; simp), if_neg (by rw [hi.1]; simp), hw]; rfl
    have ih := rd_ag hok hi hw ha k (i + 1) (by omega) (by omega)
    rw [show (2 + ((i + 1 : Nat) : Int)) = 2 + (i : Int) + 1 by omega] at ih
    have hag := (ha i (by omega)).1
    have hxl : (nth d.bs (2 + (i : Int)) []).flatten.length = 256 := bOk_len (hok.2.1 _ (nth_get hin.1 hin.2))
    rw [rdF, hr]
    simp only [ih.1, ne_eq, not_true_eq_false, if_false]
    refine ⟨trivial, ?_⟩
    unfold Ag at hag
    generalize (nth d.bs (2 + (i : Int)) []).flatten = x at *
    by_cases c : B.length - 256 * i ≤ 256
    · rw [List.take_append_of_le_length (by omega), hag, List.take_of_length_le (by rw [List.length_drop]; omega)]
    · rw [List.take_append, List.take_of_length_le (by omega), hxl, show B.length - 256 * i - 256 = B.length - 256 * (i + 1) by omega, ih.2]
      rw [List.take_of_length_le (by omega)] at hag
      rw [hag, show 256 * (i + 1) = 256 * i + 256 by omega, ← List.drop_drop, List.take_append_drop]
theorem eachL_text (s t : Str) (h : (s.length : Int) ≤ 65536) : eachL (textB s ++ t) = (s, t) :: eachL t := by
  have e := takeText_textB (s := s) (by unfold maxBytes; omega) t
  have hne : textB s ++ t ≠ [] := by unfold textB plain; simp
  have := eachL_cons hne (by rw [e])
  rw [e] at this
  exact this
theorem each_cat : ∀ {l : List Str}, anyLong l = false → recsB (catB l) = l ∧ wholeB (catB l) = true
  | [], _ => ⟨rfl, rfl⟩
  | s :: l, h => by
    rw [anyLong, Bool.or_eq_false_iff] at h
    have hs := of_decide_eq_false h.1
    unfold maxBytes at hs
    have ih := each_cat h.2
    have e := eachL_text s (catB l) (by omega)
    rw [catB]
    unfold recsB wholeB at *
    rw [e]
    refine ⟨by rw [List.map_cons, ih.1], ?_⟩
    have h2 := ih.2
    unfold leftP at h2 ⊢
    cases hl : eachL (catB l) with
    | nil => rw [hl] at h2; exact h2
    | cons y r => rw [hl] at h2; rw [List.getLast?_cons_cons]; exact h2
theorem catB_append : ∀ (l : List Str) (s : Str), catB (l ++ [s]) = catB l ++ textB s
  | [], s => by simp [catB]
  | x :: l, s => by rw [List.cons_append, catB, catB, catB_append l s, List.append_assoc]
theorem anyLong_append : ∀ (l : List Str) (s : Str), anyLong l = false → (s.length : Int) ≤ 65536 → anyLong (l ++ [s]) = false
  | [], s, _, h => by rw [List.nil_append, anyLong, anyLong, Bool.or_false]; exact decide_eq_false (by unfold maxBytes; omega)
  | x :: l, s, hl, h => by
    rw [anyLong, Bool.or_eq_false_iff] at hl
    rw [List.cons_append, anyLong, Bool.or_eq_false_iff]
    exact ⟨hl.1, anyLong_append l s hl.2 h⟩
theorem add_cases (s : Str) (l : LSt) : ((lAdd s l).2 = 0 ∧ (s.length : Int) ≤ 65536 ∧ (lAdd s l).1 = (l.frm, l.blocks, l.b ++ textB s, l.sealed)) ∨ ((lAdd s l).2 ≠ 0 ∧ (lAdd s l).1 = l) := by
  unfold lAdd
  by_cases c : (textP s).2 = 0
  · rw [if_neg (fun q => q c)]
    obtain ⟨h1, h2⟩ := textP_len c
    by_cases c2 : lRoom l < ((textP s).1.length : Int)
    · rw [if_pos c2]; exact .inr ⟨by simp, rfl⟩
    · rw [if_neg c2]; exact .inl ⟨rfl, h1, by rw [h2]; rfl⟩
  · rw [if_pos c]; exact .inr ⟨c, rfl⟩
theorem add_keeps (s : Str) {l : LSt} {B : Str} (hf : l.frm = 2) (hb : l.blocks = 6) (hs : l.sealed = B.length) (hm : ∃ m, l.b = B ++ m) :
    (lAdd s l).1.frm = 2 ∧ (lAdd s l).1.blocks = 6 ∧ (lAdd s l).1.sealed = B.length ∧ ∃ m, (lAdd s l).1.b = B ++ m := by
  rcases add_cases s l with ⟨_, _, e⟩ | ⟨_, e⟩
  · rw [e]
    obtain ⟨m, hm⟩ := hm
    exact ⟨hf, hb, hs, m ++ textB s, by show l.b ++ textB s = _; rw [hm, List.append_assoc]⟩
  · rw [e]; exact ⟨hf, hb, hs, hm⟩
theorem write_ag {B : Str} {l : LSt} {d : DSt} (hl : lOk l) (hf : l.frm = 2) (hb : l.blocks = 6) (hm : ∃ m, l.b = B ++ m) (hi : Idle d) (h : AgD B d) : AgD B (lWrite l d).1 := by
  obtain ⟨m, hm⟩ := hm
  have hw := lWrite_idle hl hf hb hi
  intro i hi6
  refine ⟨by rw [hw.2.2.1]; exact (h i hi6).1, fun w hw1 hw2 => ?_⟩
  rcases (hw.2.2.2 w).1 hw1 with h1 | ⟨_, j, _, _, h3⟩
  · exact (h i hi6).2 w h1 hw2
  · rw [h3] at hw2 ⊢
    have : j = i := by have : (2 + (j : Int)) = 2 + (i : Int) := hw2; omega
    subst this
    show Ag B j (cutB _).flatten
    rw [cut_flat (page_len _ _), hm]
    exact page_ag B m j
theorem flush_idle {d : DSt} (h : Idle d) : dFlush d = ((d.down, d.armed, d.after, d.acut, d.keep, flushF d.bs d.ws, []), 0) := by
  have hg : dGoes d = (d, 0, false) := by unfold dGoes; rw [if_pos h.2.1]
  unfold dFlush
  rw [if_neg (by rw [h.1]; simp), hg]; rfl
theorem first_ag {B : Str} {l : LSt} {n : Nat} {d : DSt} (hl : lOk l) (hf : l.frm = 2) (hb : l.blocks = 6) (hB : l.b = B) (hs : l.sealed = 0) (hi : Idle d) (hw : d.ws = []) (hd : dOk n d) :
    (lWrite l d).2 = 0 ∧ (dFlush (lWrite l d).1).2 = 0 ∧ Idle (dFlush (lWrite l d).1).1 ∧ AgD B (dFlush (lWrite l d).1).1 ∧ dOk (n + 6) (lWrite l d).1 := by
  have hok := lWrite_ok hl hb hd
  obtain ⟨w1, w2, w3, w4⟩ := lWrite_idle hl hf hb hi
  rw [flush_idle w2]
  have hin : ∀ w, w ∈ (lWrite l d).1.ws → 0 ≤ w.1 ∧ w.1 < (lWrite l d).1.bs.length := fun w hw => ⟨(hok.2.2.2.1 w hw).1, (hok.2.2.2.1 w hw).2.1⟩
  have hag : ∀ i : Nat, ∀ w, w ∈ (lWrite l d).1.ws → w.1 = 2 + (i : Int) → Ag B i w.2.flatten := by
    intro i w hw1 hw2
    rcases (w4 w).1 hw1 with h1 | ⟨_, j, _, _, h3⟩
    · rw [hw] at h1; exact absurd h1 List.not_mem_nil
    · rw [h3] at hw2 ⊢
      have : j = i := by have : (2 + (j : Int)) = 2 + (i : Int) := hw2; omega
      subst this
      show Ag B j (cutB _).flatten
      rw [cut_flat (page_len _ _), hB]
      have := page_ag B [] j
      rw [List.append_nil] at this
      exact this
  refine ⟨w1, rfl, ⟨w2.1, w2.2.1, ?_⟩, fun i hi6 => ⟨?_, fun w hw => absurd hw List.not_mem_nil⟩, hok⟩
  · show (flushF _ _).length = 8
    rw [(flushF_ok hok.2.1 (fun w hw => (hok.2.2.2.1 w hw).2.2)).1]
    exact w2.2.2
  · show Ag B i (nth (flushF _ _) _ []).flatten
    refine flushF_ag hin ?_ (hag i)
    by_cases c : B.length ≤ 256 * i
    · left
      unfold Ag
      rw [show B.length - 256 * i = 0 by omega, List.drop_of_length_le c]; rfl
    · right
      have hbl := blocksOf_nat (n := (B.length : Int)) (by omega)
      exact ⟨_, (w4 _).2 (.inr ⟨by rw [hs, hB]; omega, i, by rw [hs]; omega, by rw [hB]; omega, rfl⟩), rfl⟩
theorem last_ag {B : Str} {n : Nat} {A : List Int} {d : DSt} {put : List Str} (hi : Idle d) (hd : dOk n d) (ha : AgD B d) (hB : B = catB put) (hal : anyLong put = false) (hl : B.length ≤ 1536) :
    (dCrash A d).2 = 0 ∧ (dStart (dCrash A d).1).2 = 0 ∧ opErr 2 6 B.length (dStart (dCrash A d).1).1 = 0 ∧ opS 2 B.length (dStart (dCrash A d).1).1 = B ∧ recsB B = put := by
  have e1 : dCrash A d = (dFall A d, 0) := by unfold dCrash; rw [if_neg (by rw [hi.1]; simp)]
  have e2 : dStart (dFall A d) = ((false, false, d.after, d.acut, d.keep, fallF A 0 d.bs d.ws, []), 0) := rfl
  rw [e1]
  show (0 : Int) = 0 ∧ (dStart (dFall A d)).2 = 0 ∧ opErr 2 6 B.length (dStart (dFall A d)).1 = 0 ∧ opS 2 B.length (dStart (dFall A d)).1 = B ∧ _
  rw [e2]
  have hf := fallF_ok (keep := A) (k := 0) hd.2.1 hd.2.2.2.1
  have hok : dOk n (false, false, d.after, d.acut, d.keep, fallF A 0 d.bs d.ws, []) := start_ok (dFall_ok (keep := A) hd)
  have hi' : Idle (false, false, d.after, d.acut, d.keep, fallF A 0 d.bs d.ws, []) := ⟨rfl, rfl, by show (fallF _ _ _ _).length = 8; rw [hf.1]; exact hi.2.2⟩
  have ha' : AgD B (false, false, d.after, d.acut, d.keep, fallF A 0 d.bs d.ws, []) := fun i h6 => ⟨fallF_ag hd.2.1 hd.2.2.2.1 (ha i h6).1 (ha i h6).2, fun w hw => absurd hw List.not_mem_nil⟩
  have hbl := blocksOf_nat (n := (B.length : Int)) (by omega)
  have hr := rd_ag hok hi' rfl ha' (blocksOf (B.length : Int)).toNat 0 (by omega) (by omega)
  generalize ((false, false, d.after, d.acut, d.keep, fallF A 0 d.bs d.ws, []) : DSt) = d' at *
  have hrd : (opRd 2 B.length d').2 = 0 ∧ (opRd 2 B.length d').1.take B.length = B := by
    unfold opRd
    exact ⟨hr.1, hr.2⟩
  have hS : opS 2 B.length d' = B := by unfold opS; rw [Int.toNat_natCast]; exact hrd.2
  have hc := each_cat hal
  rw [← hB] at hc
  refine ⟨rfl, rfl, ?_, hS, hc.1⟩
  have hbad : opBad 2 6 B.length d' = false := by
    unfold opBad
    have := hi'.2.2
    exact decide_eq_false (by rw [this]; omega)
  unfold opErr
  rw [hbad, if_neg (by simp), if_neg (fun q => q hrd.1), Int.toNat_natCast, hrd.2, hc.2, if_neg (by simp)]
theorem new_idle : Idle (dNew 8) := ⟨rfl, rfl, by show (List.replicate _ zeroB).length = 8; rw [List.length_replicate]; rfl⟩
end Sp

theorem rectolaw29_LogLasts_L1 (R : Bool → Prop) (A : List Int) (hA : A.length ≤ 40) (put o : List Str) (ho : o.length ≤ 30) (B : Str) (hB : B = Sp.catB put) (hal : Sp.anyLong put = false) (hput : put.length ≤ 30) (n : Nat) (hn : n ≤ 1000)
    (d0 : Sp.DSt) (l0 : Sp.LSt) (hd0 : Sp.dOk n d0) (hi0 : Sp.Idle d0) (ha0 : Sp.AgD B d0) (hl0 : Sp.lOk l0) (hk0 : l0.frm = 2 ∧ l0.blocks = 6 ∧ l0.sealed = B.length ∧ ∃ m, l0.b = B ++ m) (hR : R Sp.tt) :
    Lp (fun v K => rectolaw29_LogLasts.L1 R v.1 v.2.1 v.2.2.1 v.2.2.2.1 v.2.2.2.2.1 v.2.2.2.2.2.1 v.2.2.2.2.2.2.1 v.2.2.2.2.2.2.2.1 v.2.2.2.2.2.2.2.2.1 v.2.2.2.2.2.2.2.2.2.1 v.2.2.2.2.2.2.2.2.2.2.1 v.2.2.2.2.2.2.2.2.2.2.2.1 v.2.2.2.2.2.2.2.2.2.2.2.2.1 v.2.2.2.2.2.2.2.2.2.2.2.2.2.1 v.2.2.2.2.2.2.2.2.2.2.2.2.2.2.1 v.2.2.2.2.2.2.2.2.2.2.2.2.2.2.2.1 v.2.2.2.2.2.2.2.2.2.2.2.2.2.2.2.2.1 K)
      (A, (B.length : Int), o, (o.length : Int), 0, Sp.q7 d0 (l0.1, l0.2.1, l0.2.2.1, l0.2.2.2, put, ())) := by
  refine Lp_rule (fun v => ∃ (p : Nat) (d : Sp.DSt) (l : Sp.LSt), v = (A, (B.length : Int), o, (o.length : Int), (p : Int), Sp.q7 d (l.1, l.2.1, l.2.2.1, l.2.2.2, put, ())) ∧ p ≤ o.length ∧ Sp.dOk (n + 6 * p) d ∧ Sp.Idle d ∧ Sp.AgD B d ∧ Sp.lOk l ∧ l.frm = 2 ∧ l.blocks = 6 ∧ l.sealed = B.length ∧ ∃ m, l.b = B ++ m) (fun v => o.length - v.2.2.2.2.1.toNat) ?_
    ⟨0, d0, l0, rfl, Nat.zero_le _, hd0, hi0, ha0, hl0, hk0⟩
  rintro _ K ⟨p, d, l, rfl, hp, hd, hi, ha, hl, hf, hb, hs, hm⟩ hK
  show rectolaw29_LogLasts.L1 R A (B.length : Int) o (o.length : Int) (p : Int) d.1 d.2.1 d.2.2.1 d.2.2.2.1 d.2.2.2.2.1 d.2.2.2.2.2.1 d.2.2.2.2.2.2 l.1 l.2.1 l.2.2.1 l.2.2.2 put K
  unfold rectolaw29_LogLasts.L1
  simp only [Sp.mk_eta]
  rw [cond_dec]
  split
  · rename_i c4
    refine ⟨⟨by omega, by omega⟩, ?_⟩
    generalize nth o (p : Int) [] = s
    rw [cond_dec]
    split
    · exact hR
    rename_i c5
    have hok := Sp.lAdd_ok (s := s) hl
    obtain ⟨k1, k2, k3, k4⟩ := Sp.add_keeps s hf hb hs hm
    generalize (Sp.lAdd s l).1 = l' at *
    have hwi := Sp.lWrite_idle hok k1 k2 hi
    have hwo := Sp.lWrite_ok hok k2 hd
    have hwa := Sp.write_ag hok k1 k2 k4 hi ha
    refine ⟨hl, ⟨hok, Sp.dOk_le hd (by omega)⟩, ?_⟩
    rw [hwi.1]
    simp only [decide_true, Bool.not_true, cond_false]
    exact ⟨by rw [rg64]; omega, hK _ ⟨p + 1, _, l', rfl, by omega, Sp.dOk_le hwo (by omega), hwi.2.1, hwa, hok, k1, k2, k3, k4⟩ (by simp; omega)⟩
  · have hbl : B.length ≤ 1536 := by
      have h7 := hl.2.2.2.2.2.2
      have h6 := hl.2.2.2.2.2.1
      rw [hb] at h7
      omega
    obtain ⟨e1, e2, e3, e4, e5⟩ := Sp.last_ag (A := A) hi hd ha hB hal hbl
    have hdc := Sp.crash_ok A hd
    have hds := Sp.start_ok hdc
    refine ⟨⟨Sp.dOk_le hd (by omega), by omega⟩, ?_⟩
    rw [e1]
    simp only [decide_true, Bool.not_true, cond_false]
    refine ⟨Sp.dOk_le hdc (by omega), ?_⟩
    rw [e2]
    simp only [decide_true, Bool.not_true, cond_false]
    refine ⟨Sp.dOk_le hds (by omega), ?_⟩
    have en : Sp.opNil 2 6 (B.length : Int) (Sp.dStart (Sp.dCrash A d).1).1 = false := by unfold Sp.opNil; rw [e3]; rfl
    rw [en, e4, cond_false]
    have er : Sp.lRecs (2, 6, B, (B.length : Int)) = put := e5
    have hlast : Sp.lOk (2, 6, B, (B.length : Int)) := ⟨by show (0 : Int) ≤ 2; omega, by show (2 : Int) ≤ 1000; omega, by show (1 : Int) ≤ 6; omega, by show (6 : Int) ≤ 1000; omega, by show (0 : Int) ≤ B.length; omega, Int.le_refl _, by show (B.length : Int) ≤ 256 * 6; omega⟩
    rw [er]
    refine ⟨hlast, by unfold Sp.eqL.pre; omega, ?_⟩
    rw [show Sp.eqL put put = true from decide_eq_true rfl, show Sp.lSealed (2, 6, B, (B.length : Int)) = B.length from rfl, show Sp.lBytes (2, 6, B, (B.length : Int)) = B.length from rfl]
    simp only [decide_true, cond_true]
    exact hR

theorem rectolaw29_LogLasts.ok (R : Bool → Prop) (t o : List Str) (A : List Int) (h : Sz (.sl .str) t ∧ Sz (.sl .str) o ∧ Sz (.sl (.int .i64)) A) (hR : R Sp.tt) : rectolaw29_LogLasts.vc R t o A := by
  unfold rectolaw29_LogLasts.vc
  rw [cond_dec]
  split
  · exact hR
  rw [cond_dec]
  split
  · exact hR
  rw [cond_dec]
  split
  · exact hR
  rename_i c1 c2 c3
  have h0 : Sp.dOk 0 (Sp.dNew 8) := Sp.new_ok (by omega)
  have hi := Sp.new_idle
  have hw : (Sp.dNew 8).ws = [] := rfl
  refine ⟨Sp.dOk_le h0 (by omega), ?_⟩
  rw [show ((false, false, (Sp.dNew 8).2.2.1, false, (Sp.dNew 8).2.2.2.2) : Sp.DSt) = Sp.dNew 8 from rfl]
  have hS : Sp.opS 2 0 (Sp.dNew 8) = [] := by unfold Sp.opS; rfl
  rw [hS]
  show Lp _ (o, A, t, (t.length : Int), 0, Sp.q7 (Sp.dNew 8) (2, 6, [], 0, [], ()))
  generalize Sp.dNew 8 = d at *
  refine Lp_rule (fun v => ∃ (p : Nat) (put : List Str), v = (o, A, t, (t.length : Int), (p : Int), Sp.q7 d (2, 6, Sp.catB put, 0, put, ())) ∧ p ≤ t.length ∧ put.length ≤ p ∧ Sp.anyLong put = false ∧ (Sp.catB put).length ≤ 1536) (fun v => t.length - v.2.2.2.2.1.toNat) ?_
    ⟨0, [], rfl, Nat.zero_le _, Nat.le_refl _, rfl, Nat.zero_le _⟩
  rintro _ K ⟨p, put, rfl, hp, hpl, hal, hbl⟩ hK
  have hl : Sp.lOk (2, 6, Sp.catB put, 0) := ⟨by show (0 : Int) ≤ 2; omega, by show (2 : Int) ≤ 1000; omega, by show (1 : Int) ≤ 6; omega, by show (6 : Int) ≤ 1000; omega, Int.le_refl _, by show (0 : Int) ≤ ((Sp.catB put).length : Int); omega, by show ((Sp.catB put).length : Int) ≤ 256 * 6; omega⟩
  show rectolaw29_LogLasts.L0 R o A t (t.length : Int) (p : Int) d.1 d.2.1 d.2.2.1 d.2.2.2.1 d.2.2.2.2.1 d.2.2.2.2.2.1 d.2.2.2.2.2.2 2 6 (Sp.catB put) 0 put K
  unfold rectolaw29_LogLasts.L0
  simp only [Sp.mk_eta]
  rw [cond_dec]
  split
  · rename_i c4
    refine ⟨⟨by omega, by omega⟩, ?_⟩
    generalize nth t (p : Int) [] = s
    rw [cond_dec]
    split
    · exact hR
    refine ⟨hl, ?_⟩
    rw [cond_dec]
    have hok := Sp.lAdd_ok (s := s) hl
    rcases Sp.add_cases s (2, 6, Sp.catB put, 0) with ⟨a1, a2, a3⟩ | ⟨a1, a3⟩
    · rw [if_pos a1]
      have hc := Sp.catB_append put s
      have a4 : (Sp.lAdd s (2, 6, Sp.catB put, 0)).1 = (2, 6, Sp.catB (put ++ [s]), 0) := by rw [a3, hc]
      rw [a4] at hok ⊢
      have h7 : ((Sp.catB (put ++ [s])).length : Int) ≤ 256 * 6 := hok.2.2.2.2.2.2
      exact ⟨by rw [gr_iff]; omega, by rw [rg64]; omega, hK _ ⟨p + 1, put ++ [s], rfl, by omega, by rw [List.length_append, List.length_singleton]; omega, Sp.anyLong_append put s hal a2, by omega⟩ (by simp; omega)⟩
    · rw [if_neg a1, a3]
      exact ⟨by rw [rg64]; omega, hK _ ⟨p + 1, put, rfl, by omega, by omega, hal, hbl⟩ (by simp; omega)⟩
  · obtain ⟨w1, w2, w3, w4, w5⟩ := Sp.first_ag (B := Sp.catB put) hl rfl rfl rfl rfl hi hw h0
    have w6 := Sp.flush_ok w5
    refine ⟨⟨hl, Sp.dOk_le h0 (by omega)⟩, ?_⟩
    rw [w1]
    simp only [decide_true, Bool.not_true, cond_false]
    refine ⟨Sp.dOk_le w5 (by omega), ?_⟩
    rw [w2]
    simp only [decide_true, Bool.not_true, cond_false]
    have hl2 : Sp.lOk (Sp.lSeal (2, 6, Sp.catB put, 0)) := ⟨by show (0 : Int) ≤ 2; omega, by show (2 : Int) ≤ 1000; omega, by show (1 : Int) ≤ 6; omega, by show (6 : Int) ≤ 1000; omega, by show (0 : Int) ≤ ((Sp.catB put).length : Int); omega, Int.le_refl _, by show ((Sp.catB put).length : Int) ≤ 256 * 6; omega⟩
    exact rectolaw29_LogLasts_L1 R A (by omega) put o (by omega) (Sp.catB put) rfl hal (by omega) (0 + 6) (by omega) _ (Sp.lSeal (2, 6, Sp.catB put, 0)) w6 w3 w4 hl2 ⟨rfl, rfl, rfl, [], by rw [List.append_nil]; rfl⟩ hR
