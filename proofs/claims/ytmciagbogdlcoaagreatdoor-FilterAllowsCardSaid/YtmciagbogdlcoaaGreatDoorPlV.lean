/- What may stand of nodes: what is told, shown of the conditions: characters. Plain theorems. -/
import Derived.Test.YtmciagbogdlcoaaGreatDoorVcV
import Derived.Test.YtmciagbogdlcoaaGreatDoorPlK
set_option linter.unnecessarySimpa false
set_option linter.unusedVariables false
set_option linter.unusedSectionVars false
set_option linter.unusedSimpArgs false
set_option autoImplicit false
open Go Vi

namespace Sp
theorem and192 : ∀ b : Fin 256, (bitsO .and .u8 ((b.val : Nat) : Int) 192 = 128) ↔ (128 ≤ b.val ∧ b.val < 192) := by decide +kernel
theorem and63b : ∀ b : Fin 256, bitsO .and .u8 ((b.val : Nat) : Int) 63 = ((b.val % 64 : Nat) : Int) := by decide +kernel
theorem u192 (b : UInt8) : (bitsO .and .u8 (b.toNat : Int) 192 = 128) ↔ contB b = true := by
  have := and192 ⟨b.toNat, b.toNat_lt⟩
  unfold contB
  rw [decide_eq_true_iff]
  exact this
theorem u63 (b : UInt8) : bitsO .and .u8 (b.toNat : Int) 63 = (b.toNat : Int) % 64 := by
  have := and63b ⟨b.toNat, b.toNat_lt⟩
  rw [this]
  simp
theorem add_or {c : Int} {b : UInt8} (h0 : 0 ≤ c) (h1 : c < 8388608) : bitsO .or .i64 (c * 2 ^ 6) (bitsO .and .u8 (b.toNat : Int) 63) = addC c b := by
  rw [u63]
  obtain ⟨n, rfl⟩ : ∃ n : Nat, c = n := ⟨c.toNat, by omega⟩
  have := or_add (a := n) (j := 6) (x := b.toNat % 64) (by omega) (by omega)
  rw [show ((n : Int) * 2 ^ 6) = ((2 ^ 6 * n : Nat) : Int) by simp [Int.mul_comm], show ((b.toNat : Int) % 64) = ((b.toNat % 64 : Nat) : Int) by omega, this]
  unfold addC
  omega
theorem rows_head {n : Int} (h : 1 ≤ n ∧ n ≤ 4) : (nth utfRows n (0, 0)).1 = headN n ∧ (nth utfRows n (0, 0)).2 = leastN n := by
  have : n = 1 ∨ n = 2 ∨ n = 3 ∨ n = 4 := by omega
  rcases this with rfl | rfl | rfl | rfl <;> exact ⟨rfl, rfl⟩
theorem long_rg (b : Int) : 0 ≤ longB b ∧ longB b ≤ 4 := by
  unfold longB
  (repeat' split) <;> omega
theorem head_rg {b : Int} (h0 : 0 ≤ b) (h1 : b < 256) (hn : longB b ≠ 0) : 0 ≤ b - headN (longB b) ∧ b - headN (longB b) < 128 ∧ (longB b ≠ 1 → b - headN (longB b) < 32) := by
  unfold longB at *
  unfold headN
  (repeat' split) <;> (first | omega | (exfalso; simp_all; done) | (simp_all; omega))
end Sp
theorem utf_long.ok (R : Int → Prop) (b : Int) (hR : R (Sp.longB b)) : utf_long.vc R b := by
  unfold utf_long.vc
  unfold Sp.longB at hR
  simp only [cond_dec]
  split
  · rename_i c; rwa [if_pos c] at hR
  rename_i c1
  rw [if_neg c1] at hR
  split
  · rename_i c; rwa [if_pos (.inl c)] at hR
  rename_i c2
  split
  · rename_i c; rwa [if_pos (.inr c)] at hR
  rename_i c3
  rw [if_neg (fun e => e.elim c2 c3)] at hR
  split
  · rename_i c; rwa [if_pos c] at hR
  rename_i c4
  rw [if_neg c4] at hR
  split
  · rename_i c; rwa [if_pos c] at hR
  · rename_i c; rwa [if_neg c] at hR
set_option maxRecDepth 20000 in
theorem utf_First.ok (R : Int → Int → Prop) (s : Str) (h : Sp.firstC.pre s) (hR : R (Sp.firstC s).1 (Sp.firstC s).2) : utf_First.vc R s := by
  unfold Sp.firstC.pre at h
  unfold utf_First.vc
  cases s with
  | nil => exact hR
  | cons b t =>
  have hR : R (Sp.fcT b t).1 (Sp.fcT b t).2 := hR
  have hb := b.toNat_lt
  rw [show nth (b :: t) 0 0 = b from rfl]
  have hne : ¬ (b :: t = []) := by simp
  rw [cond_dec, if_neg hne]
  unfold Sp.fcT at hR
  have hl := Sp.long_rg (b.toNat : Int)
  have hh := @Sp.head_rg (b.toNat : Int) (by omega) (by omega)
  simp only [List.length_cons] at h ⊢
  refine ⟨by rw [ix_iff]; omega, ?_⟩
  rw [cond_dec]
  split
  · rename_i c; rw [if_pos (.inl c)] at hR; exact hR
  rename_i c1
  rw [cond_dec]
  split
  · rename_i c; rw [if_pos (.inr (by omega))] at hR; exact hR
  rename_i c2
  rw [if_neg (by omega)] at hR
  obtain ⟨g1, g2, g3⟩ := hh c1
  have hrow := Sp.rows_head (n := Sp.longB (b.toNat : Int)) (by omega)
  rw [hrow.1]
  refine ⟨by rw [ix_iff]; omega, by rw [ix_iff]; omega, by rw [rg64]; omega, ?_⟩
  generalize (b.toNat : Int) - Sp.headN (Sp.longB (b.toNat : Int)) = c0 at *
  generalize hn : Sp.longB (b.toNat : Int) = n at *
  have fin (c : Int) (hc : (t.take (n - 1).toNat).foldl Sp.addC c0 = c) (ha : ((t.take (n - 1).toNat).any fun x => !Sp.contB x) = false) :
      bif !Sp.isC c then R 65533 1 else Ix n 5 ∧ bif decide (c < (nth utfRows n (0, 0)).snd) then R 65533 1 else R c n := by
    rw [ha, if_neg (by decide), hc] at hR
    rw [hrow.2]
    cases hi : Sp.isC c with
    | false => rw [hi, if_pos (.inl rfl)] at hR; exact hR
    | true =>
      rw [hi] at hR
      refine ⟨by rw [ix_iff]; omega, ?_⟩
      rw [cond_dec]
      split
      · rename_i c3; rw [if_pos (.inr c3)] at hR; exact hR
      · rename_i c3; rw [if_neg (fun e => e.elim (by decide) c3)] at hR; exact hR
  refine Lp_rule (fun v => ∃ (i : Nat) (c : Int), v = (b :: t, n, c, (i : Int), ()) ∧ 1 ≤ i ∧ (i : Int) ≤ n ∧ 0 ≤ c ∧ (n = 1 ∨ c < 32 ∨ 1 < i) ∧ (n = 1 ∨ c < 2048 ∨ 2 < i) ∧ (n = 1 ∨ c < 131072 ∨ 3 < i) ∧ (n = 1 ∨ c < 8388608) ∧
      (t.take (i - 1)).foldl Sp.addC c0 = c ∧ ((t.take (i - 1)).any fun x => !Sp.contB x) = false) (fun v => (n - v.2.2.2.1).toNat) ?_ ⟨1, c0, rfl, by omega, by omega, by omega, by omega, by omega, by omega, by omega, rfl, rfl⟩
  rintro _ K ⟨i, c, rfl, h1, h2, h3, h4, h5, h6, h7, h8, h9⟩ hK
  simp only [utf_First.L0]
  rw [cond_dec]
  split
  · rename_i ci
    have hit : i - 1 < t.length := by omega
    have hnx : nth (b :: t) (i : Int) 0 = nth t ((i - 1 : Nat) : Int) 0 := by
      obtain ⟨m, rfl⟩ : ∃ m, i = m + 1 := ⟨i - 1, by omega⟩
      rfl
    have htk := take_succ (d := (0 : UInt8)) hit
    rw [hnx]
    generalize nth t ((i - 1 : Nat) : Int) 0 = x at *
    refine ⟨by rw [ix_iff, List.length_cons]; omega, ?_⟩
    rw [cond_ndec]
    split
    · rename_i cx
      have hcx := (Sp.u192 x).1 cx
      refine ⟨⟨by decide, by decide⟩, by rw [rg64, show (2 : Int) ^ 6 = 64 from rfl]; omega, by rw [ix_iff, List.length_cons]; omega, by rw [rg64]; omega, ?_⟩
      rw [Sp.add_or h3 (by omega)]
      have hx64 : 0 ≤ (x.toNat : Int) % 64 ∧ (x.toNat : Int) % 64 < 64 := by omega
      refine hK _ ⟨i + 1, Sp.addC c x, rfl, by omega, by omega, by unfold Sp.addC; omega, by omega, by unfold Sp.addC; omega, by unfold Sp.addC; omega, by unfold Sp.addC; omega, ?_, ?_⟩ (by simp only; omega)
      · rw [show i + 1 - 1 = (i - 1) + 1 by omega, htk, List.foldl_append, h8]; rfl
      · rw [show i + 1 - 1 = (i - 1) + 1 by omega, htk, List.any_append, h9]
        simp [hcx]
    · rename_i cx
      have hcx : Sp.contB x = false := by
        cases e : Sp.contB x with
        | false => rfl
        | true => exact absurd ((Sp.u192 x).2 e) cx
      have : ((t.take (n - 1).toNat).any fun x => !Sp.contB x) = true := by
        rw [List.any_eq_true]
        refine ⟨x, ?_, by rw [hcx]; rfl⟩
        have hsub : t.take (i - 1 + 1) = (t.take (n - 1).toNat).take (i - 1 + 1) := by rw [List.take_take, Nat.min_eq_left (by omega)]
        have hm : x ∈ t.take (i - 1 + 1) := by rw [htk]; simp
        rw [hsub] at hm
        exact List.mem_of_mem_take hm
      rw [this, if_pos rfl] at hR
      exact hR
  · rename_i ci
    have e : (n - 1).toNat = i - 1 := by omega
    exact fin c (by rw [e]; exact h8) (by rw [e]; exact h9)
namespace Sp
theorem first_rg (b : UInt8) (t : Str) : 1 ≤ (firstC (b :: t)).2 ∧ (firstC (b :: t)).2 ≤ (t.length : Int) + 1 := by
  show 1 ≤ (fcT b t).2 ∧ (fcT b t).2 ≤ (t.length : Int) + 1
  have := long_rg (b.toNat : Int)
  unfold fcT
  split
  · exact ⟨Int.le_refl _, by simp only; omega⟩
  split
  · exact ⟨Int.le_refl _, by simp only; omega⟩
  split
  · exact ⟨Int.le_refl _, by simp only; omega⟩
  · simp only; omega
end Sp
theorem utf_Clean.ok (R : List UInt8 → Prop) (s : Str) (h : Sp.cleanS.pre s) (hR : R (Sp.cleanS s)) : utf_Clean.vc R s := by
  unfold Sp.cleanS.pre at h
  unfold utf_Clean.vc
  refine Lp_rule (fun v => ∃ (k : Nat) (y x : Str), v = (y, Sp.wr [] x, ()) ∧ y.length ≤ k ∧ y.length ≤ s.length ∧ x.length + 4 * y.length ≤ 4 * s.length ∧ x ++ Sp.cleanF k y = Sp.cleanS s) (fun v => v.1.length) ?_ ⟨s.length, s, [], rfl, Nat.le_refl _, Nat.le_refl _, by simp, rfl⟩
  rintro _ K ⟨k, y, x, rfl, hk, hy, hx, he⟩ hK
  simp only [utf_Clean.L0]
  rw [cond_ndec]
  split
  · rename_i c
    have c : y = [] := c
    subst c
    have : Sp.cleanF k [] = [] := by cases k <;> rfl
    rw [this, List.append_nil] at he
    rw [Sp.wr_zero, Sp.bytesOf_ints, he]; exact hR
  · rename_i c
    cases y with
    | nil => exact absurd rfl c
    | cons b t =>
      obtain ⟨g1, g2⟩ := Sp.first_rg b t
      have hl := Sp.bytesC_len (Sp.firstC (b :: t)).1
      obtain ⟨m, rfl⟩ : ∃ m, k = m + 1 := ⟨k - 1, by simp only [List.length_cons] at hk; omega⟩
      rw [Sp.cleanF, if_neg (by simp)] at he
      have hsub : sub (b :: t) (Sp.firstC (b :: t)).2 (((b :: t).length : Nat) : Int) = (b :: t).drop (Sp.firstC (b :: t)).2.toNat := by
        unfold sub
        rw [Int.toNat_natCast, List.take_length]
      have hdl : ((b :: t).drop (Sp.firstC (b :: t)).2.toNat).length = t.length + 1 - (Sp.firstC (b :: t)).2.toNat := by rw [List.length_drop, List.length_cons]
      simp only [List.length_cons] at hk hy hx
      refine ⟨by unfold Sp.firstC.pre; simp only [List.length_cons]; omega, by unfold Sp.wr.pre; rw [Sp.wr_len]; simp only [List.length_nil]; omega, by rw [sb_iff]; simp only [List.length_cons]; omega, ?_⟩
      rw [hsub, Sp.wr_wr]
      exact hK _ ⟨m, _, _, rfl, by omega, by omega, by rw [List.length_append]; omega, by rw [List.append_assoc]; exact he⟩ (by simp only [List.length_cons]; omega)
namespace Sp
theorem bytes65533 : bytesC 65533 = [239, 191, 189] := by decide
theorem made_eq (s : Str) : madeS s = cleanS (rep1 0 [239, 191, 189] (rep1 13 [10] s)) := by
  unfold madeS
  rw [bytes65533, repA_one (by decide), repA_one (by decide)]
end Sp
theorem filter_made.ok (R : List UInt8 → Prop) (s : Str) (h : Sp.madeS.pre s) (hR : R (Sp.madeS s)) : filter_made.vc R s := by
  unfold Sp.madeS.pre at h
  unfold filter_made.vc
  have l1 := Sp.rep1_len (c := 13) (new := [10]) (k := 1) (by decide) (by decide) s
  have l2 := Sp.rep1_len (c := 0) (new := [239, 191, 189]) (k := 3) (by decide) (by decide) (Sp.rep1 13 [10] s)
  rw [Sp.made_eq] at hR
  rw [Sp.bytes65533, Sp.repA_one (by decide), Sp.repA_one (by decide)]
  exact ⟨⟨by omega, by decide, by decide⟩, ⟨by omega, by decide, by decide⟩, by unfold Sp.cleanS.pre; omega, hR⟩

namespace Sp
/-! ### Texts that are right -/
theorem b8_nat {x : Int} (h0 : 0 ≤ x) (h1 : x < 256) : (b8 x).toNat = x.toNat := by
  unfold b8
  rw [UInt8.toNat_ofNat']
  omega
def okC (c : Int) : Prop := isC c = true ∧ c ≠ 0 ∧ c ≠ 13
/-- A text of characters, none of them 0 or a carriage return. -/
def okT (x : Str) : Prop := ∃ cs : List Int, (∀ c, c ∈ cs → okC c) ∧ x = cs.flatMap encC
theorem okT_nil : okT [] := ⟨[], fun _ h => (by cases h), rfl⟩
theorem okT_app {x y : Str} (hx : okT x) (hy : okT y) : okT (x ++ y) := by
  obtain ⟨cs, h1, rfl⟩ := hx
  obtain ⟨ds, h2, rfl⟩ := hy
  exact ⟨cs ++ ds, fun c hc => (List.mem_append.1 hc).elim (h1 c) (h2 c), by rw [List.flatMap_append]⟩
theorem isC_rg {c : Int} (h : isC c = true) : 0 ≤ c ∧ c < 1114112 := by
  rw [isC_eq] at h
  have := of_decide_eq_true h
  omega
set_option maxRecDepth 20000 in
theorem fc_enc {b : UInt8} {t r : Str} {c n : Int} (hl : longB (b.toNat : Int) = n) (hn : 1 ≤ n) (ht : (t.length : Int) + 1 = n) (hc : ∀ x, x ∈ t → contB x = true) (hv : t.foldl addC ((b.toNat : Int) - headN n) = c)
    (hi : isC c = true) (hm : leastN n ≤ c) : firstC (b :: (t ++ r)) = (c, n) := by
  show fcT b (t ++ r) = (c, n)
  unfold fcT
  rw [hl]
  have e : (t ++ r).take (n - 1).toNat = t := by
    rw [show (n - 1).toNat = t.length by omega, List.take_left]
  rw [e, hv, if_neg (by rw [List.length_append]; omega), if_neg, if_neg (by rw [hi]; rintro (h | h); cases h; omega)]
  rw [Bool.not_eq_true, List.any_eq_false]
  intro x hx
  rw [hc x hx]; decide
set_option maxRecDepth 20000 in
theorem first_enc {c : Int} (h : isC c = true) (r : Str) : firstC (encC c ++ r) = (c, ((encC c).length : Int)) := by
  obtain ⟨h0, h1⟩ := isC_rg h
  unfold encC
  split
  · rename_i c1
    have e := b8_nat (x := c) h0 (by omega)
    exact fc_enc (t := []) (n := 1) (by rw [e]; unfold longB; rw [if_pos (by omega)]) (by decide) rfl (fun x hx => (by cases hx)) (by rw [e]; show (c.toNat : Int) - 0 = c; omega) h (by show (0 : Int) ≤ c; omega)
  rename_i c1
  split
  · rename_i c2
    have e1' := b8_nat (x := 192 + c / 64) (by omega) (by omega)
    have e2' := b8_nat (x := 128 + c % 64) (by omega) (by omega)
    refine fc_enc (t := [b8 (128 + c % 64)]) (n := 2) (by rw [e1']; unfold longB; rw [if_neg (by omega), if_neg (by omega), if_pos (by omega)]) (by decide) rfl (fun x hx => ?_) ?_ h (by show (128 : Int) ≤ c; omega)
    · rw [List.mem_singleton] at hx; subst hx
      unfold contB; rw [e2', decide_eq_true_iff]; omega
    · show addC (((b8 (192 + c / 64)).toNat : Int) - 192) (b8 (128 + c % 64)) = c
      unfold addC; rw [e1', e2']; omega
  rename_i c2
  split
  · rename_i c3
    have e1' := b8_nat (x := 224 + c / 4096) (by omega) (by omega)
    have e2' := b8_nat (x := 128 + c / 64 % 64) (by omega) (by omega)
    have e3' := b8_nat (x := 128 + c % 64) (by omega) (by omega)
    refine fc_enc (t := [b8 (128 + c / 64 % 64), b8 (128 + c % 64)]) (n := 3) (by rw [e1']; unfold longB; rw [if_neg (by omega), if_neg (by omega), if_neg (by omega), if_pos (by omega)]) (by decide) rfl (fun x hx => ?_) ?_ h (by show (2048 : Int) ≤ c; omega)
    · simp only [List.mem_cons, List.mem_nil_iff, or_false] at hx
      rcases hx with rfl | rfl
      · unfold contB; rw [e2', decide_eq_true_iff]; omega
      · unfold contB; rw [e3', decide_eq_true_iff]; omega
    · show addC (addC (((b8 (224 + c / 4096)).toNat : Int) - 224) (b8 (128 + c / 64 % 64))) (b8 (128 + c % 64)) = c
      unfold addC; rw [e1', e2', e3']; omega
  · rename_i c3
    have e1' := b8_nat (x := 240 + c / 262144) (by omega) (by omega)
    have e2' := b8_nat (x := 128 + c / 4096 % 64) (by omega) (by omega)
    have e3' := b8_nat (x := 128 + c / 64 % 64) (by omega) (by omega)
    have e4' := b8_nat (x := 128 + c % 64) (by omega) (by omega)
    refine fc_enc (t := [b8 (128 + c / 4096 % 64), b8 (128 + c / 64 % 64), b8 (128 + c % 64)]) (n := 4) (by rw [e1']; unfold longB; rw [if_neg (by omega), if_neg (by omega), if_neg (by omega), if_neg (by omega)]) (by decide) rfl (fun x hx => ?_) ?_ h (by show (65536 : Int) ≤ c; omega)
    · simp only [List.mem_cons, List.mem_nil_iff, or_false] at hx
      rcases hx with rfl | rfl | rfl
      · unfold contB; rw [e2', decide_eq_true_iff]; omega
      · unfold contB; rw [e3', decide_eq_true_iff]; omega
      · unfold contB; rw [e4', decide_eq_true_iff]; omega
    · show addC (addC (addC (((b8 (240 + c / 262144)).toNat : Int) - 240) (b8 (128 + c / 4096 % 64))) (b8 (128 + c / 64 % 64))) (b8 (128 + c % 64)) = c
      unfold addC; rw [e1', e2', e3', e4']; omega
theorem bytesC_is {c : Int} (h : isC c = true) : bytesC c = encC c := by unfold bytesC; rw [if_pos h]
theorem enc_ne (c : Int) : encC c ≠ [] := fun e => by have := encC_len c; rw [e] at this; simp at this
theorem cleanF_ok : ∀ (cs : List Int) (k : Nat), (∀ c, c ∈ cs → isC c = true) → (cs.flatMap encC).length ≤ k → cleanF k (cs.flatMap encC) = cs.flatMap encC
  | [], k, _, _ => by cases k <;> rfl
  | c :: cs, k, h, hk => by
    rw [List.flatMap_cons] at *
    have hc := h c (List.mem_cons_self ..)
    have hl := encC_len c
    rw [List.length_append] at hk
    obtain ⟨m, rfl⟩ : ∃ m, k = m + 1 := ⟨k - 1, by omega⟩
    rw [cleanF, if_neg (fun e => enc_ne c (List.append_eq_nil_iff.1 e).1), first_enc hc, bytesC_is hc]
    simp only [Int.toNat_natCast]
    rw [List.drop_left, cleanF_ok cs m (fun d hd => h d (List.mem_cons_of_mem _ hd)) (by omega)]
theorem enc_no {c : Int} (h : okC c) : ∀ x, x ∈ encC c → x ≠ 0 ∧ x ≠ 13 := by
  obtain ⟨h1, h2, h3⟩ := h
  obtain ⟨g0, g1⟩ := isC_rg h1
  have key : ∀ y : Int, 0 ≤ y → y < 256 → y ≠ 0 → y ≠ 13 → b8 y ≠ 0 ∧ b8 y ≠ 13 := fun y a b c d => by
    have := b8_nat a b
    exact ⟨fun e => by rw [e] at this; simp at this; omega, fun e => by rw [e] at this; simp at this; omega⟩
  intro x hx
  unfold encC at hx
  split at hx
  · rw [List.mem_singleton] at hx; subst hx; exact key c g0 (by omega) h2 h3
  split at hx
  · simp only [List.mem_cons, List.mem_nil_iff, or_false] at hx
    rcases hx with rfl | rfl
    · exact key _ (by omega) (by omega) (by omega) (by omega)
    · exact key _ (by omega) (by omega) (by omega) (by omega)
  split at hx
  · simp only [List.mem_cons, List.mem_nil_iff, or_false] at hx
    rcases hx with rfl | rfl | rfl
    · exact key _ (by omega) (by omega) (by omega) (by omega)
    · exact key _ (by omega) (by omega) (by omega) (by omega)
    · exact key _ (by omega) (by omega) (by omega) (by omega)
  · simp only [List.mem_cons, List.mem_nil_iff, or_false] at hx
    rcases hx with rfl | rfl | rfl | rfl
    · exact key _ (by omega) (by omega) (by omega) (by omega)
    · exact key _ (by omega) (by omega) (by omega) (by omega)
    · exact key _ (by omega) (by omega) (by omega) (by omega)
    · exact key _ (by omega) (by omega) (by omega) (by omega)
theorem rep1_id {c : UInt8} {new s : Str} (h : ∀ x, x ∈ s → x ≠ c) : rep1 c new s = s := by
  induction s with
  | nil => rfl
  | cons b t ih =>
    rw [rep1_cons, if_neg (h b (List.mem_cons_self ..)), ih fun x hx => h x (List.mem_cons_of_mem _ hx)]
    rfl
theorem okT_no {x : Str} (h : okT x) : ∀ b, b ∈ x → b ≠ 0 ∧ b ≠ 13 := by
  obtain ⟨cs, h1, rfl⟩ := h
  intro b hb
  obtain ⟨c, hc, hb⟩ := List.mem_flatMap.1 hb
  exact enc_no (h1 c hc) b hb
/-- What is right stays. -/
theorem made_ok {x : Str} (h : okT x) : madeS x = x := by
  have hn := okT_no h
  rw [made_eq, rep1_id (c := 13) fun b hb => (hn b hb).2, rep1_id (c := 0) fun b hb => (hn b hb).1]
  obtain ⟨cs, h1, rfl⟩ := h
  exact cleanF_ok cs _ (fun c hc => (h1 c hc).1) (Nat.le_refl _)
set_option maxRecDepth 20000 in
theorem first_ok (b : UInt8) (t : Str) : isC (firstC (b :: t)).1 = true ∧ ((firstC (b :: t)).1 < 128 → (firstC (b :: t)).1 = (b.toNat : Int)) := by
  show isC (fcT b t).1 = true ∧ ((fcT b t).1 < 128 → (fcT b t).1 = (b.toNat : Int))
  have hl := long_rg (b.toNat : Int)
  unfold fcT
  split
  · exact ⟨by decide, fun h => absurd h (by decide)⟩
  rename_i c1
  split
  · exact ⟨by decide, fun h => absurd h (by decide)⟩
  split
  · exact ⟨by decide, fun h => absurd h (by decide)⟩
  rename_i c3
  simp only [not_or, Bool.not_eq_false, Int.not_lt] at c1 c3
  refine ⟨c3.1, fun h => ?_⟩
  simp only at h
  have h4 := c3.2
  have : longB (b.toNat : Int) = 1 ∨ longB (b.toNat : Int) = 2 ∨ longB (b.toNat : Int) = 3 ∨ longB (b.toNat : Int) = 4 := by omega
  rcases this with e | e | e | e
  · simp only [e]
    show (b.toNat : Int) - 0 = b.toNat
    omega
  all_goals
    rw [e] at h4 h
    generalize List.foldl _ _ _ = q at h4 h
    simp only [leastN] at h4
    simp at h4
    omega
set_option maxRecDepth 20000 in
theorem cleanF_right : ∀ (k : Nat) (s : Str), (∀ b, b ∈ s → b ≠ 0 ∧ b ≠ 13) → okT (cleanF k s)
  | 0, _, _ => okT_nil
  | k + 1, s, h => by
    rw [cleanF]
    split
    · exact okT_nil
    · rename_i c
      cases s with
      | nil => exact absurd rfl c
      | cons b t =>
        obtain ⟨h1, h2⟩ := first_ok b t
        have hb := h b (List.mem_cons_self ..)
        refine okT_app ⟨[(firstC (b :: t)).1], fun d hd => ?_, by rw [bytesC_is h1]; simp⟩ (cleanF_right k _ fun x hx => h x (List.mem_of_mem_drop hx))
        rw [List.mem_singleton] at hd
        subst hd
        refine ⟨h1, fun e => ?_, fun e => ?_⟩
        · have := h2 (by omega)
          exact hb.1 (UInt8.toNat.inj (by show b.toNat = 0; omega))
        · have := h2 (by omega)
          exact hb.2 (UInt8.toNat.inj (by show b.toNat = 13; omega))
theorem rep1_no {c : UInt8} {new s : Str} {p : UInt8 → Prop} (hn : ∀ x, x ∈ new → p x) (hs : ∀ x, x ∈ s → x ≠ c → p x) : ∀ x, x ∈ rep1 c new s → p x := by
  intro x hx
  unfold rep1 at hx
  obtain ⟨b, hb, hx⟩ := List.mem_flatMap.1 hx
  split at hx
  · exact hn x hx
  · rename_i e
    rw [List.mem_singleton] at hx
    subst hx
    exact hs _ hb e
/-- What is made is right. -/
theorem made_right (s : Str) : okT (madeS s) := by
  rw [made_eq]
  refine cleanF_right _ _ ?_
  refine rep1_no (p := fun b => b ≠ 0 ∧ b ≠ 13) (by decide) fun x hx h0 => ⟨h0, ?_⟩
  exact rep1_no (c := 13) (new := [10]) (p := fun b => b ≠ 13) (by decide) (fun y _ hy => hy) x hx
theorem made_ne {s : Str} (h : s ≠ []) : madeS s ≠ [] := by
  rw [made_eq]
  cases s with
  | nil => exact absurd rfl h
  | cons b t =>
    have hne : rep1 0 [239, 191, 189] (rep1 13 [10] (b :: t)) ≠ [] := by
      rw [rep1_cons]
      split
      · rw [show ([10] ++ rep1 13 [10] t : Str) = 10 :: rep1 13 [10] t from rfl, rep1_cons, if_neg (by decide)]; simp
      · rw [show ([b] ++ rep1 13 [10] t : Str) = b :: rep1 13 [10] t from rfl, rep1_cons]
        split <;> simp
    generalize rep1 0 [239, 191, 189] (rep1 13 [10] (b :: t)) = y at *
    unfold cleanS
    cases y with
    | nil => exact absurd rfl hne
    | cons c u =>
      rw [List.length_cons, cleanF, if_neg (by simp)]
      intro e
      have := bytesC_len (firstC (c :: u)).1
      rw [(List.append_eq_nil_iff.1 e).1] at this
      simp at this
set_option maxRecDepth 20000 in
/-- What the document calls right. -/
theorem of_right (s : Str) : ∀ (k : Nat) (i : Int) (L : List Int) (r : Bool), 0 ≤ i → (s.length : Int) - i ≤ k → (ofFu s k i L r).2 = true → r = true ∧ ∃ cs : List Int, (∀ c, c ∈ cs → isC c = true) ∧ s.drop i.toNat = cs.flatMap encC
  | 0, i, L, r, h0, hk, h => ⟨h, [], fun _ h => (by cases h), by rw [List.drop_eq_nil_of_le (by omega)]; rfl⟩
  | k + 1, i, L, r, h0, hk, h => by
    rw [ofFu] at h
    split at h
    · rename_i c
      obtain ⟨g1, g2⟩ := atG_rg s i
      obtain ⟨h1, cs, h2, h3⟩ := of_right s k (i + (atG s i).2.1) _ _ (by omega) (by omega) h
      rw [Bool.and_eq_true] at h1
      refine ⟨h1.1, ?_⟩
      have hi := h1.2
      unfold atG at hi h3
      split at hi
      · cases hi
      rename_i c1
      rw [if_neg c1] at h3
      split at hi
      · cases hi
      rename_i c2
      rw [if_neg c2] at h3
      simp only [not_or, Bool.not_eq_false, Decidable.not_not] at c1 c2
      refine ⟨codeS s i :: cs, fun d hd => ?_, ?_⟩
      · rcases List.mem_cons.1 hd with rfl | hd
        · exact c1
        · exact h2 d hd
      · rw [List.flatMap_cons, ← h3, ← bytesC_is c1]
        have e := c2.2
        simp only
        generalize hB : bytesC (codeS s i) = B at *
        unfold sub at e
        have e1' : (i + (B.length : Int)).toNat = i.toNat + B.length := by omega
        rw [e1'] at e ⊢
        have : s.drop i.toNat = (s.take (i.toNat + B.length)).drop i.toNat ++ s.drop (i.toNat + B.length) := by
          conv => lhs; rw [← List.take_append_drop (i.toNat + B.length) s]
          rw [List.drop_append_of_le_length (by rw [List.length_take]; omega)]
        rw [this, e]
    · rename_i c
      exact ⟨h, [], fun _ h => (by cases h), by rw [List.drop_eq_nil_of_le (by omega)]; rfl⟩
set_option maxRecDepth 20000 in
theorem good_ok {s : Str} (h : goodS s = true) : okT s := by
  unfold goodS at h
  rw [Bool.and_eq_true] at h
  obtain ⟨_, cs, h1, h2⟩ := of_right s s.length 0 [] true (Int.le_refl _) (by omega) h.2
  rw [show s.drop (0 : Int).toNat = s from rfl] at h2
  refine ⟨cs, fun c hc => ⟨h1 c hc, ?_⟩, h2⟩
  have hno : ∀ b, b ∈ s → b ≠ 0 ∧ b ≠ 13 := fun b hb => by
    have := h.1
    rw [Bool.not_eq_true', List.any_eq_false] at this
    have := this b hb
    simp at this
    exact this
  have key : ∀ d : Int, 0 ≤ d → d < 128 → c = d → b8 d ∈ s := fun d h0 h1' e => by
    rw [h2]
    refine List.mem_flatMap.2 ⟨c, hc, ?_⟩
    rw [e]; unfold encC; rw [if_pos h1']; exact List.mem_singleton.2 rfl
  exact ⟨fun e => (hno _ (key 0 (by decide) (by decide) e)).1 (by decide), fun e => (hno _ (key 13 (by decide) (by decide) e)).2 (by decide)⟩
end Sp

/- What may stand of nodes: the functions' conditions, shown: attributes, nodes, words. Plain theorems. -/

theorem filter_filter_attrs_1.ok (R : Bool → List UInt8 → List UInt8 → Prop) (x : Str × Str) (an av : Str) (hR : R (Sp.sameN x an) an av) : filter_filter_attrs_1.vc R x an av := hR
theorem Index_attr1.ok (R : Int → List UInt8 → List UInt8 → List (List UInt8 × List UInt8) → Prop) (an av : Str) (l : List (Str × Str)) (h : Sp.attrs6 l) (hR : R (Sp.idxSame l an) an av l) : Index_attr1.vc R an av l := by
  have hlen := (show l.length ≤ 1000000 from h)
  refine Lp_rule (fun v => ∃ p : Nat, v = ((l.length : Int), (p : Int), an, av, l, ()) ∧ p ≤ l.length ∧ Sp.shI p (Sp.idxG (fun x => Sp.sameN x an) (l.drop p)) = Sp.idxG (fun x => Sp.sameN x an) l) (fun v => l.length - v.2.1.toNat) ?_ ⟨0, rfl, Nat.zero_le _, Sp.shI_zero _⟩
  rintro _ K ⟨p, rfl, hp, he⟩ hK
  simp only [Index_attr1.L0]
  rw [cond_dec]
  split
  · rename_i c1
    have hp' : p < l.length := by omega
    rw [drop_cons (d := (([], []) : Str × Str)) hp', Sp.idxG] at he
    generalize nth l (p : Int) (([], []) : Str × Str) = x at *
    refine ⟨by rw [ix_iff]; omega, ?_⟩
    cases hx : Sp.sameN x an with
    | true =>
      rw [if_pos hx] at he
      have : R (Sp.idxG (fun x => Sp.sameN x an) l) an av l := hR
      rw [← he, Sp.shI_at] at this
      exact this
    | false =>
      rw [if_neg (by rw [hx]; simp)] at he
      exact ⟨by rw [rg64]; omega, hK _ ⟨p + 1, rfl, by omega, by rw [← he]; exact Sp.shI_succ _ _ _⟩ (by simp; omega)⟩
  · have : p = l.length := by omega
    subst this
    rw [List.drop_length] at he
    have : R (Sp.idxG (fun x => Sp.sameN x an) l) an av l := hR
    rw [← he] at this
    exact this
theorem Contains_attr1.ok (R : Bool → List UInt8 → List UInt8 → List (List UInt8 × List UInt8) → Prop) (an av : Str) (l : List (Str × Str)) (h : Sp.attrs6 l) (hR : R (Sp.anySame l an) an av l) : Contains_attr1.vc R an av l := by
  refine ⟨h, ?_⟩
  rw [show decide (0 ≤ Sp.idxSame l an) = Sp.anySame l an from Sp.idxG_any _ l]
  exact hR

namespace Sp
abbrev FR (α : Type) : Type := α → List (List UInt8 × Int × List (List UInt8) × List (List UInt8)) → List (List UInt8) → Int → Int → Int → Int → Int → Int → Prop
abbrev FR0 : Type := List (List UInt8 × Int × List (List UInt8) × List (List UInt8)) → List (List UInt8) → Int → Int → Int → Int → Int → Int → Prop
theorem atF_rg (p : Pol) (nm : Str) : ∀ (l out : List (Str × Str)) (k : Int), k ≤ (atF p nm out l k).2 ∧ (atF p nm out l k).2 ≤ k + l.length ∧ (out.length ≤ 12 → (atF p nm out l k).1.length ≤ 12)
  | [], out, k => by rw [atF]; exact ⟨Int.le_refl _, by simp, fun h => h⟩
  | a :: l, out, k => by
    rw [atF, List.length_cons]
    split
    · have := atF_rg p nm l out (k + 1)
      exact ⟨by omega, by omega, this.2.2⟩
    · rename_i c
      have := atF_rg p nm l (out ++ [(a.1, madeS a.2)]) k
      refine ⟨by omega, by omega, fun h => this.2.2 ?_⟩
      simp only [not_or] at c
      rw [List.length_append, List.length_singleton]
      omega
theorem attrsF_rg (p : Pol) (n : Vi.Node) : 0 ≤ (attrsF p n).2 ∧ (attrsF p n).2 ≤ n.attrs.length ∧ (attrsF p n).1.length ≤ 12 := by
  have := atF_rg p n.name n.attrs [] 0
  unfold attrsF
  exact ⟨by omega, by omega, this.2.2 (by decide)⟩
end Sp
theorem filter_filter_attrs.ok (R : Sp.FR (List (List UInt8 × List UInt8))) (n : Vi.Node) (rules : List (Str × Int × List Str × List Str)) (schemes : List Str) (others strange dr op at_ ot : Int) (h : Sp.fOkN (rules, schemes, others, strange) (dr, op, at_, ot) n)
    (hR : R (Sp.attrsF (rules, schemes, others, strange) n).1 rules schemes others strange dr op (at_ + (Sp.attrsF (rules, schemes, others, strange) n).2) ot) : filter_filter_attrs.vc R n rules schemes others strange dr op at_ ot := by
  obtain ⟨hp, hn, hb⟩ := h
  obtain ⟨_, ⟨ha, hv⟩, _⟩ := Sp.pkN_eq hn
  obtain ⟨_, _, hb, _⟩ := hb
  simp only at hb
  unfold filter_filter_attrs.vc
  refine Lp_rule (fun v => ∃ (q : Nat) (k : Int) (out : List (Str × Str)), v = (n.attrs, (n.attrs.length : Int), (q : Int), rules, schemes, others, strange, dr, op, at_ + k, ot, n.kind, n.space, n.name, n.attrs, n.text, n.kids, out, ()) ∧ q ≤ n.attrs.length ∧ 0 ≤ k ∧ k ≤ q ∧ out.length ≤ 12 ∧
      Sp.atF (rules, schemes, others, strange) n.name out (n.attrs.drop q) k = Sp.attrsF (rules, schemes, others, strange) n) (fun v => n.attrs.length - v.2.2.1.toNat) ?_ ⟨0, 0, [], by simp, Nat.zero_le _, Int.le_refl _, Int.le_refl _, by decide, rfl⟩
  rintro _ K ⟨q, k, out, rfl, hq, h0, h1, ho, he⟩ hK
  simp only [filter_filter_attrs.L0]
  rw [cond_dec]
  split
  · have hq' : q < n.attrs.length := by omega
    have hm := Sp.nth_mem (d := (([], []) : Str × Str)) hq'
    rw [drop_cons (d := (([], []) : Str × Str)) hq', Sp.atF] at he
    generalize nth n.attrs (q : Int) (([], []) : Str × Str) = x at *
    have hx := hv x hm
    have skip (c : Sp.anySame out x.1 = true ∨ (out.length : Int) = 12 ∨ Sp.staysC (rules, schemes, others, strange) n.name x = false) :
        Rg IntKind.i64 (at_ + k + 1) ∧ Rg IntKind.i64 ((q : Int) + 1) ∧ K (n.attrs, (n.attrs.length : Int), (q : Int) + 1, rules, schemes, others, strange, dr, op, at_ + k + 1, ot, n.kind, n.space, n.name, n.attrs, n.text, n.kids, out, ()) := by
      rw [if_pos c] at he
      exact ⟨by rw [rg64]; omega, by rw [rg64]; omega, hK _ ⟨q + 1, k + 1, out, by rw [Int.add_assoc]; rfl, by omega, by omega, by omega, ho, he⟩ (by simp only; omega)⟩
    refine ⟨by rw [ix_iff]; omega, by unfold Sp.attrs6; omega, ?_⟩
    cases c1 : Sp.anySame out x.1 with
    | true => exact skip (.inl c1)
    | false =>
    rw [cond_false, cond_dec]
    split
    · rename_i c2; exact skip (.inr (.inl c2))
    rename_i c2
    refine ⟨⟨hp, by omega⟩, ?_⟩
    cases c3 : Sp.staysC (rules, schemes, others, strange) n.name x with
    | false => exact skip (.inr (.inr c3))
    | true =>
      rw [if_neg (by rw [c1, c3]; rintro (e | e | e); cases e; exact c2 e; cases e)] at he
      exact ⟨by unfold Sp.madeS.pre; omega, by rw [gr_iff]; omega, by rw [rg64]; omega, hK _ ⟨q + 1, k, _, rfl, by omega, h0, by omega, by rw [List.length_append, List.length_singleton]; omega, he⟩ (by simp only; omega)⟩
  · have : q = n.attrs.length := by omega
    subst this
    rw [List.drop_length, Sp.atF] at he
    rw [← he] at hR; exact hR
theorem filter_filter_text.ok (R : Sp.FR (List Vi.Node)) (n : Vi.Node) (rules : List (Str × Int × List Str × List Str)) (schemes : List Str) (others strange dr op at_ ot : Int) (h : Sp.textF.pre n)
    (hR : R (Sp.textF n) rules schemes others strange dr op at_ ot) : filter_filter_text.vc R n rules schemes others strange dr op at_ ot := by
  unfold filter_filter_text.vc
  unfold Sp.textF at hR
  rw [cond_dec]
  split
  · rename_i c; rw [if_pos c] at hR; exact hR
  · rename_i c; rw [if_neg c] at hR; exact ⟨h, hR⟩
theorem filter_filter_other.ok (R : Sp.FR (List Vi.Node)) (n : Vi.Node) (rules : List (Str × Int × List Str × List Str)) (schemes : List Str) (others strange dr op at_ ot : Int) (h : Sp.lostOk (dr, op, at_, ot))
    (hR : R [] rules schemes others strange dr op at_ (ot + 1)) : filter_filter_other.vc R n rules schemes others strange dr op at_ ot := by
  obtain ⟨_, _, _, h⟩ := h
  simp only at h
  exact ⟨by rw [rg64]; omega, hR⟩
theorem filter_filter_how.ok (R0 R1 R2 : Sp.FR0) (n : Vi.Node) (rules : List (Str × Int × List Str × List Str)) (schemes : List Str) (others strange dr op at_ ot : Int)
    (h0 : decide (n.kind = 1) = true → R0 rules schemes others strange dr op at_ ot) (h1 : decide (n.kind = 1) = false → decide (n.kind = 2) = true → R1 rules schemes others strange dr op at_ ot)
    (h2 : decide (n.kind = 1) = false → decide (n.kind = 2) = false → R2 rules schemes others strange dr op at_ ot) : filter_filter_how.vc R0 R1 R2 n rules schemes others strange dr op at_ ot := by
  unfold filter_filter_how.vc
  cases e0 : decide (n.kind = 1) with
  | true => exact h0 e0
  | false =>
    cases e1 : decide (n.kind = 2) with
    | true => exact h1 e0 e1
    | false => exact h2 e0 e1
namespace Sp
theorem elF_eq (p : Pol) (n : Vi.Node) : elF p n = if actC p n.space n.name = 3 then [] else if actC p n.space n.name = 2 then nsG p [] n.kids
    else [.mk 1 0 n.name (attrsF p n).1 [] (if voidN n.name = true then [] else nsG p [] n.kids)] := by cases n; rw [elF]; rfl
theorem lostN_eq (p : Pol) (lo : L4) (n : Vi.Node) : lostN p lo n = if actC p n.space n.name = 3 then (lo.1 + 1, lo.2.1, lo.2.2.1, lo.2.2.2) else if actC p n.space n.name = 2 then lostL p (lo.1, lo.2.1 + 1, lo.2.2.1, lo.2.2.2) n.kids
    else lostL p (lo.1, lo.2.1, lo.2.2.1 + (attrsF p n).2, lo.2.2.2) n.kids := by cases n; rw [lostN]; rfl
theorem txN_eq (n : Vi.Node) : txN n = n.text.length + txL n.kids := by cases n; rw [txN]; rfl
mutual
theorem lostN_lb (p : Pol) : ∀ (n : Vi.Node) (lo : L4) (k : Int), pkN n → 0 ≤ k → lb lo ((szN n : Int) + k) → lb (lostN p lo n) k
  | .mk kd s nm a t c, lo, k, h, hk, hb => by
    obtain ⟨_, ⟨ha, _⟩, _, _, hc⟩ := pkN_eq h
    have hc : pkL c := hc
    have ha : a.length ≤ 100 := ha
    obtain ⟨g1, g2, _⟩ := attrsF_rg p (.mk kd s nm a t c)
    have g2 : (attrsF p (.mk kd s nm a t c)).2 ≤ a.length := g2
    rw [lostN]
    rw [szN] at hb
    unfold lb at hb
    split
    · unfold lb; simp only; omega
    split
    · refine lostL_lb p c _ k hc hk ?_
      unfold lb; simp only; omega
    · refine lostL_lb p c _ k hc hk ?_
      unfold lb; simp only; omega
theorem lostL_lb (p : Pol) : ∀ (l : List Vi.Node) (lo : L4) (k : Int), pkL l → 0 ≤ k → lb lo ((szL l : Int) + k) → lb (lostL p lo l) k
  | [], lo, k, _, _, hb => by rw [lostL]; rw [szL] at hb; simpa using hb
  | n :: l, lo, k, h, hk, hb => by
    rw [pkL] at h
    rw [lostL]
    rw [szL] at hb
    refine lostL_lb p l _ k h.2 hk ?_
    split
    · refine lostN_lb p n lo _ h.1 (by omega) ?_
      unfold lb at hb ⊢; omega
    split
    · unfold lb at hb ⊢; omega
    · unfold lb at hb ⊢; simp only; omega
end
theorem szL_app (a b : List Vi.Node) : szL (a ++ b) = szL a + szL b := by
  induction a with
  | nil => simp [szL]
  | cons x a ih => rw [List.cons_append, szL, szL, ih]; omega
theorem txL_app (a b : List Vi.Node) : txL (a ++ b) = txL a + txL b := by
  induction a with
  | nil => simp [txL]
  | cons x a ih => rw [List.cons_append, txL, txL, ih]; omega
theorem len_szL (a : List Vi.Node) : a.length ≤ szL a := by
  induction a with
  | nil => simp
  | cons x a ih => rw [szL, List.length_cons]; omega
theorem nth_last {α : Type} (i : List α) (y d : α) : nth (i ++ [y]) (((i ++ [y]).length : Int) - 1) d = y := by
  have e : (((i ++ [y]).length : Int) - 1) = (i.length : Int) := by rw [List.length_append, List.length_singleton]; omega
  have hl : i.length < (i ++ [y]).length := by rw [List.length_append, List.length_singleton]; omega
  have h := drop_cons (l := i ++ [y]) (p := i.length) (d := d) hl
  rw [List.drop_left] at h
  rw [e]
  exact (List.cons.inj h).1.symm
theorem set_last {α : Type} (i : List α) (y z : α) : (i ++ [y]).set ((i ++ [y]).length - 1) z = i ++ [z] := by
  have e : (i ++ [y]).length - 1 = i.length := by rw [List.length_append, List.length_singleton]; omega
  rw [e, List.set_append_right _ _ (Nat.le_refl _), Nat.sub_self]
  rfl
theorem snoc_of {α : Type} {l : List α} (h : l ≠ []) : ∃ i y, l = i ++ [y] := ⟨l.dropLast, l.getLast h, (List.dropLast_concat_getLast h).symm⟩
/-- The two ways of a join. -/
theorem join1_cases (out : List Vi.Node) (x : Vi.Node) : (join1 out x = out ++ [x] ∧ (out = [] ∨ ∃ i y, out = i ++ [y] ∧ ¬ (x.kind = 2 ∧ y.kind = 2))) ∨ (∃ i y, out = i ++ [y] ∧ x.kind = 2 ∧ y.kind = 2 ∧ join1 out x = i ++ [putT y x.text]) := by
  by_cases ho : out = []
  · subst ho
    exact .inl ⟨by unfold join1; rw [if_neg (fun e => e.1 rfl)], .inl rfl⟩
  · obtain ⟨i, y, rfl⟩ := snoc_of ho
    unfold join1
    rw [nth_last, set_last]
    by_cases c : x.kind = 2 ∧ y.kind = 2
    · rw [if_pos ⟨ho, c⟩]
      exact .inr ⟨i, y, rfl, c.1, c.2, rfl⟩
    · rw [if_neg (fun e => c e.2)]
      exact .inl ⟨rfl, .inr ⟨i, y, rfl, c⟩⟩
theorem putT_sz (y : Vi.Node) (t : Str) : szN (putT y t) = szN y := by cases y; rw [putT, szN, szN]; rfl
theorem putT_tx (y : Vi.Node) (t : Str) : txN (putT y t) = txN y + t.length := by
  rw [txN_eq, txN_eq]
  show (y.text ++ t).length + txL y.kids = _
  rw [List.length_append]; omega
theorem join1_sz (out : List Vi.Node) (x : Vi.Node) : szL (join1 out x) ≤ szL out + szL [x] ∧ txL (join1 out x) ≤ txL out + txL [x] := by
  rcases join1_cases out x with ⟨e, _⟩ | ⟨i, y, rfl, _, _, e⟩
  · rw [e, szL_app, txL_app]; exact ⟨Nat.le_refl _, Nat.le_refl _⟩
  · rw [e, szL_app, szL_app, txL_app, txL_app]
    simp only [szL, txL, putT_sz, putT_tx]
    have := txN_eq x
    omega
theorem joinL_sz : ∀ (xs out : List Vi.Node), szL (joinL out xs) ≤ szL out + szL xs ∧ txL (joinL out xs) ≤ txL out + txL xs
  | [], out => by rw [joinL]; simp [szL, txL]
  | x :: xs, out => by
    have h1 := join1_sz out x
    have h2 := joinL_sz xs (join1 out x)
    rw [joinL]
    simp only [szL, txL] at h1 ⊢
    omega
end Sp

/- What may stand of nodes: the functions' conditions, shown: nodes, words. Plain theorems. -/

namespace Sp
/-- A copy of the loop that puts nodes behind others. -/
theorem nodes_L1 (K0 : List Vi.Node × Int × Int × List (List UInt8 × Int × List (List UInt8) × List (List UInt8)) × List (List UInt8) × Int × Int × Int × Int × Int × Int × List Vi.Node × Unit → Prop) (t11 : List Vi.Node) (t12 t13 : Int) (xs : List Vi.Node) (rules : List (Str × Int × List Str × List Str)) (schemes : List Str) (others strange dr op at_ ot : Int) (out : List Vi.Node)
    (hs : szL out + szL xs ≤ 1000000) (ht : txL out + txL xs ≤ 1000000) (h13 : Rg .i64 (t13 + 1)) (hK : K0 (t11, t12, t13 + 1, rules, schemes, others, strange, dr, op, at_, ot, joinL out xs, ())) :
    Lp (fun v K => filter_filter_nodes.L1 K0 v.fst v.snd.fst v.snd.snd.fst v.snd.snd.snd.fst v.snd.snd.snd.snd.fst v.snd.snd.snd.snd.snd.fst v.snd.snd.snd.snd.snd.snd.fst v.snd.snd.snd.snd.snd.snd.snd.fst v.snd.snd.snd.snd.snd.snd.snd.snd.fst v.snd.snd.snd.snd.snd.snd.snd.snd.snd.fst v.snd.snd.snd.snd.snd.snd.snd.snd.snd.snd.fst v.snd.snd.snd.snd.snd.snd.snd.snd.snd.snd.snd.fst v.snd.snd.snd.snd.snd.snd.snd.snd.snd.snd.snd.snd.fst v.snd.snd.snd.snd.snd.snd.snd.snd.snd.snd.snd.snd.snd.fst v.snd.snd.snd.snd.snd.snd.snd.snd.snd.snd.snd.snd.snd.snd.fst K) (t11, t12, t13, xs, (xs.length : Int), 0, rules, schemes, others, strange, dr, op, at_, ot, out, ()) := by
  refine Lp_rule (fun v => ∃ (q : Nat) (o : List Vi.Node), v = (t11, t12, t13, xs, (xs.length : Int), (q : Int), rules, schemes, others, strange, dr, op, at_, ot, o, ()) ∧ q ≤ xs.length ∧ szL o + szL (xs.drop q) ≤ 1000000 ∧ txL o + txL (xs.drop q) ≤ 1000000 ∧ joinL o (xs.drop q) = joinL out xs) (fun v => xs.length - v.2.2.2.2.2.1.toNat) ?_ ⟨0, out, rfl, Nat.zero_le _, hs, ht, rfl⟩
  rintro _ K ⟨q, o, rfl, hq, h1, h2, he⟩ hK1
  simp only [filter_filter_nodes.L1]
  rw [cond_dec]
  split
  · have hq' : q < xs.length := by omega
    have hl := szL_drop xs q hq'
    have hd := drop_cons (d := Vi.Node.mk 0 0 [] [] [] []) hq'
    rw [hd, joinL] at he
    rw [hd, txL] at h2
    rw [hd, szL] at h1
    simp only [node_eta]
    generalize nth xs (q : Int) (Vi.Node.mk 0 0 [] [] [] []) = x at *
    have hxl : (q : Int) + 1 ≤ xs.length := by omega
    have hxz := len_szL o
    have hxs : xs.length ≤ 1000000 + q := by
      have := len_szL (xs.drop (q + 1))
      rw [List.length_drop] at this
      omega
    have hqq : (q : Int) + 1 ≤ 9223372036854775807 := by
      have := hs
      have := len_szL xs
      omega
    have hj := join1_sz o x
    simp only [szL, txL] at hj
    have go (o' : List Vi.Node) (e : o' = join1 o x) : Rg IntKind.i64 ((q : Int) + 1) ∧ K (t11, t12, t13, xs, (xs.length : Int), (q : Int) + 1, rules, schemes, others, strange, dr, op, at_, ot, o', ()) := by
      subst e
      exact ⟨by rw [rg64]; omega, hK1 _ ⟨q + 1, _, rfl, by omega, by omega, by omega, he⟩ (by simp only; omega)⟩
    rcases join1_cases o x with ⟨e, ho⟩ | ⟨i, y, rfl, ex, ey, e⟩
    · have put : Gr o.length 1 96 ∧ Rg IntKind.i64 ((q : Int) + 1) ∧ K (t11, t12, t13, xs, (xs.length : Int), (q : Int) + 1, rules, schemes, others, strange, dr, op, at_, ot, o ++ [x], ()) := by
        have := go _ e.symm
        exact ⟨by rw [gr_iff]; omega, this⟩
      refine ⟨by rw [ix_iff]; omega, by rw [rg64]; omega, ?_⟩
      rw [cond_dec]
      split
      · rename_i c1
        rw [cond_dec]
        split
        · rename_i c2
          rcases ho with rfl | ⟨i, y, rfl, hn⟩
          · simp at c1
          · rw [nth_last, cond_dec]
            refine ⟨by rw [ix_iff]; omega, ?_⟩
            rw [if_neg (fun e => hn ⟨c2, e⟩)]
            exact put
        · exact put
      · exact put
    · refine ⟨by rw [ix_iff]; omega, by rw [rg64]; omega, ?_⟩
      have hpos : 0 < (i ++ [y]).length := by rw [List.length_append, List.length_singleton]; omega
      have htx : y.text.length + x.text.length ≤ 1000000 := by
        rw [txL_app] at h2
        simp only [txL] at h2
        have := txN_eq y
        have := txN_eq x
        omega
      rw [nth_last, cond_dec, if_pos (by omega), cond_dec, if_pos ex, cond_dec, if_pos ey]
      refine ⟨by rw [ix_iff]; omega, by rw [ix_iff]; omega, by omega, by rw [ix_iff]; omega, ?_⟩
      refine go _ ?_
      rw [e, show (((i ++ [y]).length : Int) - 1).toNat = (i ++ [y]).length - 1 by omega, set_last]
      rfl
  · have : q = xs.length := by omega
    subst this
    rw [List.drop_length, joinL] at he
    subst he
    exact ⟨h13, hK⟩
theorem nodes_L2 : @filter_filter_nodes.L2 = @filter_filter_nodes.L1 := rfl
theorem nodes_L3 : @filter_filter_nodes.L3 = @filter_filter_nodes.L1 := rfl

/-! A text that is made right has at most three bytes for each. -/
theorem rep0_drop {t : Str} : ∀ (m : Nat), (∀ x, x ∈ (rep1 0 [239, 191, 189] t).take m → contB x = true) → m ≤ (rep1 0 [239, 191, 189] t).length → m ≤ t.length ∧ (rep1 0 [239, 191, 189] t).drop m = rep1 0 [239, 191, 189] (t.drop m) := by
  induction t with
  | nil => intro m _ h; have : m = 0 := by simpa [rep1] using h
           subst this; exact ⟨Nat.le_refl _, rfl⟩
  | cons b t ih =>
    intro m h hm
    cases m with
    | zero => exact ⟨Nat.zero_le _, rfl⟩
    | succ m =>
      rw [rep1_cons] at *
      by_cases hb : b = 0
      · rw [if_pos hb] at h
        exact absurd (h 239 (by simp)) (by decide)
      · rw [if_neg hb] at h hm ⊢
        obtain ⟨g1, g2⟩ := ih m (fun x hx => h x (by rw [List.singleton_append, List.take_succ_cons]; exact List.mem_cons_of_mem _ hx)) (by simp only [List.singleton_append, List.length_cons] at hm; omega)
        exact ⟨by rw [List.length_cons]; omega, by rw [List.singleton_append, List.drop_succ_cons, List.drop_succ_cons]; exact g2⟩
set_option maxRecDepth 20000 in
theorem first_two (b : UInt8) (t : Str) : ((firstC (b :: t)).2 = 1 ∧ (bytesC (firstC (b :: t)).1).length ≤ 3) ∨ (2 ≤ (firstC (b :: t)).2 ∧ ((firstC (b :: t)).2 - 1).toNat ≤ t.length ∧ ∀ x, x ∈ t.take ((firstC (b :: t)).2 - 1).toNat → contB x = true) := by
  show ((fcT b t).2 = 1 ∧ (bytesC (fcT b t).1).length ≤ 3) ∨ (2 ≤ (fcT b t).2 ∧ ((fcT b t).2 - 1).toNat ≤ t.length ∧ ∀ x, x ∈ t.take ((fcT b t).2 - 1).toNat → contB x = true)
  have hl := long_rg (b.toNat : Int)
  have h3 : (bytesC 65533).length ≤ 3 := by rw [bytes65533]; decide
  unfold fcT
  split
  · exact .inl ⟨rfl, h3⟩
  rename_i c1
  split
  · exact .inl ⟨rfl, h3⟩
  rename_i c2
  split
  · exact .inl ⟨rfl, h3⟩
  rename_i c3
  have hb := b.toNat_lt
  have hh := @head_rg (b.toNat : Int) (by omega) (by omega)
  simp only [not_or, Int.not_lt] at c1
  by_cases h1 : longB (b.toNat : Int) = 1
  · left
    obtain ⟨g1, g2, _⟩ := hh (by omega)
    simp only [h1] at g1 g2 ⊢
    refine ⟨trivial, ?_⟩
    have e : (t.take ((1 : Int) - 1).toNat).foldl addC ((b.toNat : Int) - headN 1) = (b.toNat : Int) - headN 1 := rfl
    rw [e]
    generalize (b.toNat : Int) - headN 1 = c at *
    unfold bytesC
    split
    · unfold encC; rw [if_pos (by omega)]; show 1 ≤ 3; decide
    · decide
  · right
    refine ⟨by simp only; omega, by simp only; omega, fun x hx => ?_⟩
    rw [Bool.not_eq_true, List.any_eq_false] at c2
    have := c2 x hx
    simpa using this
theorem clean_len3 : ∀ (k : Nat) (s : Str), (cleanF k (rep1 0 [239, 191, 189] s)).length ≤ 3 * s.length
  | 0, _ => Nat.zero_le _
  | k + 1, s => by
    cases s with
    | nil => exact Nat.zero_le _
    | cons b t =>
      rw [cleanF]
      split
      · exact Nat.zero_le _
      rw [rep1_cons]
      by_cases hb : b = 0
      · rw [if_pos hb]
        have he : ([239, 191, 189] : Str) = encC 65533 := by decide
        have hf := first_enc (c := 65533) (by decide) (rep1 0 [239, 191, 189] t)
        have hln : (encC 65533).length = 3 := by decide
        rw [← he] at hf hln
        rw [hf]
        simp only
        rw [bytes65533, show (([239, 191, 189] : Str).length : Int).toNat = ([239, 191, 189] : Str).length by omega, List.drop_left, List.length_append, show ([239, 191, 189] : Str).length = 3 from rfl, List.length_cons]
        have := clean_len3 k t
        omega
      · rw [if_neg hb, List.singleton_append]
        rcases first_two b (rep1 0 [239, 191, 189] t) with ⟨h1, h2⟩ | ⟨h1, h2, h3⟩
        · rw [h1, List.length_append, List.length_cons]
          have := clean_len3 k t
          rw [show (b :: rep1 0 [239, 191, 189] t).drop (1 : Int).toNat = rep1 0 [239, 191, 189] t from rfl]
          omega
        · obtain ⟨g1, g2⟩ := rep0_drop _ h3 h2
          have hl := bytesC_len (firstC (b :: rep1 0 [239, 191, 189] t)).1
          have e : (firstC (b :: rep1 0 [239, 191, 189] t)).2.toNat = ((firstC (b :: rep1 0 [239, 191, 189] t)).2 - 1).toNat + 1 := by omega
          rw [e, List.drop_succ_cons, g2, List.length_append, List.length_cons]
          have := clean_len3 k (t.drop ((firstC (b :: rep1 0 [239, 191, 189] t)).2 - 1).toNat)
          rw [List.length_drop] at this
          omega
theorem rep1_one_len {c d : UInt8} (s : Str) : (rep1 c [d] s).length = s.length := by
  induction s with
  | nil => rfl
  | cons b t ih => rw [rep1_cons]; split <;> simp [ih]
theorem made_len3 (s : Str) : (madeS s).length ≤ 3 * s.length := by
  rw [made_eq]
  unfold cleanS
  have := clean_len3 (rep1 0 [239, 191, 189] (rep1 13 [10] s)).length (rep1 13 [10] s)
  rw [rep1_one_len] at this
  exact this

/-! Sizes of what is left. -/
theorem textF_sz (n : Vi.Node) : szL (textF n) ≤ 2 ∧ txL (textF n) ≤ 3 * n.text.length := by
  have := made_len3 n.text
  unfold textF
  split
  · simp [szL, txL]
  · simp only [szL, szN, txL, txN]; omega
theorem szN_pos (n : Vi.Node) : 1 ≤ szN n := by rw [szN_eq]; omega
mutual
theorem elF_sz (p : Pol) : ∀ n : Vi.Node, szL (elF p n) ≤ szN n + 1 ∧ txL (elF p n) ≤ 3 * txN n
  | .mk k s nm a t c => by
    have h := nsG_sz p c []
    rw [szL, txL] at h
    rw [elF, szN, txN]
    split
    · simp [szL, txL]
    split
    · omega
    · split
      · simp only [szL, szN, txL, txN, List.length_nil]; omega
      · simp only [szL, szN, txL, txN, List.length_nil]; omega
theorem nsG_sz (p : Pol) : ∀ (l out : List Vi.Node), szL (nsG p out l) ≤ szL out + szL l ∧ txL (nsG p out l) ≤ txL out + 3 * txL l
  | [], out => by rw [nsG, szL, txL]; omega
  | n :: l, out => by
    have h1 := elF_sz p n
    have h2 := textF_sz n
    have h3 := txN_eq n
    have h4 := szN_pos n
    have key : ∀ xs, szL xs ≤ szN n + 1 → txL xs ≤ 3 * txN n → szL (nsG p (joinL out xs) l) ≤ szL out + szL (n :: l) ∧ txL (nsG p (joinL out xs) l) ≤ txL out + 3 * txL (n :: l) := fun xs a b => by
      have g1 := joinL_sz xs out
      have g2 := nsG_sz p l (joinL out xs)
      rw [szL, txL]
      omega
    rw [nsG]
    split
    · exact key _ h1.1 h1.2
    split
    · exact key _ (by omega) (by omega)
    · exact key _ (by simp [szL]) (by simp [txL])
end
theorem nsF_sz (p : Pol) (l : List Vi.Node) : szL (nsF p l) ≤ szL l ∧ txL (nsF p l) ≤ 3 * txL l := by
  have h := nsG_sz p l []
  rw [szL, txL] at h
  unfold nsF
  omega
end Sp
theorem filter_filter_element.ok (nn : Nat) (R : Sp.FR (List Vi.Node)) (n : Vi.Node) (rules : List (Str × Int × List Str × List Str)) (schemes : List Str) (others strange dr op at_ ot : Int) (h : Sp.fOkE (rules, schemes, others, strange) (dr, op, at_, ot) n ∧ Sp.mEl n rules schemes others strange dr op at_ ot < nn + 1)
    (hR : R (Sp.elF (rules, schemes, others, strange) n) rules schemes others strange (Sp.lostN (rules, schemes, others, strange) (dr, op, at_, ot) n).1 (Sp.lostN (rules, schemes, others, strange) (dr, op, at_, ot) n).2.1 (Sp.lostN (rules, schemes, others, strange) (dr, op, at_, ot) n).2.2.1 (Sp.lostN (rules, schemes, others, strange) (dr, op, at_, ot) n).2.2.2) : filter_filter_element.vc R nn n rules schemes others strange dr op at_ ot := by
  obtain ⟨⟨hp, ⟨_, hk, hz⟩, ht, hb⟩, hm⟩ := h
  rw [Sp.pkL] at hk
  obtain ⟨hk, _⟩ := hk
  obtain ⟨_, ⟨ha, _⟩, _, hkl, hkk⟩ := Sp.pkN_eq hk
  simp only [Sp.szL] at hz
  rw [Sp.szN_eq] at hz hb
  unfold Sp.mEl at hm
  rw [Sp.szN_eq] at hm
  rw [Sp.txN_eq] at ht
  obtain ⟨g1, g2, _⟩ := Sp.attrsF_rg (rules, schemes, others, strange) n
  unfold Sp.lb at hb
  simp only at hb
  rw [Sp.elF_eq, Sp.lostN_eq] at hR
  unfold filter_filter_element.vc
  simp only [Sp.node_eta]
  refine ⟨hp, ?_⟩
  rw [cond_dec]
  split
  · rename_i c
    rw [if_pos c, if_pos c] at hR
    exact ⟨by rw [rg64]; omega, hR⟩
  rename_i c
  rw [if_neg c, if_neg c] at hR
  rw [cond_dec]
  split
  · rename_i c2
    rw [if_pos c2, if_pos c2] at hR
    exact ⟨by rw [rg64]; omega, ⟨⟨hp, ⟨hkl, hkk, by omega⟩, by omega, by unfold Sp.lb; simp only; omega⟩, by unfold Sp.mNs2; omega⟩, hR⟩
  rename_i c2
  rw [if_neg c2, if_neg c2] at hR
  refine ⟨⟨hp, hk, by unfold Sp.lb; simp only; omega⟩, ⟨⟨hp, ⟨hkl, hkk, by omega⟩, by omega, by unfold Sp.lb; simp only; omega⟩, by unfold Sp.mNs2; omega⟩, ?_⟩
  cases hv : Sp.voidN n.name with
  | true => rw [hv, if_pos rfl] at hR; exact hR
  | false => rw [hv, if_neg (by decide)] at hR; exact hR
theorem filter_filter_nodes.ok (nn : Nat) (R : Sp.FR (List Vi.Node)) (l : List Vi.Node) (rules : List (Str × Int × List Str × List Str)) (schemes : List Str) (others strange dr op at_ ot : Int) (h : Sp.fOkL (rules, schemes, others, strange) (dr, op, at_, ot) l ∧ Sp.mNs2 l rules schemes others strange dr op at_ ot < nn + 1)
    (hR : R (Sp.nsF (rules, schemes, others, strange) l) rules schemes others strange (Sp.lostL (rules, schemes, others, strange) (dr, op, at_, ot) l).1 (Sp.lostL (rules, schemes, others, strange) (dr, op, at_, ot) l).2.1 (Sp.lostL (rules, schemes, others, strange) (dr, op, at_, ot) l).2.2.1 (Sp.lostL (rules, schemes, others, strange) (dr, op, at_, ot) l).2.2.2) : filter_filter_nodes.vc R nn l rules schemes others strange dr op at_ ot := by
  obtain ⟨⟨hp, ⟨hl, hk, hz⟩, ht, hb⟩, hm⟩ := h
  unfold Sp.mNs2 at hm
  unfold filter_filter_nodes.vc
  refine Lp_rule (fun v => ∃ (q : Nat) (dr' op' at' ot' : Int) (out : List Vi.Node), v = (l, (l.length : Int), (q : Int), rules, schemes, others, strange, dr', op', at', ot', out, ()) ∧ q ≤ l.length ∧ Sp.nsG (rules, schemes, others, strange) out (l.drop q) = Sp.nsF (rules, schemes, others, strange) l ∧
      Sp.lostL (rules, schemes, others, strange) (dr', op', at', ot') (l.drop q) = Sp.lostL (rules, schemes, others, strange) (dr, op, at_, ot) l ∧ Sp.lb (dr', op', at', ot') (Sp.szL (l.drop q)) ∧ Sp.szL out + Sp.szL (l.drop q) ≤ Sp.szL l ∧ Sp.txL out + 3 * Sp.txL (l.drop q) ≤ 3 * Sp.txL l) (fun v => l.length - v.2.2.1.toNat) ?_
    ⟨0, dr, op, at_, ot, [], rfl, Nat.zero_le _, rfl, rfl, hb, by rw [Sp.szL, List.drop_zero]; omega, by rw [Sp.txL, List.drop_zero]; omega⟩
  rintro _ K ⟨q, dr', op', at', ot', out, rfl, hq, he, hlo, hlb, hs, htx⟩ hK
  simp only [filter_filter_nodes.L0]
  rw [cond_dec]
  split
  · have hq' : q < l.length := by omega
    have hmem := Sp.nth_mem (d := Vi.Node.mk 0 0 [] [] [] []) hq'
    have hd := drop_cons (d := Vi.Node.mk 0 0 [] [] [] []) hq'
    rw [hd, Sp.nsG] at he
    rw [hd, Sp.lostL] at hlo
    rw [hd, Sp.szL] at hlb hs
    rw [hd, Sp.txL] at htx
    have hzl := Sp.szL_lt hmem
    have hpk := Sp.pkL_mem hk hmem
    simp only [Sp.node_eta]
    generalize nth l (q : Int) (Vi.Node.mk 0 0 [] [] [] []) = n at *
    have hel := Sp.elF_sz (rules, schemes, others, strange) n
    have htf := Sp.textF_sz n
    have htn := Sp.txN_eq n
    have hpos := Sp.szN_pos n
    have htxn : Sp.txN n ≤ Sp.txL l := by omega
    obtain ⟨_, _, hpt, _, _⟩ := Sp.pkN_eq hpk
    refine ⟨by rw [ix_iff]; omega, ?_⟩
    rw [cond_dec]
    split
    · rename_i c
      rw [if_pos c] at he hlo
      refine ⟨⟨⟨hp, ⟨show 1 ≤ 1000000 by decide, by rw [Sp.pkL, Sp.pkL]; exact ⟨hpk, trivial⟩, by simp only [Sp.szL]; omega⟩, by omega, by unfold Sp.lb at hlb ⊢; omega⟩, by unfold Sp.mEl; omega⟩, ?_⟩
      have hb2 := Sp.lostN_lb (rules, schemes, others, strange) n (dr', op', at', ot') (Sp.szL (l.drop (q + 1))) hpk (by omega) (by unfold Sp.lb at hlb ⊢; omega)
      have hj := Sp.joinL_sz (Sp.elF (rules, schemes, others, strange) n) out
      refine Sp.nodes_L1 K l _ _ _ _ _ _ _ _ _ _ _ _ (by omega) (by omega) (by rw [rg64]; omega) ?_
      exact hK _ ⟨q + 1, _, _, _, _, _, rfl, by omega, he, hlo, hb2, by omega, by omega⟩ (by simp only; omega)
    rename_i c
    rw [if_neg c] at he hlo
    rw [cond_dec]
    split
    · rename_i c2
      rw [if_pos c2] at he hlo
      have hj := Sp.joinL_sz (Sp.textF n) out
      refine ⟨by unfold Sp.textF.pre; omega, ?_⟩
      simp only [Sp.nodes_L2]
      refine Sp.nodes_L1 K l _ _ _ _ _ _ _ _ _ _ _ _ (by omega) (by omega) (by rw [rg64]; omega) ?_
      exact hK _ ⟨q + 1, _, _, _, _, _, rfl, by omega, he, hlo, by unfold Sp.lb at hlb ⊢; omega, by omega, by omega⟩ (by simp only; omega)
    · rename_i c2
      rw [if_neg c2] at he hlo
      have hj := Sp.joinL_sz [] out
      rw [Sp.szL, Sp.txL] at hj
      refine ⟨by unfold Sp.lostOk; unfold Sp.lb at hlb ⊢; omega, ?_⟩
      simp only [Sp.nodes_L3]
      refine Sp.nodes_L1 K l _ _ [] _ _ _ _ _ _ _ _ _ (by rw [Sp.szL]; omega) (by rw [Sp.txL]; omega) (by rw [rg64]; omega) ?_
      exact hK _ ⟨q + 1, _, _, _, _, _, rfl, by omega, he, hlo, by unfold Sp.lb at hlb ⊢; simp only at hlb ⊢; omega, by omega, by omega⟩ (by simp only; omega)
  · have : q = l.length := by omega
    subst this
    rw [List.drop_length, Sp.nsG] at he
    rw [List.drop_length, Sp.lostL] at hlo
    rw [← he, ← hlo] at hR
    exact hR
theorem filter_run.ok (R : List Vi.Node → Int × Int × Int × Int → Int → Prop) (p : List (Str × Int × List Str × List Str) × List Str × Int × Int) (l : List Vi.Node) (h : Sp.runOk p l) (hR : R (Sp.runF p l).1 (Sp.runF p l).2.1 (Sp.runF p l).2.2) : filter_run.vc R p l := by
  obtain ⟨hp, ho, ht⟩ := h
  unfold Sp.runF at hR
  refine ⟨hp, ?_⟩
  rw [cond_ndec]
  split
  · rename_i c
    rw [if_neg (fun e => e c)] at hR
    have := ho.2.2
    exact ⟨⟨hp, ho, ht, by unfold Sp.lb; simp only; omega⟩, hR⟩
  · rename_i c
    rw [if_pos c] at hR
    exact hR
theorem filter_Nodes.ok (R : List Vi.Node → Int → Prop) (p : List (Str × Int × List Str × List Str) × List Str × Int × Int) (l : List Vi.Node) (h : Sp.runOk p l) (hR : R (Sp.runF p l).1 (Sp.runF p l).2.2) : filter_Nodes.vc R p l := ⟨h, hR⟩
theorem filter_Count.ok (R : Int × Int × Int × Int → Int → Prop) (p : List (Str × Int × List Str × List Str) × List Str × Int × Int) (l : List Vi.Node) (h : Sp.runOk p l) (hR : R (Sp.runF p l).2.1 (Sp.runF p l).2.2) : filter_Count.vc R p l := ⟨h, hR⟩
theorem tree_Words_1.ok (R : List Int → Prop) (n : Vi.Node) (d : Int) (x : List Int) (h : Sp.wordX.pre n x) (hR : R (Sp.wordX n x)) : tree_Words_1.vc R n d x := by
  unfold tree_Words_1.vc
  unfold Sp.wordX at hR
  rw [cond_dec]
  split
  · rename_i c; rw [if_pos c] at hR; exact ⟨h, hR⟩
  · rename_i c; rw [if_neg c] at hR; exact hR
namespace Sp
theorem wordsN_eq (n : Vi.Node) : wordsN n = (if n.kind = 2 then n.text else []) ++ wordsL n.kids := by cases n; rw [wordsN]; rfl
theorem wordX_eq (n : Vi.Node) (x : List Int) : wordX n x = wr x (if n.kind = 2 then n.text else []) := by
  unfold wordX
  split
  · rfl
  · rw [wr_nil]
mutual
theorem wordsN_len : ∀ n : Vi.Node, pkN n → (wordsN n).length ≤ 100000 * szN n
  | .mk k s nm a t c, h => by
    obtain ⟨_, _, ht, _, hc⟩ := pkN_eq h
    have := wordsL_len c hc
    have ht : t.length ≤ 100000 := ht
    rw [wordsN, szN, List.length_append]
    split
    · omega
    · rw [List.length_nil]; omega
theorem wordsL_len : ∀ l : List Vi.Node, pkL l → (wordsL l).length ≤ 100000 * szL l
  | [], _ => Nat.zero_le _
  | n :: l, h => by
    rw [pkL] at h
    have := wordsN_len n h.1
    have := wordsL_len l h.2
    rw [wordsL, szL, List.length_append]; omega
end
end Sp
theorem tree_each.ok (nn : Nat) (R : List Int → Prop) (l : List Vi.Node) (d : Int) (x : List Int) (h : Sp.eaOk l d x ∧ Sp.mEa l d x < nn + 1) (hR : R (Sp.wr x (Sp.wordsL l))) : tree_each.vc R nn l d x := by
  obtain ⟨⟨⟨h1, h2, h3⟩, ⟨h4, h5⟩, h6⟩, h7⟩ := h
  unfold Sp.mEa at h7
  unfold tree_each.vc
  refine Lp_rule (fun v => ∃ (q : Nat) (y : List Int), v = (d, l, (l.length : Int), (q : Int), y, ()) ∧ q ≤ l.length ∧ y.length + 200000 * Sp.szL (l.drop q) ≤ 100000000000000 ∧ Sp.wr y (Sp.wordsL (l.drop q)) = Sp.wr x (Sp.wordsL l)) (fun v => l.length - v.2.2.2.1.toNat) ?_ ⟨0, x, rfl, Nat.zero_le _, h6, rfl⟩
  rintro _ K ⟨q, y, rfl, hq, hy, he⟩ hK
  simp only [tree_each.L0, cond_dec]
  split
  · have hq' : q < l.length := by omega
    have hm := Sp.nth_mem (d := Vi.Node.mk 0 0 [] [] [] []) hq'
    rw [Sp.szL_drop l q hq'] at hy
    rw [drop_cons (d := Vi.Node.mk 0 0 [] [] [] []) hq', Sp.wordsL] at he
    have hz := Sp.szL_lt hm
    have hp := Sp.pkL_mem h2 hm
    simp only [Sp.node_eta]
    generalize nth l (q : Int) (Vi.Node.mk 0 0 [] [] [] []) = n at *
    obtain ⟨_, _, hpt, hkl, hkk⟩ := Sp.pkN_eq hp
    rw [Sp.szN_eq] at hz hy
    have hwl := Sp.wordsL_len n.kids hkk
    have hxl : (Sp.wordX n y).length ≤ y.length + 100000 := by
      rw [Sp.wordX_eq, Sp.wr_len]
      split
      · omega
      · rw [List.length_nil]; omega
    refine ⟨by rw [ix_iff]; omega, by unfold Sp.wordX.pre Sp.wr.pre; omega, by rw [rg64]; omega, ⟨⟨⟨hkl, hkk, by omega⟩, ⟨by omega, by omega⟩, by omega⟩, by unfold Sp.mEa; omega⟩, by rw [rg64]; omega, ?_⟩
    refine hK _ ⟨q + 1, _, rfl, by omega, by rw [Sp.wr_len]; omega, ?_⟩ (by simp only; omega)
    rw [← he, Sp.wordX_eq, Sp.wr_wr, Sp.wr_wr, Sp.wordsN_eq, List.append_assoc]
  · have : q = l.length := by omega
    subst this
    rw [List.drop_length, Sp.wordsL, Sp.wr_nil] at he
    rw [he]; exact hR
theorem tree_Words.ok (R : List UInt8 → Prop) (l : List Vi.Node) (h : Sp.woOk l) (hR : R (Sp.wordsL l)) : tree_Words.vc R l := by
  have := h.2.2
  refine ⟨⟨h, ⟨by decide, by omega⟩, by simp only [List.length_nil]; omega⟩, ?_⟩
  rw [Sp.wr_zero, Sp.bytesOf_ints]
  exact hR

/- What may stand of nodes: the laws' own functions; what is left can be gone through. Plain theorems. -/

theorem rectolaw17_large.ok (R : Bool → Prop) (p : List (Str × Int × List Str × List Str) × List Str × Int × Int) (l : List Vi.Node) (h : Sp.large17.pre p l) (hR : R (Sp.large17 p l)) : rectolaw17_large.vc R p l := by
  obtain ⟨rs, sc, o, st⟩ := p
  obtain ⟨h1, h2⟩ := h
  have h1 : rs.length ≤ 9223372036854775807 := h1
  unfold rectolaw17_large.vc
  unfold Sp.large17 Sp.largeP at hR
  simp only at hR ⊢
  rw [cond_dec]
  split
  · rename_i c; rw [decide_eq_true c] at hR; exact hR
  rename_i c1
  rw [decide_eq_false c1, Bool.false_or] at hR
  rw [cond_dec]
  split
  · rename_i c; rw [decide_eq_true c] at hR; exact hR
  rename_i c2
  rw [decide_eq_false c2, Bool.false_or] at hR
  refine Lp_rule (fun v => ∃ q : Nat, v = (l, rs, (rs.length : Int), (q : Int), ()) ∧ q ≤ rs.length ∧ (rs.drop q).any Sp.largeR = rs.any Sp.largeR) (fun v => rs.length - v.2.2.2.1.toNat) ?_ ⟨0, rfl, Nat.zero_le _, rfl⟩
  rintro _ K ⟨q, rfl, hq, he⟩ hK
  simp only [rectolaw17_large.L0, cond_dec]
  split
  · have hq' : q < rs.length := by omega
    rw [drop_cons (d := (([], 0, [], []) : Str × Int × List Str × List Str)) hq', List.any_cons] at he
    generalize nth rs (q : Int) (([], 0, [], []) : Str × Int × List Str × List Str) = r at *
    have bad : Sp.largeR r = true → R true := fun e => by rw [e, Bool.true_or] at he; rw [← he] at hR; exact hR
    unfold Sp.largeR at bad
    refine ⟨by rw [ix_iff]; omega, ?_⟩
    split
    · rename_i c; exact bad (by rw [decide_eq_true c]; rfl)
    rename_i k1
    split
    · rename_i c; exact bad (by rw [decide_eq_true c]; simp)
    rename_i k2
    split
    · rename_i c; exact bad (by rw [decide_eq_true c]; simp)
    · rename_i k3
      have hw : Sp.largeR r = false := by unfold Sp.largeR; rw [decide_eq_false k1, decide_eq_false k2, decide_eq_false k3]; rfl
      rw [hw, Bool.false_or] at he
      exact ⟨by rw [rg64]; omega, hK _ ⟨q + 1, rfl, by omega, he⟩ (by simp only; omega)⟩
  · have : q = rs.length := by omega
    subst this
    rw [List.drop_length, List.any_nil] at he
    rw [← he, Bool.false_or] at hR
    exact ⟨⟨by decide, by decide, by decide, by decide⟩, hR⟩
namespace Sp
theorem font_ok : prOk [Vi.Node.mk 1 0 [115, 99, 114, 105, 112, 116] [] [] [], Vi.Node.mk 2 0 [] [] [97] [], Vi.Node.mk 1 0 [102, 111, 110, 116] [] [] [Vi.Node.mk 2 0 [] [] [98] []]] := by
  refine ⟨by decide, ?_, by simp only [szL, szN]; decide⟩
  simp only [pkL, pkN, okA]
  simp
end Sp
theorem rectolaw17_font.ok (R : Bool → Prop) (hR : R Sp.tt) : rectolaw17_font.vc R :=
  ⟨⟨Sp.polOk_plain, Sp.font_ok, by simp only [Sp.txL, Sp.txN]; decide⟩, ⟨Sp.polOk_plain, Sp.font_ok, by simp only [Sp.txL, Sp.txN]; decide⟩, by rw [ix_iff]; decide, hR⟩
namespace Sp
theorem bareN_eq (n : Vi.Node) : bareN n = (!(decide (n.kind = 1) && voidN n.name && !decide (n.kids = [])) && bareL n.kids) := by cases n; rw [bareN]; rfl
end Sp
theorem rectolaw17_bare.ok (nn : Nat) (R : Bool → Prop) (l : List Vi.Node) (h : Sp.prOk l ∧ Sp.mCt l < nn + 1) (hR : R (Sp.bareL l)) : rectolaw17_bare.vc R nn l := by
  obtain ⟨⟨hl1, hl2, hl3⟩, hs⟩ := h
  unfold Sp.mCt at hs
  unfold rectolaw17_bare.vc
  refine Lp_rule (fun v => ∃ q : Nat, v = (l, (l.length : Int), (q : Int), ()) ∧ q ≤ l.length ∧ Sp.bareL (l.drop q) = Sp.bareL l) (fun v => l.length - v.2.2.1.toNat) ?_ ⟨0, rfl, Nat.zero_le _, rfl⟩
  rintro _ K ⟨q, rfl, hq, he⟩ hK
  simp only [rectolaw17_bare.L0]
  rw [cond_dec]
  split
  · have hq' : q < l.length := by omega
    have hm := Sp.nth_mem (d := Vi.Node.mk 0 0 [] [] [] []) hq'
    rw [drop_cons (d := Vi.Node.mk 0 0 [] [] [] []) hq', Sp.bareL] at he
    have hz := Sp.szL_lt hm
    have hp := Sp.pkL_mem hl2 hm
    generalize nth l (q : Int) (Vi.Node.mk 0 0 [] [] [] []) = n at *
    rw [Sp.szN_eq] at hz
    obtain ⟨_, _, _, k4, k5⟩ := Sp.pkN_eq hp
    have hf := Sp.bareN_eq n
    have bad : Sp.bareN n = false → R false := fun e => by rw [e, Bool.false_and] at he; rw [← he] at hR; exact hR
    have rest (e : (decide (n.kind = 1) && Sp.voidN n.name && !decide (n.kids = [])) = false) :
        (Sp.prOk n.kids ∧ Sp.mCt n.kids < nn) ∧ bif !Sp.bareL n.kids then R false else Rg IntKind.i64 ((q : Int) + 1) ∧ K (l, (l.length : Int), (q : Int) + 1, ()) := by
      rw [e, Bool.not_false, Bool.true_and] at hf
      refine ⟨⟨⟨k4, k5, by omega⟩, by unfold Sp.mCt; omega⟩, ?_⟩
      cases hk : Sp.bareL n.kids with
      | false => exact bad (hf.trans hk)
      | true =>
        rw [hf, hk, Bool.true_and] at he
        exact ⟨by rw [rg64]; omega, hK _ ⟨q + 1, rfl, by omega, he⟩ (by simp only; omega)⟩
    refine ⟨by rw [ix_iff]; omega, ?_⟩
    rw [cond_dec]
    split
    · rename_i c
      rw [decide_eq_true c, Bool.true_and] at hf rest
      cases hv : Sp.voidN n.name with
      | false => exact rest (by rw [hv]; rfl)
      | true =>
        rw [hv, Bool.true_and] at hf rest
        rw [cond_true, cond_dec]
        split
        · rename_i c3
          exact bad (by rw [hf, decide_eq_false (fun e => by rw [e] at c3; simp at c3)]; rfl)
        · rename_i c3
          exact rest (by rw [decide_eq_true (Sp.len0 c3)]; rfl)
    · rename_i c
      exact rest (by rw [decide_eq_false c]; rfl)
  · have : q = l.length := by omega
    subst this
    rw [List.drop_length, Sp.bareL] at he
    rw [← he] at hR; exact hR

namespace Sp
/-! What is left can be gone through. -/
theorem pkL_app {a b : List Vi.Node} : pkL (a ++ b) ↔ pkL a ∧ pkL b := by
  induction a with
  | nil => simp [pkL]
  | cons x a ih => rw [List.cons_append, pkL, pkL, ih, and_assoc]
theorem pkL_one {x : Vi.Node} : pkL [x] ↔ pkN x := by rw [pkL, pkL]; exact ⟨fun h => h.1, fun h => ⟨h, trivial⟩⟩
theorem join1_pk {out : List Vi.Node} {x : Vi.Node} (h1 : pkL out) (h2 : pkN x) (ht : txL out + txN x ≤ 100000) : pkL (join1 out x) := by
  rcases join1_cases out x with ⟨e, _⟩ | ⟨i, y, rfl, _, _, e⟩
  · rw [e, pkL_app, pkL_one]; exact ⟨h1, h2⟩
  · rw [pkL_app, pkL_one] at h1
    obtain ⟨k1, k2, k3, k4, k5⟩ := pkN_eq h1.2
    rw [txL_app] at ht
    simp only [txL] at ht
    have a1 := txN_eq y
    have a2 := txN_eq x
    rw [e, pkL_app, pkL_one]
    refine ⟨h1.1, ?_⟩
    unfold putT
    rw [pkN]
    exact ⟨k1, k2, by rw [List.length_append]; omega, k4, k5⟩
theorem joinL_pk : ∀ {xs out : List Vi.Node}, pkL out → pkL xs → txL out + txL xs ≤ 100000 → pkL (joinL out xs)
  | [], _, h, _, _ => by rw [joinL]; exact h
  | x :: xs, out, h1, h2, ht => by
    rw [pkL] at h2
    rw [txL] at ht
    have hj := join1_sz out x
    simp only [txL] at hj
    rw [joinL]
    exact joinL_pk (join1_pk h1 h2.1 (by omega)) h2.2 (by omega)
theorem atF_mem (p : Pol) (nm : Str) : ∀ (l out : List (Str × Str)) (k : Int) (x : Str × Str), x ∈ (atF p nm out l k).1 → x ∈ out ∨ ∃ a, a ∈ l ∧ staysC p nm a = true ∧ x = (a.1, madeS a.2)
  | [], out, k, x, h => .inl h
  | a :: l, out, k, x, h => by
    rw [atF] at h
    split at h
    · rcases atF_mem p nm l out _ x h with h | ⟨b, hb, h⟩
      · exact .inl h
      · exact .inr ⟨b, List.mem_cons_of_mem _ hb, h⟩
    · rename_i c
      rcases atF_mem p nm l _ _ x h with h | ⟨b, hb, h⟩
      · rcases List.mem_append.1 h with h | h
        · exact .inl h
        · rw [List.mem_singleton] at h
          refine .inr ⟨a, List.mem_cons_self .., ?_, h⟩
          cases e : staysC p nm a with
          | true => rfl
          | false => exact absurd (.inr (.inr e)) c
      · exact .inr ⟨b, List.mem_cons_of_mem _ hb, h⟩
theorem textF_pk {n : Vi.Node} (h : 3 * n.text.length ≤ 100000) : pkL (textF n) := by
  have := made_len3 n.text
  unfold textF
  split
  · rw [pkL]; trivial
  · rw [pkL_one, pkN, pkL]
    exact ⟨by decide, ⟨by decide, fun x hx => (by cases hx)⟩, by omega, by decide, trivial⟩
mutual
theorem elF_pk (p : Pol) : ∀ n : Vi.Node, pkN n → avN 3000 n → 3 * txN n ≤ 100000 → szN n ≤ 1000000 → pkL (elF p n)
  | .mk k s nm a t c, hp, hv, ht, hz => by
    rw [txN] at ht
    rw [szN] at hz
    rw [avN] at hv
    obtain ⟨k1, ⟨ka, kb⟩, _, _, k5⟩ := pkN_eq hp
    have k1 : nm.length ≤ 1000 := k1
    have ka : a.length ≤ 100 := ka
    have k5 : pkL c := k5
    have hk := nsG_pk p c [] k5 hv.2 (by rw [pkL]; trivial) (by rw [txL]; omega) (by omega)
    have hks := nsG_sz p c []
    have hkl := len_szL (nsG p [] c)
    rw [szL] at hks
    rw [elF]
    split
    · rw [pkL]; trivial
    split
    · exact hk
    · rw [pkL_one, pkN]
      obtain ⟨_, _, g3⟩ := attrsF_rg p (.mk k s nm a t c)
      refine ⟨k1, ⟨by omega, fun x hx => ?_⟩, by simp, ?_, ?_⟩
      · rcases atF_mem p nm a [] 0 x hx with h | ⟨b, hb, _, rfl⟩
        · cases h
        · have := made_len3 b.2
          have := hv.1 b hb
          exact ⟨(kb b hb).1, by simp only; omega⟩
      · split
        · simp
        · omega
      · split
        · rw [pkL]; trivial
        · exact hk
theorem nsG_pk (p : Pol) : ∀ (l out : List Vi.Node), pkL l → avL 3000 l → pkL out → txL out + 3 * txL l ≤ 100000 → szL l ≤ 1000000 → pkL (nsG p out l)
  | [], out, _, _, ho, _, _ => by rw [nsG]; exact ho
  | n :: l, out, hl, hv, ho, ht, hz => by
    rw [pkL] at hl
    rw [avL] at hv
    rw [txL] at ht
    rw [szL] at hz
    have h1 := elF_sz p n
    have h2 := textF_sz n
    have h3 := txN_eq n
    have key : ∀ xs, pkL xs → txL xs ≤ 3 * txN n → pkL (nsG p (joinL out xs) l) := fun xs a b => by
      have g1 := joinL_sz xs out
      exact nsG_pk p l _ hl.2 hv.2 (joinL_pk ho a (by omega)) (by omega) (by omega)
    rw [nsG]
    split
    · exact key _ (elF_pk p n hl.1 hv.1 (by omega) (by omega)) h1.2
    split
    · exact key _ (textF_pk (by omega)) (by omega)
    · exact key _ (by rw [pkL]; trivial) (by simp [txL])
end
theorem nsF_ok {p : Pol} {l : List Vi.Node} (h : prOk l) (ht : txL l ≤ 30000) (hv : avL 3000 l) : prOk (nsF p l) := by
  obtain ⟨h1, h2, h3⟩ := h
  have h4 := nsF_sz p l
  have h5 := len_szL (nsF p l)
  exact ⟨by omega, nsG_pk p l [] h2 hv (by rw [pkL]; trivial) (by rw [txL]; omega) h3, by omega⟩
theorem runF_ok {p : Pol} {l : List Vi.Node} (h : runOkW p l) : prOk (runF p l).1 := by
  unfold runF
  split
  · exact ⟨Nat.zero_le _, by simp [pkL], by simp [szL]⟩
  · exact nsF_ok h.1.2.1 h.1.2.2 h.2
mutual
theorem lgN_tx : ∀ (n : Vi.Node) (r d : Int), (lgN n r d).1 = false → avN 3000 n ∧ (txN n : Int) ≤ 16 * (r - (lgN n r d).2)
  | .mk k s nm a t c, r, d, h => by
    rw [lgN] at h ⊢
    split at h
    · cases h
    rename_i c1
    rw [if_neg c1]
    split at h
    · cases h
    rename_i c2
    rw [if_neg c2]
    split at h
    · cases h
    rename_i c3
    rw [if_neg c3]
    have hc : (lgL c (r - 1 - (t.length : Int) / 16 - a.length) (d + 1)).1 = false := by
      cases e : (lgL c (r - 1 - (t.length : Int) / 16 - a.length) (d + 1)).1 with
      | false => rfl
      | true => exact absurd (.inl e) c3
    obtain ⟨g1, g2⟩ := lgL_tx c _ _ hc
    rw [avN, txN]
    refine ⟨⟨fun x hx => ?_, g1⟩, by simp only; omega⟩
    have h1 : a.any (fun x => decide (100 < (x.1.length : Int) ∨ 2000 < (x.2.length : Int))) = false := by
      cases e : a.any (fun x => decide (100 < (x.1.length : Int) ∨ 2000 < (x.2.length : Int))) with
      | false => rfl
      | true => exact absurd (.inl e) c2
    have := List.any_eq_false.1 h1 x hx
    simp only [decide_eq_true_eq] at this
    omega
theorem lgL_tx : ∀ (l : List Vi.Node) (r d : Int), (lgL l r d).1 = false → avL 3000 l ∧ (txL l : Int) ≤ 16 * (r - (lgL l r d).2)
  | [], r, _, _ => by rw [avL, lgL, txL]; exact ⟨trivial, by simp⟩
  | n :: l, r, d, h => by
    rw [lgL] at h ⊢
    split at h
    · rename_i c; rw [c] at h; cases h
    · rename_i c
      rw [if_neg c, avL, txL]
      obtain ⟨g1, g2⟩ := lgN_tx n r d (by cases e : (lgN n r d).1 with | false => rfl | true => exact absurd e c)
      obtain ⟨g3, g4⟩ := lgL_tx l _ _ h
      exact ⟨⟨g1, g3⟩, by omega⟩
end
theorem lg_tx {l : List Vi.Node} {r : Int} (h : (lg l 1 r).1 = false) : avL 3000 l ∧ (txL l : Int) ≤ 16 * r := by
  have h0 := lg_nonneg h
  unfold lg at h h0
  split at h
  · cases h
  rename_i c
  rw [if_neg c] at h0
  split at h
  · rename_i c2; rw [c2] at h; cases h
  · rename_i c2
    rw [if_neg c2] at h0
    obtain ⟨g1, g2⟩ := lgL_tx l r 1 (by cases e : (lgL l r 1).1 with | false => rfl | true => exact absurd e c2)
    exact ⟨g1, by simp only at h0; omega⟩
/-- What is not large can be run. -/
theorem large17_ok {p : Pol} {l : List Vi.Node} (hs : Sz PTy p) (h : large17 p l = false) : runOkW p l ∧ szL l ≤ 800 ∧ txL l ≤ 6400 := by
  unfold large17 at h
  rw [Bool.or_eq_false_iff] at h
  have h1 := pol_small hs h.1
  obtain ⟨h2, h3⟩ := lg_pk h.2 (by decide)
  obtain ⟨h4, h5⟩ := lg_tx h.2
  exact ⟨⟨⟨h1, h2, by omega⟩, h4⟩, by omega, by omega⟩
theorem avL_app {K : Nat} {a b : List Vi.Node} : avL K (a ++ b) ↔ avL K a ∧ avL K b := by
  induction a with
  | nil => simp [avL]
  | cons x a ih => rw [List.cons_append, avL, avL, ih, and_assoc]
theorem runOk_app {p : Pol} {a b : List Vi.Node} (ha : runOkW p a ∧ szL a ≤ 800 ∧ txL a ≤ 6400) (hb : runOkW p b ∧ szL b ≤ 800 ∧ txL b ≤ 6400) : runOkW p (a ++ b) :=
  ⟨⟨ha.1.1.1, (prOk_app ⟨ha.1.1.2.1, by omega⟩ ⟨hb.1.1.2.1, by omega⟩).1, by rw [txL_app]; omega⟩, avL_app.2 ⟨ha.1.2, hb.1.2⟩⟩
end Sp
theorem filter_Words.ok (R : List UInt8 → Int → Prop) (p : List (Str × Int × List Str × List Str) × List Str × Int × Int) (l : List Vi.Node) (h : Sp.runOkW p l) (hR : R (Sp.wordsL (Sp.runF p l).1) (Sp.runF p l).2.2) : filter_Words.vc R p l := ⟨h.1, Sp.runF_ok h, hR⟩

/- What may stand of nodes: the words of what is left; FilterJoins. Plain theorems. -/

namespace Sp
/-- Texts have nothing below. -/
def tl (l : List Vi.Node) : Prop := ∀ y, y ∈ l → y.kind = 2 → y.kids = []
theorem tl_nil : tl [] := fun _ h => (by cases h)
theorem tl_app {a b : List Vi.Node} (ha : tl a) (hb : tl b) : tl (a ++ b) := fun y h => (List.mem_append.1 h).elim (ha y) (hb y)
theorem tl_one {x : Vi.Node} (h : x.kind = 2 → x.kids = []) : tl [x] := fun y hy => by rw [List.mem_singleton] at hy; subst hy; exact h
theorem wordsL_app (a b : List Vi.Node) : wordsL (a ++ b) = wordsL a ++ wordsL b := by
  induction a with
  | nil => rw [wordsL]; rfl
  | cons x a ih => rw [List.cons_append, wordsL, wordsL, ih, List.append_assoc]
theorem wordsL_one (x : Vi.Node) : wordsL [x] = wordsN x := by rw [wordsL, wordsL, List.append_nil]
theorem join1_words {out : List Vi.Node} {x : Vi.Node} (ho : tl out) (hx : x.kind = 2 → x.kids = []) : wordsL (join1 out x) = wordsL out ++ wordsN x ∧ tl (join1 out x) := by
  rcases join1_cases out x with ⟨e, _⟩ | ⟨i, y, rfl, ex, ey, e⟩
  · rw [e, wordsL_app, wordsL_one]; exact ⟨rfl, tl_app ho (tl_one hx)⟩
  · have hy := ho y (by simp) ey
    have hx := hx ex
    rw [e, wordsL_app, wordsL_app, wordsL_one, wordsL_one, wordsN_eq, wordsN_eq y, wordsN_eq x, hx, hy]
    refine ⟨?_, tl_app (fun z hz => ho z (by simp [hz])) (tl_one fun _ => hy)⟩
    show _ ++ ((if y.kind = 2 then y.text ++ x.text else []) ++ wordsL y.kids) = _
    rw [hy, if_pos ey, if_pos ey, if_pos ex, wordsL]
    simp
theorem joinL_words : ∀ {xs out : List Vi.Node}, tl out → tl xs → wordsL (joinL out xs) = wordsL out ++ wordsL xs ∧ tl (joinL out xs)
  | [], out, ho, _ => by rw [joinL, wordsL, List.append_nil]; exact ⟨rfl, ho⟩
  | x :: xs, out, ho, hx => by
    obtain ⟨h1, h2⟩ := join1_words ho (hx x (List.mem_cons_self ..))
    obtain ⟨h3, h4⟩ := joinL_words (xs := xs) h2 fun y hy => hx y (List.mem_cons_of_mem _ hy)
    rw [joinL, h3, h1, wordsL, List.append_assoc]
    exact ⟨rfl, h4⟩
theorem textF_tl (n : Vi.Node) : tl (textF n) := by
  unfold textF
  split
  · exact tl_nil
  · exact tl_one fun _ => rfl
mutual
theorem elF_tl (p : Pol) : ∀ n : Vi.Node, tl (elF p n)
  | .mk k s nm a t c => by
    rw [elF]
    split
    · exact tl_nil
    split
    · exact nsG_tl p c [] tl_nil
    · exact tl_one fun e => by cases e
theorem nsG_tl (p : Pol) : ∀ l out : List Vi.Node, tl out → tl (nsG p out l)
  | [], out, h => by rw [nsG]; exact h
  | n :: l, out, h => by
    rw [nsG]
    split
    · exact nsG_tl p l _ (joinL_words h (elF_tl p n)).2
    split
    · exact nsG_tl p l _ (joinL_words h (textF_tl n)).2
    · exact nsG_tl p l _ (joinL_words h tl_nil).2
end
/-- What one node leaves. -/
def oneF (p : Pol) (n : Vi.Node) : List Vi.Node := if n.kind = 1 then elF p n else if n.kind = 2 then textF n else []
theorem oneF_tl (p : Pol) (n : Vi.Node) : tl (oneF p n) := by
  unfold oneF
  split
  · exact elF_tl p n
  split
  · exact textF_tl n
  · exact tl_nil
theorem nsG_cons (p : Pol) (out : List Vi.Node) (n : Vi.Node) (l : List Vi.Node) : nsG p out (n :: l) = nsG p (joinL out (oneF p n)) l := by rw [nsG]; rfl
theorem nsG_app (p : Pol) : ∀ (a out b : List Vi.Node), nsG p out (a ++ b) = nsG p (nsG p out a) b
  | [], out, b => by rw [nsG]; rfl
  | n :: a, out, b => by rw [List.cons_append, nsG_cons, nsG_cons, nsG_app p a]
theorem nsG_words (p : Pol) : ∀ (l out : List Vi.Node), tl out → wordsL (nsG p out l) = wordsL out ++ wordsL (nsG p [] l)
  | [], out, h => by rw [nsG, nsG, wordsL, List.append_nil]
  | n :: l, out, h => by
    obtain ⟨h1, h2⟩ := joinL_words h (oneF_tl p n)
    obtain ⟨h3, h4⟩ := joinL_words tl_nil (oneF_tl p n)
    rw [nsG_cons, nsG_cons, nsG_words p l _ h2, nsG_words p l _ h4, h1, h3, List.append_assoc]
    rfl
theorem words_app (p : Pol) (a b : List Vi.Node) : wordsL (nsF p (a ++ b)) = wordsL (nsF p a) ++ wordsL (nsF p b) := by
  unfold nsF
  rw [nsG_app, nsG_words p b _ (nsG_tl p a [] tl_nil)]

/-! What is lost. -/
def add4 (a b : L4) : L4 := (a.1 + b.1, a.2.1 + b.2.1, a.2.2.1 + b.2.2.1, a.2.2.2 + b.2.2.2)
theorem l4_eq {a b : L4} (h1 : a.1 = b.1) (h2 : a.2.1 = b.2.1) (h3 : a.2.2.1 = b.2.2.1) (h4 : a.2.2.2 = b.2.2.2) : a = b := by
  obtain ⟨a1, a2, a3, a4⟩ := a
  obtain ⟨b1, b2, b3, b4⟩ := b
  simp only at h1 h2 h3 h4
  rw [h1, h2, h3, h4]
mutual
theorem lostN_add (p : Pol) (lo : L4) : ∀ (n : Vi.Node) (m : L4), lostN p (add4 lo m) n = add4 lo (lostN p m n)
  | .mk k s nm a t c, m => by
    rw [lostN, lostN]
    split
    · exact l4_eq (Int.add_assoc _ _ _) rfl rfl rfl
    split
    · rw [← lostL_add p lo c]
      exact congrArg (fun q => lostL p q c) (l4_eq rfl (Int.add_assoc _ _ _) rfl rfl)
    · rw [← lostL_add p lo c]
      exact congrArg (fun q => lostL p q c) (l4_eq rfl rfl (Int.add_assoc _ _ _) rfl)
theorem lostL_add (p : Pol) (lo : L4) : ∀ (l : List Vi.Node) (m : L4), lostL p (add4 lo m) l = add4 lo (lostL p m l)
  | [], m => by rw [lostL, lostL]
  | n :: l, m => by
    rw [lostL, lostL]
    split
    · rw [lostN_add p lo n, lostL_add p lo l]
    split
    · rw [lostL_add p lo l]
    · rw [← lostL_add p lo l]
      exact congrArg (fun q => lostL p q l) (l4_eq rfl rfl rfl (Int.add_assoc _ _ _))
end
theorem lostL_app (p : Pol) : ∀ (a b : List Vi.Node) (lo : L4), lostL p lo (a ++ b) = lostL p (lostL p lo a) b
  | [], b, lo => by rw [lostL]; rfl
  | n :: a, b, lo => by rw [List.cons_append, lostL, lostL, lostL_app p a b]
theorem lost_app (p : Pol) (a b : List Vi.Node) : lostL p (0, 0, 0, 0) (a ++ b) = add4 (lostL p (0, 0, 0, 0) a) (lostL p (0, 0, 0, 0) b) := by
  rw [lostL_app, ← lostL_add]
  exact congrArg (fun q => lostL p q b) (l4_eq (Int.add_zero _).symm (Int.add_zero _).symm (Int.add_zero _).symm (Int.add_zero _).symm)
theorem lost_rg {p : Pol} {l : List Vi.Node} (h : prOk l) : lb (lostL p (0, 0, 0, 0) l) 0 :=
  lostL_lb p l _ 0 h.2.1 (Int.le_refl _) (by have := h.2.2; unfold lb; simp only; omega)
theorem runF_lost {p : Pol} {l : List Vi.Node} (h : prOk l) : lb (runF p l).2.1 0 := by
  unfold runF
  split
  · unfold lb; simp only; omega
  · exact lost_rg h
theorem runF_words (p : Pol) (a b : List Vi.Node) : wordsL (runF p (a ++ b)).1 = wordsL (runF p a).1 ++ wordsL (runF p b).1 ∧ (runF p (a ++ b)).2.1 = add4 (runF p a).2.1 (runF p b).2.1 ∧ (runF p a).2.2 = (runF p b).2.2 ∧ (runF p b).2.2 = (runF p (a ++ b)).2.2 := by
  unfold runF
  split
  · exact ⟨by rw [wordsL]; rfl, rfl, rfl, rfl⟩
  · exact ⟨words_app p a b, lost_app p a b, rfl, rfl⟩
theorem eqI_self (x : Int) : eqI x x = true := decide_eq_true rfl
end Sp
theorem rectolaw17_FilterJoins.ok (R : Bool → Prop) (p : List (Str × Int × List Str × List Str) × List Str × Int × Int) (a b : List Vi.Node) (h : Sz Sp.PTy p ∧ Sz (.sl .node) a ∧ Sz (.sl .node) b) (hR : R Sp.tt) : rectolaw17_FilterJoins.vc R p a b := by
  refine ⟨Sp.pol_large h.1, ?_⟩
  cases hla : Sp.large17 p a with
  | true => exact hR
  | false =>
  refine ⟨Sp.pol_large h.1, ?_⟩
  cases hlb : Sp.large17 p b with
  | true => exact hR
  | false =>
  obtain ha := Sp.large17_ok h.1 hla
  obtain hb := Sp.large17_ok h.1 hlb
  have hab := Sp.runOk_app ha hb
  have la := Sp.len_szL a
  have lb := Sp.len_szL b
  obtain ⟨e1, e2, e3, e4⟩ := Sp.runF_words p a b
  have wa := Sp.wordsL_len _ (Sp.runF_ok ha.1).2.1
  have wb := Sp.wordsL_len _ (Sp.runF_ok hb.1).2.1
  have za := (Sp.runF_ok ha.1).2.2
  have zb := (Sp.runF_ok hb.1).2.2
  have ba := Sp.runF_lost (p := p) ha.1.1.2.1
  have bb := Sp.runF_lost (p := p) hb.1.1.2.1
  unfold Sp.lb at ba bb
  refine ⟨by rw [gr_iff]; omega, by rw [gr_iff]; omega, ha.1, hb.1, hab, ha.1.1, hb.1.1, hab.1, ?_⟩
  rw [decide_eq_true e3, decide_eq_true e4, decide_eq_true e1, e2]
  refine ⟨by omega, by rw [rg64]; omega, by rw [rg64]; omega, by rw [rg64]; omega, by rw [rg64]; omega, ?_⟩
  simp only [Sp.add4, Sp.eqI_self]
  exact hR

/- What may stand of nodes: an address that was safe is so when it is made right. Plain theorems. -/

namespace Sp
def f13 (b : UInt8) : UInt8 := if b = 13 then 10 else b
theorem enc_hi {c : Int} (h0 : 128 ≤ c) (h : isC c = true) : ∃ b r, encC c = b :: r ∧ 128 ≤ b.toNat := by
  obtain ⟨_, h1⟩ := isC_rg h
  unfold encC
  rw [if_neg (by omega)]
  split
  · exact ⟨_, _, rfl, by rw [b8_nat (by omega) (by omega)]; omega⟩
  split
  · exact ⟨_, _, rfl, by rw [b8_nat (by omega) (by omega)]; omega⟩
  · exact ⟨_, _, rfl, by rw [b8_nat (by omega) (by omega)]; omega⟩
theorem clean_split : ∀ (v : Str) (k : Nat), (rep1 0 [239, 191, 189] (rep1 13 [10] v)).length ≤ k → ∃ u w w', v = u ++ w' ∧ cleanF k (rep1 0 [239, 191, 189] (rep1 13 [10] v)) = u.map f13 ++ w ∧ ((w = [] ∧ w' = []) ∨ ∃ b r, w = b :: r ∧ 128 ≤ b.toNat)
  | [], k, _ => ⟨[], [], [], rfl, by cases k <;> rfl, .inl ⟨rfl, rfl⟩⟩
  | b :: t, k, hk => by
    have e1 : rep1 13 [10] (b :: t) = f13 b :: rep1 13 [10] t := by
      rw [rep1_cons]; unfold f13; split <;> rfl
    rw [e1, rep1_cons] at hk ⊢
    by_cases h0 : f13 b = 0
    · rw [if_pos h0] at hk ⊢
      have he : ([239, 191, 189] : Str) = encC 65533 := by decide
      have hf := first_enc (c := 65533) (by decide) (rep1 0 [239, 191, 189] (rep1 13 [10] t))
      rw [← he] at hf
      cases k with
      | zero => simp at hk
      | succ k =>
        rw [cleanF, if_neg (by simp), hf]
        simp only
        rw [bytes65533]
        exact ⟨[], _, b :: t, rfl, rfl, .inr ⟨239, _, rfl, by decide⟩⟩
    · rw [if_neg h0, List.singleton_append] at hk ⊢
      rw [List.length_cons] at hk
      cases k with
      | zero => omega
      | succ k =>
        rw [cleanF, if_neg (by simp)]
        by_cases hs : (f13 b).toNat < 128
        · have hc : isC ((f13 b).toNat : Int) = true := by rw [isC_eq, decide_eq_true_iff]; omega
          have henc : encC ((f13 b).toNat : Int) = [f13 b] := by
            unfold encC; rw [if_pos (by omega)]
            have := b8_nat (x := ((f13 b).toNat : Int)) (by omega) (by omega)
            rw [UInt8.toNat.inj (a := b8 ((f13 b).toNat : Int)) (b := f13 b) (by rw [this]; omega)]
          have hf := first_enc hc (rep1 0 [239, 191, 189] (rep1 13 [10] t))
          rw [henc, List.singleton_append] at hf
          rw [hf]
          simp only
          rw [bytesC_is hc, henc]
          obtain ⟨u, w, w', g1, g2, g3⟩ := clean_split t k (by omega)
          rw [show (f13 b :: rep1 0 [239, 191, 189] (rep1 13 [10] t)).drop (([f13 b] : Str).length : Int).toNat = rep1 0 [239, 191, 189] (rep1 13 [10] t) from rfl, g2]
          exact ⟨b :: u, w, w', by rw [g1]; rfl, rfl, g3⟩
        · obtain ⟨h1, h2⟩ := first_ok (f13 b) (rep1 0 [239, 191, 189] (rep1 13 [10] t))
          generalize firstC (f13 b :: rep1 0 [239, 191, 189] (rep1 13 [10] t)) = q at *
          obtain ⟨x, r, g1, g2⟩ := enc_hi (c := q.1) (by omega) h1
          rw [bytesC_is h1, g1]
          exact ⟨[], _, b :: t, rfl, rfl, .inr ⟨x, _, rfl, g2⟩⟩
theorem made_split (v : Str) : ∃ u w w', v = u ++ w' ∧ madeS v = u.map f13 ++ w ∧ ((w = [] ∧ w' = []) ∨ ∃ b r, w = b :: r ∧ 128 ≤ b.toNat) := by
  rw [made_eq]
  exact clean_split v _ (Nat.le_refl _)

/-- A byte at which a scheme ends without a colon. -/
def stopB (x : UInt8) : Prop := x ≠ 58 ∧ letB x.toNat = false ∧ moreB x = false
def stops (B : Str) : Prop := B = [] ∨ ∃ x r, B = x :: r ∧ stopB x
theorem stop_low {x : UInt8} (h : lowC x = true) : stopB x := by
  rw [lowC_iff] at h
  refine ⟨fun e => by subst e; exact absurd h (by decide), ?_, ?_⟩
  · unfold letB; rw [decide_eq_false_iff_not]; omega
  · unfold moreB digB
    rw [beq_nat, beq_nat, beq_nat]
    rw [show ((43 : UInt8).toNat) = 43 from rfl, show ((45 : UInt8).toNat) = 45 from rfl, show ((46 : UInt8).toNat) = 46 from rfl]
    simp only [Bool.or_eq_false_iff, decide_eq_false_iff_not]
    omega
theorem stop_hi {x : UInt8} (h : 128 ≤ x.toNat) : stopB x := by
  refine ⟨fun e => by subst e; exact absurd h (by decide), ?_, ?_⟩
  · unfold letB; rw [decide_eq_false_iff_not]; omega
  · unfold moreB digB
    rw [beq_nat, beq_nat, beq_nat]
    rw [show ((43 : UInt8).toNat) = 43 from rfl, show ((45 : UInt8).toNat) = 45 from rfl, show ((46 : UInt8).toNat) = 46 from rfl]
    simp only [Bool.or_eq_false_iff, decide_eq_false_iff_not]
    omega
theorem stops_low {B : Str} (h : ∀ x, x ∈ B → lowC x = true) : stops B := by
  cases B with
  | nil => exact .inl rfl
  | cons x r => exact .inr ⟨x, r, rfl, stop_low (h x (List.mem_cons_self ..))⟩
theorem schF_app : ∀ {A : Str} {f : Bool} {k : Nat} (B : Str), schF f A = some k → schF f (A ++ B) = some k
  | [], _, _, _, h => by cases h
  | x :: t, f, k, B, h => by
    rw [schF] at h
    rw [List.cons_append, schF]
    split at h
    · rename_i c; rw [if_pos c]; exact h
    rename_i c
    rw [if_neg c]
    split at h
    · rename_i c2
      rw [if_pos c2]
      cases e : schF false t with
      | none => rw [e] at h; cases h
      | some j => rw [e] at h; rw [schF_app B e]; exact h
    · cases h
theorem schF_cut : ∀ {A : Str} {f : Bool} {k : Nat} {B : Str}, stops B → schF f (A ++ B) = some k → schF f A = some k ∧ k < A.length
  | [], f, k, B, hB, h => by
    exfalso
    rw [List.nil_append] at h
    rcases hB with rfl | ⟨x, r, rfl, h1, h2, h3⟩
    · cases h
    · rw [schF, if_neg h1, h2, h3] at h
      cases f <;> simp at h
  | x :: t, f, k, B, hB, h => by
    rw [List.cons_append, schF] at h
    rw [schF]
    split at h
    · rename_i c; rw [if_pos c]
      have : 0 = k := by simpa using h
      subst this
      exact ⟨rfl, by simp⟩
    rename_i c
    rw [if_neg c]
    split at h
    · rename_i c2
      rw [if_pos c2]
      cases e : schF false (t ++ B) with
      | none => rw [e] at h; cases h
      | some j =>
        rw [e] at h
        obtain ⟨g1, g2⟩ := schF_cut hB e
        have : j + 1 = k := by simpa using h
        subst this
        rw [g1]
        exact ⟨rfl, by rw [List.length_cons]; omega⟩
    · cases h
theorem f13_low (b : UInt8) : lowC (f13 b) = lowC b := by
  unfold f13; split
  · rename_i c; subst c; rfl
  · rfl
theorem dw_f13 (s : Str) : (s.map f13).dropWhile lowC = (s.dropWhile lowC).map f13 := by
  induction s with
  | nil => rfl
  | cons b t ih =>
    rw [List.map_cons, List.dropWhile_cons, List.dropWhile_cons, f13_low]
    split
    · exact ih
    · rfl
theorem trim_f13 (s : Str) : trimR (s.map f13) = (trimR s).map f13 := by
  unfold trimR
  rw [← List.map_reverse, dw_f13, List.map_reverse]
theorem filter_f13 (s : Str) : (s.map f13).filter keepB = s.filter keepB := by
  induction s with
  | nil => rfl
  | cons b t ih =>
    rw [List.map_cons, List.filter_cons, List.filter_cons, ih]
    unfold f13
    split
    · rename_i c; subst c; rfl
    · rfl
theorem plain_f13 (s : Str) : plainU (s.map f13) = plainU s := by
  unfold plainU
  rw [dw_f13, trim_f13, filter_f13]
theorem trim_hd {b : UInt8} (r : Str) (h : lowC b = false) : ∃ z, trimR (b :: r) = b :: z := by
  by_cases e : trimR r = []
  · have := trimR_low (trimR_nil_low e) [b]
    rw [List.singleton_append] at this
    rw [this, show ([b] : Str) = [] ++ [b] from rfl, trimR_app, h]
    exact ⟨[], rfl⟩
  · have := trimR_not e [b]
    rw [List.singleton_append] at this
    exact ⟨_, this⟩
theorem trim_split (s : Str) : ∃ z, s = trimR s ++ z ∧ ∀ x, x ∈ z → lowC x = true := by
  refine ⟨(s.reverse.takeWhile lowC).reverse, ?_, fun x hx => ?_⟩
  · unfold trimR
    rw [← List.reverse_append, List.takeWhile_append_dropWhile, List.reverse_reverse]
  · rw [List.mem_reverse] at hx
    have h := List.all_takeWhile (p := lowC) (l := s.reverse)
    exact List.all_eq_true.1 h x hx
theorem hi_low {b : UInt8} (h : 128 ≤ b.toNat) : lowC b = false := by
  cases e : lowC b with
  | false => rfl
  | true => rw [lowC_iff] at e; omega
theorem hi_keep {b : UInt8} (h : 128 ≤ b.toNat) : keepB b = true := by
  rw [keepB_iff]; omega
/-- The scheme of the plain form. -/
theorem scheme_eq (s : Str) : schemeP s = (schName (plainU s) [], schHas (plainU s) false) := rfl
theorem scheme_of {x y : Str} {k : Nat} (hx : schF true x = some k) (hy : schF true y = some k) (ht : x.take k = y.take k) : (schName x [], schHas x false) = (schName y [], schHas y false) := by
  have ex : schN x = k := by unfold schN; rw [hx]; rfl
  have ey : schN y = k := by unfold schN; rw [hy]; rfl
  unfold schName schHas
  rw [ex, ey, Int.toNat_natCast, ht]
theorem scheme_made (v : Str) (h : (schemeP (madeS v)).2 = true) : schemeP v = schemeP (madeS v) := by
  obtain ⟨u, w, w', rfl, hm, hw⟩ := made_split v
  rw [hm] at h ⊢
  rcases hw with ⟨rfl, rfl⟩ | ⟨b, r, rfl, hb⟩
  · rw [List.append_nil, List.append_nil, scheme_eq, scheme_eq, plain_f13]
  rw [scheme_eq] at h ⊢
  rw [scheme_eq]
  obtain ⟨k, hk, _⟩ : ∃ k, schF true (plainU (u.map f13 ++ b :: r)) = some k ∧ True := by
    unfold schHas schN at h
    cases e : schF true (plainU (u.map f13 ++ b :: r)) with
    | none => rw [e] at h; simp at h
    | some k => exact ⟨k, rfl, trivial⟩
  obtain ⟨z, hz⟩ := trim_hd r (hi_low hb)
  by_cases hD : u.dropWhile lowC = []
  · exfalso
    have hall := dropWhile_nil (a := u.map f13) (by rw [dw_f13, hD]; rfl)
    unfold plainU at hk
    rw [dropWhile_low hall, List.dropWhile_cons, hi_low hb, if_neg (by decide), hz, List.filter_cons, if_pos (hi_keep hb)] at hk
    have := schF_cut (A := []) (.inr ⟨b, _, rfl, stop_hi hb⟩) hk
    exact absurd this.2 (by simp)
  · have hD' : (u.map f13).dropWhile lowC ≠ [] := by
      rw [dw_f13]
      intro e
      exact hD (List.map_eq_nil_iff.1 e)
    have p1 : plainU (u.map f13 ++ b :: r) = (u.dropWhile lowC).filter keepB ++ (b :: z.filter keepB) := by
      unfold plainU
      rw [dropWhile_not hD', trimR_not (by rw [hz]; simp), hz, List.filter_append, dw_f13, filter_f13, List.filter_cons, if_pos (hi_keep hb)]
    rw [p1] at hk ⊢
    obtain ⟨k1, k2⟩ := schF_cut (.inr ⟨b, _, rfl, stop_hi hb⟩) hk
    generalize hDD : u.dropWhile lowC = D at *
    have tk : ∀ B : Str, (D.filter keepB ++ B).take k = (D.filter keepB).take k := fun B => List.take_append_of_le_length (by omega)
    by_cases hw : trimR w' = []
    · have p2 : plainU (u ++ w') = (trimR D).filter keepB := by
        unfold plainU
        rw [dropWhile_not (by rw [hDD]; exact hD), trimR_low (trimR_nil_low hw), hDD]
      obtain ⟨q, hq, hlow⟩ := trim_split D
      have hf : D.filter keepB = (trimR D).filter keepB ++ q.filter keepB := by
        conv => lhs; rw [hq]
        rw [List.filter_append]
      have k3 := k1
      rw [hf] at k3
      obtain ⟨k4, k5⟩ := schF_cut (stops_low (B := q.filter keepB) fun x hx => hlow x (List.mem_filter.1 hx).1) k3
      rw [p2]
      refine scheme_of k4 hk ?_
      rw [tk, hf, List.take_append_of_le_length (by omega)]
    · have p2 : plainU (u ++ w') = D.filter keepB ++ (trimR w').filter keepB := by
        unfold plainU
        rw [dropWhile_not (by rw [hDD]; exact hD), trimR_not hw, hDD, List.filter_append]
      rw [p2]
      exact scheme_of (schF_app _ k1) hk (by rw [tk, tk])
theorem safe_made {v : Str} {l : List Str} (h : safeP v l = true) : safeP (madeS v) l = true := by
  unfold safeP at h ⊢
  cases e : (schemeP (madeS v)).2 with
  | false => rfl
  | true => rw [scheme_made v e, e] at h; exact h
theorem stays_made {p : Pol} {nm : Str} {a : Str × Str} (h : staysC p nm a = true) : staysC p nm (a.1, madeS a.2) = true := by
  unfold staysC staysP at h ⊢
  simp only [Bool.and_eq_true, Bool.or_eq_true] at h ⊢
  exact ⟨h.1, h.2.1, h.2.2.imp (fun e => e) fun e => ⟨e.1, safe_made e.2⟩⟩
end Sp

/- What may stand of nodes: what is left is allowed, and stays: FilterAllows, FilterStays. Plain theorems. -/

namespace Sp
/-! Attributes that stay. -/
def atOk (p : Pol) (nm : Str) (a : List (Str × Str)) : Prop := a.length ≤ 12 ∧ a.Pairwise (fun x y => x.1 ≠ y.1) ∧ ∀ x, x ∈ a → staysC p nm x = true ∧ okT x.2
theorem anySame_false {l : List (Str × Str)} {n : Str} (h : ∀ x, x ∈ l → x.1 ≠ n) : anySame l n = false := by
  unfold anySame
  rw [List.any_eq_false]
  intro x hx
  unfold sameN
  rw [decide_eq_true_iff]
  exact h x hx
theorem atF_fix (p : Pol) (nm : Str) : ∀ (l out : List (Str × Str)) (k : Int), atOk p nm (out ++ l) → atF p nm out l k = (out ++ l, k)
  | [], out, k, _ => by rw [atF, List.append_nil]
  | a :: l, out, k, h => by
    obtain ⟨h1, h2, h3⟩ := h
    have ha := h3 a (by simp)
    have hn : anySame out a.1 = false := anySame_false fun x hx => (List.pairwise_append.1 h2).2.2 x hx a (List.mem_cons_self ..)
    rw [List.length_append, List.length_cons] at h1
    rw [atF, if_neg (by rw [hn, ha.1]; rintro (e | e | e); cases e; omega; cases e), made_ok ha.2]
    have := atF_fix p nm l (out ++ [a]) k (by rw [List.append_assoc]; exact ⟨by rw [List.length_append, List.length_append, List.length_singleton]; omega, h2, h3⟩)
    rw [List.append_assoc] at this
    exact this
theorem atF_ok (p : Pol) (nm : Str) : ∀ (l out : List (Str × Str)) (k : Int), atOk p nm out → atOk p nm (atF p nm out l k).1
  | [], out, k, h => h
  | a :: l, out, k, h => by
    rw [atF]
    split
    · exact atF_ok p nm l out _ h
    · rename_i c
      simp only [not_or, Bool.not_eq_true, Bool.not_eq_false] at c
      obtain ⟨c1, c2, c3⟩ := c
      obtain ⟨h1, h2, h3⟩ := h
      refine atF_ok p nm l _ _ ⟨by rw [List.length_append, List.length_singleton]; omega, ?_, fun x hx => ?_⟩
      · rw [List.pairwise_append]
        refine ⟨h2, List.pairwise_singleton .., fun x hx y hy => ?_⟩
        rw [List.mem_singleton] at hy
        subst hy
        unfold anySame at c1
        rw [List.any_eq_false] at c1
        have := c1 x hx
        unfold sameN at this
        rw [decide_eq_true_iff] at this
        exact this
      · rcases List.mem_append.1 hx with hx | hx
        · exact h3 x hx
        · rw [List.mem_singleton] at hx
          subst hx
          exact ⟨stays_made c3, made_right a.2⟩
theorem attrsF_ok (p : Pol) (n : Vi.Node) : atOk p n.name (attrsF p n).1 := atF_ok p n.name n.attrs [] 0 ⟨by decide, List.Pairwise.nil, fun x hx => by cases hx⟩
theorem attrsF_fix {p : Pol} {n : Vi.Node} (h : atOk p n.name n.attrs) : attrsF p n = (n.attrs, 0) := atF_fix p n.name n.attrs [] 0 h

/-! Policies. -/
theorem pol_form {p : Pol} (h : checkP p = 0) : (p.2.2.1 = 2 ∨ p.2.2.1 = 3) ∧ (p.2.2.2 = 2 ∨ p.2.2.2 = 3) ∧ ∀ r, r ∈ p.1 → 1 ≤ r.2.1 ∧ r.2.1 ≤ 3 := by
  unfold checkP at h
  split at h
  · cases h
  split at h
  · cases h
  split at h
  · cases h
  rename_i c
  rw [Bool.not_eq_false] at c
  unfold formedP at c
  simp only [Bool.and_eq_true, Bool.not_eq_true'] at c
  obtain ⟨⟨⟨c1, c2⟩, _⟩, c4⟩ := c
  unfold awayB at c1 c2
  simp only [Bool.or_eq_true, decide_eq_true_eq] at c1 c2
  refine ⟨c1, c2, fun r hr => ?_⟩
  unfold anyNR at c4
  rw [List.any_eq_false] at c4
  have := c4 r hr
  unfold notRight rightR at this
  simp only [Bool.not_eq_true', Bool.not_eq_false, Bool.and_eq_true, decide_eq_true_eq] at this
  exact ⟨this.1.1.2, this.1.2⟩
theorem act_eq {p : Pol} (h : checkP p = 0) (s : Int) (n : Str) : actC p s n = actP p s n := by
  unfold actC; rw [if_neg (fun e => e h)]
theorem act_rg {p : Pol} (h : checkP p = 0) (s : Int) (n : Str) : 1 ≤ actC p s n ∧ actC p s n ≤ 3 ∧ (actC p s n = 1 → s = 0) := by
  obtain ⟨h1, h2, h3⟩ := pol_form h
  rw [act_eq h]
  unfold actP
  split
  · omega
  · rename_i c
    rw [Decidable.not_not] at c
    refine ⟨?_, ?_, fun _ => c⟩ <;>
    · unfold ruleP
      split
      · rename_i r hr
        have := h3 r (List.mem_of_find?_eq_some hr)
        omega
      · simp only; omega

/-! Nodes that stay. -/
mutual
def fxN (p : Pol) : Vi.Node → Prop
  | .mk k s n a t c => (k = 2 ∧ s = 0 ∧ n = [] ∧ a = [] ∧ c = [] ∧ t ≠ [] ∧ okT t) ∨ (k = 1 ∧ s = 0 ∧ t = [] ∧ actC p 0 n = 1 ∧ atOk p n a ∧ (voidN n = true → c = []) ∧ fxL p false c)
/-- Nodes that stay as they are, behind a text? -/
def fxL (p : Pol) : Bool → List Vi.Node → Prop
  | _, [] => True
  | b, n :: l => ¬ (n.kind = 2 ∧ b = true) ∧ fxN p n ∧ fxL p (decide (n.kind = 2)) l
end
def ltx : Bool → List Vi.Node → Bool
  | b, [] => b
  | _, n :: l => ltx (decide (n.kind = 2)) l
theorem ltx_snoc (y : Vi.Node) : ∀ (i : List Vi.Node) (b : Bool), ltx b (i ++ [y]) = decide (y.kind = 2)
  | [], _ => rfl
  | _ :: i, _ => ltx_snoc y i _
theorem fx_snoc (p : Pol) (x : Vi.Node) : ∀ (l : List Vi.Node) (b : Bool), fxL p b (l ++ [x]) ↔ fxL p b l ∧ ¬ (x.kind = 2 ∧ ltx b l = true) ∧ fxN p x
  | [], b => by rw [List.nil_append, fxL, fxL, fxL, ltx]; exact ⟨fun h => ⟨trivial, h.1, h.2.1⟩, fun h => ⟨h.2.1, h.2.2, trivial⟩⟩
  | n :: l, b => by
    rw [List.cons_append, fxL, fxL, ltx, fx_snoc p x l, and_assoc, and_assoc]
theorem fx_mem {p : Pol} : ∀ {l : List Vi.Node} {b : Bool}, fxL p b l → ∀ x, x ∈ l → fxN p x
  | [], _, _, x, hx => by cases hx
  | n :: l, b, h, x, hx => by
    rw [fxL] at h
    rcases List.mem_cons.1 hx with rfl | hx
    · exact h.2.1
    · exact fx_mem h.2.2 x hx
theorem fxN_text {p : Pol} {n : Vi.Node} (h : fxN p n) (k : n.kind = 2) : n = .mk 2 0 [] [] n.text [] ∧ n.text ≠ [] ∧ okT n.text := by
  obtain ⟨kd, s, nm, a, t, c⟩ := n
  have k : kd = 2 := k
  rw [fxN] at h
  rcases h with ⟨_, rfl, rfl, rfl, rfl, h1, h2⟩ | ⟨e, _⟩
  · subst k; exact ⟨rfl, h1, h2⟩
  · omega
theorem fxN_el {p : Pol} {n : Vi.Node} (h : fxN p n) (k : n.kind ≠ 2) : n = .mk 1 0 n.name n.attrs [] n.kids ∧ actC p 0 n.name = 1 ∧ atOk p n.name n.attrs ∧ (voidN n.name = true → n.kids = []) ∧ fxL p false n.kids := by
  obtain ⟨kd, s, nm, a, t, c⟩ := n
  have k : kd ≠ 2 := k
  rw [fxN] at h
  rcases h with ⟨e, _⟩ | ⟨rfl, rfl, rfl, h1, h2, h3, h4⟩
  · exact absurd e k
  · exact ⟨rfl, h1, h2, h3, h4⟩
theorem fxN_put {p : Pol} {y x : Vi.Node} (hy : fxN p y) (ky : y.kind = 2) (hx : fxN p x) (kx : x.kind = 2) : fxN p (putT y x.text) := by
  obtain ⟨e1, n1, o1⟩ := fxN_text hy ky
  obtain ⟨_, n2, o2⟩ := fxN_text hx kx
  obtain ⟨kd, s, nm, a, t, c⟩ := y
  rw [Vi.Node.mk.injEq] at e1
  obtain ⟨rfl, rfl, rfl, rfl, _, rfl⟩ := e1
  unfold putT
  rw [fxN]
  exact .inl ⟨rfl, rfl, rfl, rfl, rfl, fun e => n1 (List.append_eq_nil_iff.1 e).1, okT_app o1 o2⟩
theorem join1_fx {p : Pol} {out : List Vi.Node} {x : Vi.Node} (h : fxL p false out) (hx : fxN p x) : fxL p false (join1 out x) := by
  rcases join1_cases out x with ⟨e, ho⟩ | ⟨i, y, rfl, ex, ey, e⟩
  · rw [e, fx_snoc]
    refine ⟨h, ?_, hx⟩
    rcases ho with rfl | ⟨i, y, rfl, hn⟩
    · rintro ⟨_, e⟩; cases e
    · rw [ltx_snoc, decide_eq_true_iff]; exact hn
  · rw [fx_snoc] at h
    rw [e, fx_snoc]
    exact ⟨h.1, fun q => h.2.1 ⟨ey, q.2⟩, fxN_put h.2.2 ey hx ex⟩
theorem joinL_fx {p : Pol} : ∀ {xs out : List Vi.Node}, fxL p false out → (∀ x, x ∈ xs → fxN p x) → fxL p false (joinL out xs)
  | [], _, h, _ => by rw [joinL]; exact h
  | x :: xs, out, h, hx => by
    rw [joinL]
    exact joinL_fx (join1_fx h (hx x (List.mem_cons_self ..))) fun y hy => hx y (List.mem_cons_of_mem _ hy)
theorem textF_fx (p : Pol) (n : Vi.Node) : ∀ x, x ∈ textF n → fxN p x := by
  intro x hx
  unfold textF at hx
  split at hx
  · cases hx
  · rename_i c
    rw [List.mem_singleton] at hx
    subst hx
    rw [fxN]
    exact .inl ⟨rfl, rfl, rfl, rfl, rfl, made_ne c, made_right _⟩
mutual
theorem elF_fx {p : Pol} (hp : checkP p = 0) : ∀ n : Vi.Node, ∀ x, x ∈ elF p n → fxN p x
  | .mk k s nm a t c, x, hx => by
    obtain ⟨g1, g2, g3⟩ := act_rg hp s nm
    have hk := nsG_fx hp c [] (by rw [fxL]; trivial)
    rw [elF] at hx
    split at hx
    · cases hx
    split at hx
    · exact fx_mem hk x hx
    · have e1 : actC p s nm = 1 := by omega
      have e0 := g3 e1
      subst e0
      rw [List.mem_singleton] at hx
      subst hx
      rw [fxN]
      refine .inr ⟨rfl, rfl, rfl, e1, attrsF_ok p (.mk k 0 nm a t c), fun hv => by rw [if_pos hv], ?_⟩
      split
      · rw [fxL]; trivial
      · exact hk
theorem nsG_fx {p : Pol} (hp : checkP p = 0) : ∀ l out : List Vi.Node, fxL p false out → fxL p false (nsG p out l)
  | [], out, h => by rw [nsG]; exact h
  | n :: l, out, h => by
    rw [nsG]
    split
    · exact nsG_fx hp l _ (joinL_fx h (elF_fx hp n))
    split
    · exact nsG_fx hp l _ (joinL_fx h (textF_fx p n))
    · exact nsG_fx hp l _ (joinL_fx h fun x hx => by cases hx)
end
theorem textF_fix {p : Pol} {n : Vi.Node} (h : fxN p n) (k : n.kind = 2) : textF n = [n] := by
  obtain ⟨e, h1, h2⟩ := fxN_text h k
  unfold textF
  rw [if_neg h1, made_ok h2]
  exact congrArg (fun q => [q]) e.symm
theorem join1_fix {out : List Vi.Node} {n : Vi.Node} (h : ¬ (n.kind = 2 ∧ ltx false out = true)) : join1 out n = out ++ [n] := by
  rcases join1_cases out n with ⟨e, _⟩ | ⟨i, y, rfl, ex, ey, _⟩
  · exact e
  · exact absurd ⟨ex, by rw [ltx_snoc, decide_eq_true ey]⟩ h
mutual
theorem elF_fix {p : Pol} : ∀ n : Vi.Node, fxN p n → n.kind = 1 → elF p n = [n]
  | .mk k s nm a t c, h, hk => by
    have hk : k = 1 := hk
    subst hk
    obtain ⟨e, h1, h2, h3, h4⟩ := fxN_el h (by show (1 : Int) ≠ 2; decide)
    rw [Vi.Node.mk.injEq] at e
    obtain ⟨_, rfl, _, _, rfl, _⟩ := e
    have h1 : actC p 0 nm = 1 := h1
    have h3 : voidN nm = true → c = [] := h3
    have hc := nsG_fix c [] h4
    rw [elF, if_neg (by omega), if_neg (by omega), attrsF_fix h2, hc]
    split
    · rename_i hv
      rw [h3 hv]; rfl
    · rfl
theorem nsG_fix {p : Pol} : ∀ l out : List Vi.Node, fxL p (ltx false out) l → nsG p out l = out ++ l
  | [], out, _ => by rw [nsG, List.append_nil]
  | n :: l, out, h => by
    rw [fxL] at h
    obtain ⟨h1, h2, h3⟩ := h
    have key : nsG p (joinL out [n]) l = out ++ n :: l := by
      rw [joinL, joinL, join1_fix h1, nsG_fix l (out ++ [n]) (by rw [ltx_snoc]; exact h3), List.append_assoc]
      rfl
    rw [nsG]
    split
    · rename_i c
      rw [elF_fix n h2 c]; exact key
    rename_i c
    split
    · rename_i c2
      rw [textF_fix h2 c2]; exact key
    · rename_i c2
      obtain ⟨e, _⟩ := fxN_el h2 c2
      exact absurd (by rw [e]; rfl) c
end
theorem nsF_fix {p : Pol} {l : List Vi.Node} (h : fxL p false l) : nsF p l = l := nsG_fix l [] h
mutual
theorem lostN_fix {p : Pol} : ∀ (n : Vi.Node) (lo : L4), fxN p n → n.kind = 1 → lostN p lo n = lo
  | .mk k s nm a t c, lo, h, hk => by
    have hk : k = 1 := hk
    subst hk
    obtain ⟨e, h1, h2, h3, h4⟩ := fxN_el h (by show (1 : Int) ≠ 2; decide)
    rw [Vi.Node.mk.injEq] at e
    obtain ⟨_, rfl, _, _, rfl, _⟩ := e
    have h1 : actC p 0 nm = 1 := h1
    have h4 : fxL p false c := h4
    rw [lostN, if_neg (by omega), if_neg (by omega), attrsF_fix h2, lostL_fix c _ _ h4]
    exact l4_eq rfl rfl (Int.add_zero _) rfl
theorem lostL_fix {p : Pol} : ∀ (l : List Vi.Node) (lo : L4) (b : Bool), fxL p b l → lostL p lo l = lo
  | [], lo, _, _ => by rw [lostL]
  | n :: l, lo, b, h => by
    rw [fxL] at h
    rw [lostL]
    split
    · rename_i c
      rw [lostN_fix n lo h.2.1 c, lostL_fix l _ _ h.2.2]
    rename_i c
    split
    · exact lostL_fix l _ _ h.2.2
    · rename_i c2
      obtain ⟨e, _⟩ := fxN_el h.2.1 c2
      exact absurd (by rw [e]; rfl) c
end
theorem stays_at {p : Pol} {nm : Str} {a : List (Str × Str)} (h : atOk p nm a) (n : Vi.Node) (hn : n.name = nm) : anyAt a p n = false := by
  unfold anyAt
  rw [List.any_eq_false]
  intro x hx
  have := (h.2.2 x hx).1
  unfold staysC at this
  rw [Bool.and_eq_true] at this
  unfold notStays
  rw [hn, this.2]
  decide
mutual
theorem fiN_fix {p : Pol} (hp : checkP p = 0) : ∀ n : Vi.Node, fxN p n → (fiN p n).2 = false
  | .mk k s nm a t c, h => by
    rw [fiN]
    by_cases hk : k = 2
    · subst hk
      obtain ⟨e, _⟩ := fxN_text h rfl
      rw [Vi.Node.mk.injEq] at e
      obtain ⟨_, _, _, _, _, rfl⟩ := e
      have : allowsN p (.mk 2 s nm a t []) = true := by unfold allowsN; exact if_pos rfl
      rw [this, if_neg (by decide), fiL]
    · obtain ⟨e, h1, h2, h3, h4⟩ := fxN_el h hk
      rw [Vi.Node.mk.injEq] at e
      obtain ⟨rfl, rfl, _, _, rfl, _⟩ := e
      have h1 : actC p 0 nm = 1 := h1
      have h4 : fxL p false c := h4
      rw [act_eq hp] at h1
      have : allowsN p (.mk 1 0 nm a [] c) = true := by
        unfold allowsN
        rw [if_neg (by show ¬ (1 : Int) = 2; decide), if_pos (by show (1 : Int) = 1; rfl), stays_at h2 _ rfl]
        show (decide (actP p 0 nm = 1) && !false) = true
        rw [decide_eq_true h1]; rfl
      rw [this, if_neg (by decide)]
      exact fiL_fix hp c _ h4
theorem fiL_fix {p : Pol} (hp : checkP p = 0) : ∀ (l : List Vi.Node) (b : Bool), fxL p b l → (fiL p l).2 = false
  | [], _, _ => by rw [fiL]
  | n :: l, b, h => by
    rw [fxL] at h
    have hn := fiN_fix hp n h.2.1
    rw [fiL, if_neg (by rw [hn]; decide)]
    exact fiL_fix hp l _ h.2.2
end
theorem allows_fix {p : Pol} {l : List Vi.Node} (hp : checkP p = 0) (h : fxL p false l) : allowsP p l = true := by
  unfold allowsP
  rw [decide_eq_true hp, fiL_fix hp l false h]; rfl

/-! Nodes that are right, allowed and bare stay. -/
theorem dup_pair {a : List (Str × Str)} (h : dupB a = false) : a.Pairwise (fun x y => x.1 ≠ y.1) := by
  unfold dupB at h
  rw [decide_eq_false_iff_not] at h
  rw [List.pairwise_iff_getElem]
  intro i j hi hj hij e
  refine h ⟨j, hj, i, hij, ?_⟩
  rw [List.getD_eq_getElem?_getD, List.getD_eq_getElem?_getD, List.getElem?_eq_getElem hj, List.getElem?_eq_getElem hi]
  exact e.symm
theorem wrong_at {p : Pol} (hp : checkP p = 0) {nm : Str} {a : List (Str × Str)} {n : Vi.Node} (hn : n.name = nm) (h : wrongT nm a = 0) (ha : anyAt a p n = false) : atOk p nm a := by
  unfold wrongT at h
  split at h
  · cases h
  split at h
  · cases h
  rename_i c2
  split at h
  · cases h
  rename_i c3
  split at h
  · cases h
  rename_i c4
  rw [Bool.not_eq_true] at c2 c3
  refine ⟨by omega, dup_pair c3, fun x hx => ⟨?_, ?_⟩⟩
  · unfold anyAt at ha
    rw [List.any_eq_false] at ha
    have := ha x hx
    unfold notStays at this
    rw [hn] at this
    unfold staysC
    rw [decide_eq_true hp, Bool.true_and]
    cases e : staysP p nm x with
    | true => rfl
    | false => rw [e] at this; exact absurd rfl this
  · rw [List.any_eq_false] at c2
    have := c2 x hx
    simp only [Bool.or_eq_true, Bool.not_eq_true', not_or, Bool.not_eq_false] at this
    exact good_ok this.2
mutual
theorem stay_N {p : Pol} (hp : checkP p = 0) : ∀ n : Vi.Node, riN n = true → (fiN p n).2 = false → bareN n = true → fxN p n
  | .mk k s nm a t c, h1, h2, h3 => by
    rw [fiN] at h2
    split at h2
    · cases h2
    rename_i ca
    rw [Bool.not_eq_false] at ca
    rw [bareN, Bool.and_eq_true] at h3
    rw [riN] at h1
    rw [fxN]
    unfold allowsN at ca
    split at h1
    · rename_i ck
      simp only [Bool.and_eq_true, Bool.or_eq_true, decide_eq_true_eq, Bool.not_eq_true', decide_eq_false_iff_not] at h1
      obtain ⟨⟨⟨⟨⟨e1, e2⟩, e3⟩, e4⟩, e5⟩, e6⟩ := h1
      have hk : k = 2 := by
        rcases ck with e | e
        · exact e
        · exfalso
          subst e
          rw [if_neg (by show ¬ (3 : Int) = 2; decide), if_neg (by show ¬ (3 : Int) = 1; decide)] at ca
          cases ca
      exact .inl ⟨hk, e1, e2, e3, e4, e6.resolve_left (by omega), good_ok e5⟩
    · rename_i ck
      simp only [Bool.and_eq_true, decide_eq_true_eq] at h1
      obtain ⟨⟨⟨⟨⟨e1, e2⟩, e3⟩, e4⟩, e5⟩, e6⟩ := h1
      subst e1
      rw [if_neg (by show ¬ (1 : Int) = 2; decide), if_pos (by show (1 : Int) = 1; rfl)] at ca
      rw [Bool.and_eq_true] at ca
      obtain ⟨ca1, ca2⟩ := ca
      have ca1 := of_decide_eq_true ca1
      have ca1 : actP p s nm = 1 := ca1
      rw [← act_eq hp] at ca1
      obtain ⟨_, _, g3⟩ := act_rg hp s nm
      have e0 := g3 ca1
      subst e0
      rw [Bool.not_eq_true'] at ca2
      refine .inr ⟨rfl, rfl, e4, ca1, wrong_at hp (n := .mk 1 0 nm a t c) rfl e5 ca2, fun hv => ?_, stay_L hp c false e6 h2 h3.2⟩
      have := h3.1
      rw [hv] at this
      simpa using this
theorem stay_L {p : Pol} (hp : checkP p = 0) : ∀ (l : List Vi.Node) (b : Bool), riL b l = true → (fiL p l).2 = false → bareL l = true → fxL p b l
  | [], _, _, _, _ => by rw [fxL]; trivial
  | n :: l, b, h1, h2, h3 => by
    rw [riL, Bool.and_eq_true, Bool.and_eq_true] at h1
    rw [bareL, Bool.and_eq_true] at h3
    rw [fiL] at h2
    split at h2
    · rename_i c; rw [c] at h2; cases h2
    rename_i c
    rw [Bool.not_eq_true] at c
    rw [fxL]
    refine ⟨fun e => ?_, stay_N hp n h1.1.2 c h3.1, stay_L hp l _ h1.2 h2 h3.2⟩
    have := h1.1.1
    rw [e.2, decide_eq_true e.1] at this
    cases this
end
theorem runF_is {p : Pol} {l : List Vi.Node} (h : checkP p = 0) : runF p l = (nsF p l, lostL p (0, 0, 0, 0) l, 0) := by
  unfold runF; rw [if_neg (fun e => e h)]
mutual
theorem okN_pk : ∀ n : Vi.Node, pkN n → okN n
  | .mk k s nm a t c, h => by
    obtain ⟨_, ⟨ha, hv⟩, _, hc, hk⟩ := pkN_eq h
    have ha : a.length ≤ 100 := ha
    have hc : c.length ≤ 1000000 := hc
    rw [okN]
    exact ⟨⟨by omega, fun x hx => by have := (hv x hx).2; omega⟩, hc, okL_pk c hk⟩
theorem okL_pk : ∀ l : List Vi.Node, pkL l → okL l
  | [], _ => by rw [okL]; trivial
  | n :: l, h => by
    rw [pkL] at h
    rw [okL]
    exact ⟨okN_pk n h.1, okL_pk l h.2⟩
end
theorem nodes_of_pk {l : List Vi.Node} (h : prOk l) : nodesOk l := ⟨h.1, okL_pk l h.2.1⟩
theorem chk_zero {l : List Vi.Node} (h : chkP l = 0) : riL false l = true := by
  have := chk_right h
  unfold rightP at this
  exact this
theorem eqNs_self (l : List Vi.Node) : eqNs l l = true := (nlB_eq l l).2 rfl
theorem allows_parts {p : Pol} {l : List Vi.Node} (h : allowsP p l = true) : checkP p = 0 ∧ (fiL p l).2 = false := by
  unfold allowsP at h
  rw [Bool.and_eq_true, decide_eq_true_iff, Bool.not_eq_true'] at h
  exact h
end Sp
theorem rectolaw17_FilterAllows.ok (R : Bool → Prop) (p : List (Str × Int × List Str × List Str) × List Str × Int × Int) (l : List Vi.Node) (h : Sz Sp.PTy p ∧ Sz (.sl .node) l) (hR : R Sp.tt) : rectolaw17_FilterAllows.vc R p l := by
  refine ⟨Sp.pol_large h.1, ?_⟩
  cases hl : Sp.large17 p l with
  | true => exact hR
  | false =>
  obtain ⟨hw, hz, ht⟩ := Sp.large17_ok h.1 hl
  have hp := hw.1.1
  refine ⟨hp, ?_⟩
  rw [cond_ndec]
  split
  · rename_i hc
    have hm := Sp.runF_ok hw
    rw [Sp.runF_is hc] at hm ⊢
    have hm : Sp.prOk (Sp.nsF p l) := hm
    have hs := Sp.nsF_sz p l
    have hf := Sp.nsG_fx hc l [] (by rw [Sp.fxL]; trivial)
    have hf : Sp.fxL p false (Sp.nsF p l) := hf
    have hrun : Sp.runOk p (Sp.nsF p l) := ⟨hp, hm, by omega⟩
    simp only
    rw [Sp.runF_is hc, Sp.nsF_fix hf, Sp.lostL_fix _ _ _ hf, Sp.allows_fix hc hf, Sp.eqNs_self, decide_eq_true rfl]
    exact ⟨hw.1, hrun, hrun, ⟨hp, Sp.nodes_of_pk hm⟩, ⟨hm.2.1, hm.1⟩, hR⟩
  · exact hR
theorem rectolaw17_FilterStays.ok (R : Bool → Prop) (p : List (Str × Int × List Str × List Str) × List Str × Int × Int) (l : List Vi.Node) (h : Sz Sp.PTy p ∧ Sz (.sl .node) l) (hR : R Sp.tt) : rectolaw17_FilterStays.vc R p l := by
  refine ⟨Sp.pol_large h.1, ?_⟩
  cases hl : Sp.large17 p l with
  | true => exact hR
  | false =>
  obtain ⟨hw, hz, ht⟩ := Sp.large17_ok h.1 hl
  have hp := hw.1.1
  have ho := hw.1.2.1
  refine ⟨ho, ?_⟩
  rw [cond_ndec]
  split
  · rename_i hc
    refine ⟨⟨hp, Sp.nodes_of_pk ho⟩, ?_⟩
    cases ha : Sp.allowsP p l with
    | false => exact hR
    | true =>
    refine ⟨ho, ?_⟩
    cases hb : Sp.bareL l with
    | false => exact hR
    | true =>
    obtain ⟨h0, h1⟩ := Sp.allows_parts ha
    have hf := Sp.stay_L h0 l false (Sp.chk_zero hc) h1 hb
    refine ⟨hw.1, ?_⟩
    rw [Sp.runF_is h0]
    simp only
    rw [Sp.nsF_fix hf, Sp.eqNs_self]
    exact ⟨⟨ho.2.1, ho.1⟩, hR⟩
  · exact hR
