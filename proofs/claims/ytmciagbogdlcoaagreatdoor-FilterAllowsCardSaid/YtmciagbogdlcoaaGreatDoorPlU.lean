/- Addresses: what is told, shown of the conditions. Plain theorems. -/
import Derived.Test.YtmciagbogdlcoaaGreatDoorVcU
import Derived.Test.YtmciagbogdlcoaaGreatDoorViThree
import Derived.Lib.Bytealg
set_option linter.unnecessarySimpa false
set_option linter.unusedVariables false
set_option linter.unusedSectionVars false
set_option linter.unusedSimpArgs false
set_option autoImplicit false
open Go Vi

namespace Sp
theorem ints_app (a b : Str) : ints (a ++ b) = ints a ++ ints b := by simp [ints]
theorem ints_cons (x : UInt8) (b : Str) : ints (x :: b) = (x.toNat : Int) :: ints b := rfl
theorem bytesOf_ints (s : Str) : bytesOf (ints s) = s := by
  unfold bytesOf ints
  rw [List.map_map]
  conv => rhs; rw [← List.map_id s]
  refine List.map_congr_left fun x _ => ?_
  simp
theorem sub_all {α : Type} (s : List α) (p : Nat) : sub s (p : Int) (s.length : Int) = s.drop p := by
  unfold sub
  rw [Int.toNat_natCast, Int.toNat_natCast, List.take_length]
theorem sub_to {α : Type} (s : List α) (p : Nat) : sub s 0 (p : Int) = s.take p := by
  unfold sub
  rw [Int.toNat_natCast]; rfl
theorem lower_len (s : Str) : (lower s).length = s.length := by simp [lower]

theorem upTo1_le (a b : Int) (s : Str) : (upTo1 a b s).length ≤ s.length := (List.takeWhile_prefix _).length_le
theorem upTo1_cons (a b : Int) (x : UInt8) (s : Str) : upTo1 a b (x :: s) = if (x.toNat : Int) = a ∨ (x.toNat : Int) = b then [] else x :: upTo1 a b s := by
  unfold upTo1
  rw [List.takeWhile_cons]
  by_cases h1 : (x.toNat : Int) = a <;> by_cases h2 : (x.toNat : Int) = b <;> simp [h1, h2]
theorem upTo1_take (a b : Int) : ∀ (s : Str), upTo1 a b s = s.take (upTo1 a b s).length
  | [] => rfl
  | x :: s => by
    rw [upTo1_cons]
    split
    · rfl
    · rw [List.length_cons, List.take_succ_cons, ← upTo1_take a b s]
theorem upTo1_split (a b : Int) (s : Str) : s = upTo1 a b s ++ s.drop (upTo1 a b s).length := by
  conv => lhs; rw [← List.take_append_drop (upTo1 a b s).length s]
  rw [← upTo1_take]
theorem idxB_range' (s : Str) (c : Int) : -1 ≤ idxB s c ∧ idxB s c ≤ s.length := by
  unfold idxB
  have := upTo1_le c c s
  split <;> omega
theorem idxB_range (s : Str) (c : Int) (h : s.length ≤ maxLen) : IntKind.i64.min ≤ idxB s c ∧ idxB s c ≤ IntKind.i64.max := by
  have := idxB_range' s c
  simp only [maxLen] at h
  rw [show IntKind.i64.min = -9223372036854775808 from rfl, show IntKind.i64.max = 9223372036854775807 from rfl]
  omega
theorem idxB_cons (x : UInt8) (s : Str) (c : Int) : idxB (x :: s) c = if (x.toNat : Int) = c then 0 else if idxB s c = -1 then -1 else idxB s c + 1 := by
  unfold idxB
  rw [upTo1_cons]
  by_cases h : (x.toNat : Int) = c
  · simp [h]
  · have := upTo1_le c c s
    simp only [h, or_self, if_false, List.length_cons]
    by_cases h2 : (upTo1 c c s).length = s.length
    · simp [h2]
    · rw [if_neg (by omega), if_neg h2, if_neg (by omega)]
      omega
theorem idxB_lib (s : Str) (c : Int) (h0 : IntKind.u8.min ≤ c) (h1 : c ≤ IntKind.u8.max) : Lib.indexByte s c.toNat.toUInt8 = idxB s c := by
  have e0 : IntKind.u8.min = 0 := rfl
  have e1 : IntKind.u8.max = 255 := rfl
  rw [e0] at h0
  rw [e1] at h1
  induction s with
  | nil => rfl
  | cons x s ih =>
    rw [Lib.indexByte, ih, idxB_cons]
    have hx := x.toNat_lt
    by_cases h : (x.toNat : Int) = c
    · have : x = c.toNat.toUInt8 := by
        apply UInt8.toNat_inj.1
        simp
        omega
      rw [if_pos (by rw [this]; simp), if_pos h]
    · have : ¬ x = c.toNat.toUInt8 := fun e => h (by rw [e]; simp; omega)
      rw [if_neg (by simpa using this), if_neg h]
      by_cases h2 : idxB s c = -1 <;> simp [h2]
end Sp

theorem strings_Builder_String.ok (R : List UInt8 → Prop) (x : List Int) (hR : R (bytesOf x)) : strings_Builder_String.vc R x := ⟨rfl, hR⟩
theorem strings_Builder_WriteByte.ok (R : List Int → Prop) (b : Int) (x : List Int) (h : Sp.wb.pre x b) (hR : R (Sp.wb x b)) : strings_Builder_WriteByte.vc R b x :=
  ⟨by unfold Sp.wb.pre at h; unfold Gr; omega, hR⟩

theorem chars_Letter.ok (R : Bool → Prop) (b : Int) (hR : R (Sp.letB b)) : chars_Letter.vc R b := by
  unfold chars_Letter.vc
  have e : ∀ c : Bool, (c = true ↔ ((65 ≤ b ∧ b ≤ 90) ∨ (97 ≤ b ∧ b ≤ 122))) → Sp.letB b = c := fun c h => by
    unfold Sp.letB
    rw [Bool.eq_iff_iff, decide_eq_true_iff]
    exact h.symm
  simp only [cond_dec]
  split
  · split
    · rw [e true (by simp; omega)] at hR; exact hR
    · split
      · rw [e (decide (b ≤ 122)) (by simp; omega)] at hR; exact hR
      · rw [e false (by simp; omega)] at hR; exact hR
  · split
    · rw [e (decide (b ≤ 122)) (by simp; omega)] at hR; exact hR
    · rw [e false (by simp; omega)] at hR; exact hR
theorem chars_Digit.ok (R : Bool → Prop) (b : Int) (hR : R (Sp.digB b)) : chars_Digit.vc R b := by
  unfold chars_Digit.vc
  have e : ∀ c : Bool, (c = true ↔ (48 ≤ b ∧ b ≤ 57)) → Sp.digB b = c := fun c h => by
    unfold Sp.digB
    rw [Bool.eq_iff_iff, decide_eq_true_iff]
    exact h.symm
  simp only [cond_dec]
  split
  · rw [e (decide (b ≤ 57)) (by simp; omega)] at hR; exact hR
  · rw [e false (by simp; omega)] at hR; exact hR
namespace Sp
theorem lowB_nat {x : UInt8} (h0 : 65 ≤ (x.toNat : Int)) (h1 : (x.toNat : Int) ≤ 90) : (x.toNat : Int) + 32 = ((lowB x).toNat : Int) := by
  unfold lowB
  rw [if_pos (by omega), UInt8.toNat_add]
  have : (32 : UInt8).toNat = 32 := rfl
  rw [this]
  omega
theorem lowB_same {x : UInt8} (h : ¬ (65 ≤ (x.toNat : Int) ∧ (x.toNat : Int) ≤ 90)) : lowB x = x := by
  unfold lowB
  rw [if_neg (by omega)]
theorem lower_take {s : Str} {p : Nat} (h : p < s.length) : lower (s.take (p + 1)) = lower (s.take p) ++ [lowB (nth s (p : Int) 0)] := by
  rw [take_succ (d := (0 : UInt8)) h]
  simp [lower]
end Sp

theorem chars_Lower.ok (R : List UInt8 → Prop) (s : Str) (h : Sp.lower.pre s) (hR : R (Sp.lower s)) : chars_Lower.vc R s := by
  unfold Sp.lower.pre at h
  unfold chars_Lower.vc
  refine ⟨by unfold Gr; omega, ?_⟩
  rw [ints_len]
  refine Lp_rule (fun v => ∃ p : Nat, v = ((s.length : Int), (p : Int), ints (Sp.lower (s.take p) ++ s.drop p), ()) ∧ p ≤ s.length) (fun v => s.length - v.2.1.toNat) ?_ ⟨0, by simp [Sp.lower], Nat.zero_le _⟩
  rintro _ K ⟨p, rfl, hp⟩ hK
  have hlp : (Sp.lower (s.take p)).length = p := by rw [Sp.lower_len]; simp; omega
  have hil : (ints (Sp.lower (s.take p) ++ s.drop p)).length = s.length := by rw [ints_len, List.length_append, hlp, List.length_drop]; omega
  simp only [chars_Lower.L0, cond_dec, ix_iff, rg64, rgu8, hil]
  split
  · rename_i c1
    have hp' : p < s.length := by omega
    have hd : s.drop p = nth s (p : Int) 0 :: s.drop (p + 1) := drop_cons hp'
    have hn : nth (ints (Sp.lower (s.take p) ++ s.drop p)) (p : Int) 0 = ((nth s (p : Int) (0 : UInt8)).toNat : Int) := by
      rw [hd, Sp.ints_app, Sp.ints_cons, nth_mid _ _ _ _ (by rw [ints_len, hlp])]
    rw [hn]
    have hx := (nth s (p : Int) (0 : UInt8)).toNat_lt
    have stay (e : Sp.lowB (nth s (p : Int) 0) = nth s (p : Int) 0) : K ((s.length : Int), (p : Int) + 1, ints (Sp.lower (s.take p) ++ s.drop p), ()) := by
      refine hK _ ⟨p + 1, ?_, by omega⟩ (by simp; omega)
      rw [Sp.lower_take hp', e, hd, List.append_assoc]; rfl
    refine ⟨by omega, ?_⟩
    split
    · refine ⟨by omega, ?_⟩
      split
      · rename_i c2 c3
        refine ⟨by omega, by omega, by omega, by omega, hK _ ⟨p + 1, ?_, by omega⟩ (by simp; omega)⟩
        rw [Sp.lower_take hp', Sp.lowB_nat c2 c3, hd, Sp.ints_app, Sp.ints_cons, set_mid _ _ _ _ (by rw [ints_len, hlp]), List.append_assoc, Sp.ints_app]
        rfl
      · exact ⟨by omega, stay (Sp.lowB_same (by omega))⟩
    · exact ⟨by omega, stay (Sp.lowB_same (by omega))⟩
  · have : p = s.length := by omega
    subst this
    rw [Sp.bytesOf_ints, List.take_length, List.drop_length, List.append_nil]
    exact hR

namespace Sp
theorem trimR_app (a : Str) (b : UInt8) : trimR (a ++ [b]) = if lowC b = true then trimR a else a ++ [b] := by
  unfold trimR
  rw [List.reverse_append, List.reverse_singleton, List.singleton_append, List.dropWhile_cons]
  split <;> simp
theorem last_split {s : Str} (h : 0 < s.length) : s = s.take (s.length - 1) ++ [nth s ((s.length : Int) - 1) 0] := by
  have := take_succ (l := s) (p := s.length - 1) (d := (0 : UInt8)) (by omega)
  rw [show s.length - 1 + 1 = s.length by omega, List.take_length] at this
  rw [show ((s.length : Int) - 1) = ((s.length - 1 : Nat) : Int) by omega]
  exact this
theorem lowC_iff (b : UInt8) : lowC b = true ↔ (b.toNat : Int) ≤ 32 := by
  unfold lowC
  rw [decide_eq_true_iff]
  omega
theorem keepB_iff (b : UInt8) : keepB b = true ↔ ¬ (b.toNat : Int) = 9 ∧ ¬ (b.toNat : Int) = 10 ∧ ¬ (b.toNat : Int) = 13 := by
  have e : ∀ (n : Nat) (c : UInt8), c.toNat = n → ((b == c) = true ↔ (b.toNat : Int) = n) := fun n c hc => by
    rw [beq_iff_eq, ← UInt8.toNat_inj, hc]
    omega
  have e9 := e 9 9 rfl
  have e10 := e 10 10 rfl
  have e13 := e 13 13 rfl
  unfold keepB
  rw [Bool.not_eq_true', ← Bool.not_eq_true, Bool.or_eq_true, Bool.or_eq_true, e9, e10, e13]
  omega
theorem filter_take {s : Str} {p : Nat} (h : p < s.length) : (s.take (p + 1)).filter keepB = (s.take p).filter keepB ++ (if keepB (nth s (p : Int) 0) = true then [nth s (p : Int) 0] else []) := by
  rw [take_succ (d := (0 : UInt8)) h, List.filter_append]
  congr 1
  cases hk : keepB (nth s (p : Int) 0) <;> simp [hk]
theorem wb_ints (a : Str) (x : UInt8) : wb (ints a) (x.toNat : Int) = ints (a ++ [x]) := by rw [ints_app]; rfl
end Sp

theorem urls_Plain_L2 (R : List UInt8 → Prop) (s : Str) (h : s.length ≤ 1000000) (hR : R (s.filter Sp.keepB)) : Lp (fun v K => urls_Plain.L2 R v.fst v.snd.fst v.snd.snd.fst v.snd.snd.snd.fst K) (s, (↑s.length : Int), 0, [], ()) := by
  refine Lp_rule (fun v => ∃ p : Nat, v = (s, (s.length : Int), (p : Int), ints ((s.take p).filter Sp.keepB), ()) ∧ p ≤ s.length) (fun v => s.length - v.2.2.1.toNat) ?_ ⟨0, rfl, Nat.zero_le _⟩
  rintro _ K ⟨p, rfl, hp⟩ hK
  simp only [urls_Plain.L2, cond_dec, cond_ndec, ix_iff, rg64]
  split
  · rename_i c1
    have hp' : p < s.length := by omega
    have hfl : ((s.take p).filter Sp.keepB).length ≤ p := Nat.le_trans (List.length_filter_le _ _) (by simp; omega)
    have skip (e : ¬ Sp.keepB (nth s (p : Int) 0) = true) : K (s, (s.length : Int), (p : Int) + 1, ints ((s.take p).filter Sp.keepB), ()) := by
      refine hK _ ⟨p + 1, ?_, by omega⟩ (by simp; omega)
      rw [Sp.filter_take hp', if_neg e, List.append_nil]; rfl
    refine ⟨by omega, ?_⟩
    split
    · rename_i c2
      exact ⟨by omega, skip (fun e => ((Sp.keepB_iff _).1 e).1 c2)⟩
    · refine ⟨by omega, ?_⟩
      split
      · rename_i c2
        exact ⟨by omega, skip (fun e => ((Sp.keepB_iff _).1 e).2.1 c2)⟩
      · refine ⟨by omega, ?_⟩
        split
        · rename_i c2
          exact ⟨by omega, skip (fun e => ((Sp.keepB_iff _).1 e).2.2 c2)⟩
        · rename_i c2 c3 c4
          refine ⟨by omega, by unfold Sp.wb.pre; rw [ints_len]; omega, by omega, hK _ ⟨p + 1, ?_, by omega⟩ (by simp; omega)⟩
          rw [Sp.filter_take hp', if_pos ((Sp.keepB_iff _).2 ⟨c2, c3, c4⟩), Sp.wb_ints]; rfl
  · have : p = s.length := by omega
    subst this
    rw [Sp.bytesOf_ints, List.take_length]
    exact hR

theorem urls_Plain_L1 (R : List UInt8 → Prop) (s : Str) (h : s.length ≤ 1000000) (hR : R ((Sp.trimR s).filter Sp.keepB)) : Lp (fun v K => urls_Plain.L1 R v.fst K) (s, ()) := by
  refine Lp_rule (fun v => ∃ x : Str, v = (x, ()) ∧ Sp.trimR x = Sp.trimR s ∧ x.length ≤ s.length) (fun v => v.1.length) ?_ ⟨s, rfl, rfl, Nat.le_refl _⟩
  rintro _ K ⟨x, rfl, ht, hl⟩ hK
  simp only [urls_Plain.L1, cond_dec, cond_ndec, ix_iff, rg64, sb_iff]
  rw [← ht] at hR
  split
  · rename_i c1
    subst c1
    exact urls_Plain_L2 R [] (by simp) hR
  · rename_i c1
    have hpos : 0 < x.length := by cases x with | nil => exact absurd rfl c1 | cons _ _ => simp
    have hs := Sp.last_split hpos
    refine ⟨by omega, by omega, ?_⟩
    split
    · rename_i c2
      refine ⟨by omega, by omega, hK _ ⟨x.take (x.length - 1), ?_, ?_, by simp; omega⟩ ?_⟩
      · rw [show ((x.length : Int) - 1) = ((x.length - 1 : Nat) : Int) by omega, Sp.sub_to]
      · rw [← ht]
        conv => rhs; rw [hs, Sp.trimR_app, if_pos ((Sp.lowC_iff _).2 c2)]
      · rw [show ((x.length : Int) - 1) = ((x.length - 1 : Nat) : Int) by omega, Sp.sub_to]
        simp; omega
    · rename_i c2
      refine urls_Plain_L2 R x (by omega) ?_
      have : Sp.trimR x = x := by
        conv => lhs; rw [hs, Sp.trimR_app, if_neg (fun e => c2 ((Sp.lowC_iff _).1 e)), ← hs]
      rw [this] at hR
      exact hR

theorem urls_Plain.ok (R : List UInt8 → Prop) (s : Str) (h : Sp.plainU.pre s) (hR : R (Sp.plainU s)) : urls_Plain.vc R s := by
  unfold Sp.plainU.pre at h
  unfold urls_Plain.vc
  unfold Sp.plainU at hR
  refine Lp_rule (fun v => ∃ x : Str, v = (x, ()) ∧ x.dropWhile Sp.lowC = s.dropWhile Sp.lowC ∧ x.length ≤ s.length) (fun v => v.1.length) ?_ ⟨s, rfl, rfl, Nat.le_refl _⟩
  rintro _ K ⟨x, rfl, ht, hl⟩ hK
  simp only [urls_Plain.L0, cond_dec, cond_ndec, ix_iff, rg64, sb_iff]
  rw [← ht] at hR
  split
  · rename_i c1
    subst c1
    exact urls_Plain_L1 R [] (by simp) hR
  · rename_i c1
    cases x with
    | nil => exact absurd rfl c1
    | cons b x =>
      have e0 : nth (b :: x) 0 (0 : UInt8) = b := rfl
      rw [e0]
      refine ⟨by simp, ?_⟩
      split
      · rename_i c2
        refine ⟨by simp; omega, hK _ ⟨x, ?_, ?_, by simp at hl; omega⟩ ?_⟩
        · have := Sp.sub_all (b :: x) 1
          simp only [List.drop_one, List.tail_cons] at this
          have e : ((1 : Nat) : Int) = 1 := rfl
          rw [e] at this
          rw [this]
        · rw [← ht, List.dropWhile_cons, if_pos ((Sp.lowC_iff _).2 c2)]
        · have := Sp.sub_all (b :: x) 1
          simp only [List.drop_one, List.tail_cons] at this
          have e : ((1 : Nat) : Int) = 1 := rfl
          rw [e] at this
          simp only [this]
          simp
      · rename_i c2
        refine urls_Plain_L1 R (b :: x) (by omega) ?_
        rw [List.dropWhile_cons, if_neg (fun e => c2 ((Sp.lowC_iff _).1 e))] at hR
        exact hR

/-! The document's. -/

namespace Sp
theorem idxB_lt {s : Str} {c : Int} (h : 0 ≤ idxB s c) : idxB s c < s.length ∧ idxB s c = (upTo1 c c s).length := by
  unfold idxB at *
  have := upTo1_le c c s
  split at h
  · omega
  · rename_i h1
    rw [if_neg h1]
    omega
theorem schF_eq : ∀ (f : Bool) (s : Str), schF f s = if (upTo1 58 58 s).length = s.length then none else
    if (match upTo1 58 58 s with | [] => true | x :: t => (letB x.toNat || (!f && moreB x)) && t.all (fun y => letB y.toNat || moreB y)) = true then some (upTo1 58 58 s).length else none
  | _, [] => rfl
  | f, x :: s => by
    rw [schF, upTo1_cons]
    have hx : x = 58 ↔ (x.toNat : Int) = 58 := by
      rw [← UInt8.toNat_inj]
      have : (58 : UInt8).toNat = 58 := rfl
      omega
    by_cases h : (x.toNat : Int) = 58
    · simp [h, hx.2 h]
    · rw [if_neg (fun e => h (hx.1 e)), if_neg (show ¬ ((x.toNat : Int) = 58 ∨ (x.toNat : Int) = 58) by omega), schF_eq false s]
      simp only [List.length_cons, Nat.add_right_cancel_iff]
      by_cases h1 : (letB x.toNat || (!f && moreB x)) = true
      · rw [if_pos h1]
        by_cases h2 : (upTo1 58 58 s).length = s.length
        · simp [h2]
        · rw [if_neg h2, if_neg h2]
          simp only [h1, Bool.true_and]
          have e : (match upTo1 58 58 s with | [] => true | x :: t => (letB x.toNat || (!false && moreB x)) && t.all (fun y => letB y.toNat || moreB y)) = (upTo1 58 58 s).all (fun y => letB y.toNat || moreB y) := by
            cases upTo1 58 58 s <;> simp
          rw [e]
          split <;> simp
      · rw [if_neg h1]
        have : (letB x.toNat || (!f && moreB x)) = false := by simpa using h1
        simp [this]
theorem schN_eq (s : Str) : schN s = if idxB s 58 ≤ 0 then 0 else if letB (nth s 0 0).toNat = true ∧ (upTo1 58 58 s).all (fun y => letB y.toNat || moreB y) = true then idxB s 58 else 0 := by
  unfold schN
  rw [schF_eq]
  unfold idxB
  by_cases h : (upTo1 58 58 s).length = s.length
  · simp [h]
  · rw [if_neg h, if_neg h]
    cases hu : upTo1 58 58 s with
    | nil => simp
    | cons x t =>
      have hs := upTo1_split 58 58 s
      rw [hu] at hs
      have h0 : nth s 0 0 = x := by rw [hs]; rfl
      rw [h0]
      have : ¬ ((List.length (x :: t) : Nat) : Int) ≤ 0 := by simp
      rw [if_neg this]
      simp only [Bool.not_true, Bool.false_and, Bool.or_false, Bool.and_eq_true, List.all_cons]
      by_cases h1 : letB x.toNat = true
      · rw [h1]; simp only [Bool.true_or, true_and, ]
        split <;> simp
      · simp [h1]
end Sp

theorem strings_IndexByte.ok (R : Int → Prop) (s : Str) (c : Int) (hR : R (Sp.idxB s c)) : strings_IndexByte.vc R s c := hR

theorem internal_stringslite_Index.ok (R : Int → Prop) (t o : Str) (h : Sp.idx1.pre t o) (hR : R (Sp.idx1 t o)) : internal_stringslite_Index.vc R t o := by
  obtain ⟨h1, h2⟩ := h
  match o, h2 with
  | [c], _ =>
  have e0 : nth [c] 0 (0 : UInt8) = c := rfl
  have e1 : Sp.idx1 t [c] = Sp.idxB t c.toNat := rfl
  rw [e1] at hR
  unfold internal_stringslite_Index.vc
  have n0 : ¬ ((List.length [c] : Nat) : Int) = 0 := by simp
  have n1 : ((List.length [c] : Nat) : Int) = 1 := rfl
  rw [cond_dec, if_neg n0, cond_dec, cond_dec, if_pos n1, e0]
  split
  · rename_i c1
    subst c1
    rw [Sp.idxB_cons, if_pos rfl] at hR
    exact hR
  · exact ⟨by rw [ix_iff]; simp, hR⟩

theorem internal_stringslite_Cut.ok (R : List UInt8 → List UInt8 → Bool → Prop) (s sep : Str) (h : Sp.cut1.pre s sep) (hR : R (Sp.cut1 s sep).1 (Sp.cut1 s sep).2.1 (Sp.cut1 s sep).2.2) : internal_stringslite_Cut.vc R s sep := by
  refine ⟨h, ?_⟩
  obtain ⟨h1, h2⟩ := h
  have e : Sp.cut1 s sep = if Sp.idx1 s sep < 0 then (s, [], false) else (s.take (Sp.idx1 s sep).toNat, s.drop (Sp.idx1 s sep + 1).toNat, true) := rfl
  rw [e] at hR
  rw [cond_dec]
  have hl := Sp.idxB_lt (s := s) (c := (sep.headD 0).toNat)
  have e2 : Sp.idx1 s sep = Sp.idxB s (sep.headD 0).toNat := rfl
  rw [← e2] at hl
  split
  · rename_i c1
    rw [if_neg (by omega)] at hR
    obtain ⟨p, hp⟩ : ∃ p : Nat, Sp.idx1 s sep = p := ⟨(Sp.idx1 s sep).toNat, by omega⟩
    have h3 := (hl c1).1
    rw [hp] at hR h3 ⊢
    rw [show ((p : Int) + (List.length sep : Int)) = ((p + 1 : Nat) : Int) by omega, Sp.sub_all, Sp.sub_to]
    rw [show ((p : Int)).toNat = p by omega, show ((p : Int) + 1).toNat = p + 1 by omega] at hR
    simp only [sb_iff, rg64]
    exact ⟨by omega, by omega, by omega, hR⟩
  · rw [if_pos (by omega)] at hR; exact hR
theorem strings_Cut.ok (R : List UInt8 → List UInt8 → Bool → Prop) (s sep : Str) (h : Sp.cut1.pre s sep) (hR : R (Sp.cut1 s sep).1 (Sp.cut1 s sep).2.1 (Sp.cut1 s sep).2.2) : strings_Cut.vc R s sep := ⟨h, hR⟩

theorem internal_stringslite_HasPrefix.ok (R : Bool → Prop) (s p : Str) (h : Sp.preB.pre s p) (hR : R (Sp.preB s p)) : internal_stringslite_HasPrefix.vc R s p := by
  obtain ⟨h1, h2⟩ := h
  unfold internal_stringslite_HasPrefix.vc
  unfold Sp.preB at hR
  rw [cond_dec]
  split
  · rw [Sp.sub_to, sb_iff]
    exact ⟨by omega, hR⟩
  · rw [decide_eq_false (fun e => by have := congrArg List.length e; simp at this; omega)] at hR
    exact hR
theorem internal_stringslite_CutPrefix.ok (R : List UInt8 → Bool → Prop) (s p : Str) (h : Sp.preB.pre s p) (hR : R (Sp.cutP s p).1 (Sp.cutP s p).2) : internal_stringslite_CutPrefix.vc R s p := by
  refine ⟨h, ?_⟩
  obtain ⟨h1, h2⟩ := h
  unfold Sp.cutP at hR
  cases hb : Sp.preB s p with
  | false => rw [hb] at hR; exact hR
  | true =>
    rw [hb] at hR
    simp only [cond_true, Bool.not_true, cond_false] at hR ⊢
    have : p.length ≤ s.length := by
      unfold Sp.preB at hb
      have := congrArg List.length (of_decide_eq_true hb)
      simp at this
      omega
    rw [Sp.sub_all, sb_iff]
    exact ⟨by omega, hR⟩
theorem strings_CutPrefix.ok (R : List UInt8 → Bool → Prop) (s p : Str) (h : Sp.preB.pre s p) (hR : R (Sp.cutP s p).1 (Sp.cutP s p).2) : strings_CutPrefix.vc R s p := ⟨h, hR⟩

theorem urls_cutter_mark.ok (R : List UInt8 → List UInt8 → List UInt8 → List UInt8 → List UInt8 → List UInt8 → Bool → Bool → Bool → Bool → Prop) (rest sch host path query mark : Str) (hs hh hq hm : Bool) (h : Sp.small rest)
    (hR : R (Sp.cutC rest 35).1 sch host path query (Sp.cutC rest 35).2.1 hs hh hq (Sp.cutC rest 35).2.2) : urls_cutter_mark.vc R rest sch host path query mark hs hh hq hm := ⟨⟨h, rfl⟩, hR⟩
theorem urls_cutter_query.ok (R : List UInt8 → List UInt8 → List UInt8 → List UInt8 → List UInt8 → List UInt8 → Bool → Bool → Bool → Bool → Prop) (rest sch host path query mark : Str) (hs hh hq hm : Bool) (h : Sp.small rest)
    (hR : R (Sp.cutC rest 63).1 sch host path (Sp.cutC rest 63).2.1 mark hs hh (Sp.cutC rest 63).2.2 hm) : urls_cutter_query.vc R rest sch host path query mark hs hh hq hm := ⟨⟨h, rfl⟩, hR⟩

theorem urls_cutter_scheme.ok (R : List UInt8 → List UInt8 → List UInt8 → List UInt8 → List UInt8 → List UInt8 → Bool → Bool → Bool → Bool → Prop) (rest sch host path query mark : Str) (hs hh hq hm : Bool) (h : Sp.small rest)
    (hR : R (Sp.schRest rest) (Sp.schName rest sch) host path query mark (Sp.schHas rest hs) hh hq hm) : urls_cutter_scheme.vc R rest sch host path query mark hs hh hq hm := by
  unfold Sp.small at h
  unfold urls_cutter_scheme.vc
  unfold Sp.schRest Sp.schName Sp.schHas at hR
  rw [cond_dec]
  have heq := Sp.schN_eq rest
  split
  · rename_i c1
    rw [if_pos c1] at heq
    rw [heq] at hR
    exact hR
  · rename_i c1
    rw [if_neg c1] at heq
    have hi := Sp.idxB_lt (s := rest) (c := 58) (by omega)
    rw [ix_iff]
    refine ⟨by omega, ?_⟩
    cases hb : Sp.letB ((nth rest 0 (0 : UInt8)).toNat : Int) with
    | false =>
      simp only [Bool.not_false, cond_true]
      rw [if_neg (by rw [hb]; simp)] at heq
      rw [heq] at hR
      exact hR
    | true =>
      simp only [Bool.not_true, cond_false]
      rw [hb] at heq
      simp only [true_and] at heq
      obtain ⟨n, hn⟩ : ∃ n : Nat, Sp.idxB rest 58 = n := ⟨(Sp.idxB rest 58).toNat, by omega⟩
      rw [hn] at heq hi c1 ⊢
      have hnl : n = (Sp.upTo1 58 58 rest).length := by omega
      have hta : rest.take n = Sp.upTo1 58 58 rest := by rw [hnl, ← Sp.upTo1_take]
      rw [← hta] at heq
      refine Lp_rule (fun v => ∃ p : Nat, v = ((n : Int), (n : Int), (p : Int), rest, sch, host, path, query, mark, hs, hh, hq, hm, ()) ∧ p ≤ n ∧ (rest.take p).all (fun y => Sp.letB y.toNat || Sp.moreB y) = true) (fun v => n - v.2.2.1.toNat) ?_ ⟨0, rfl, Nat.zero_le _, rfl⟩
      rintro _ K ⟨p, rfl, hp, hall⟩ hK
      simp only [urls_cutter_scheme.L0, cond_dec, cond_ndec, ix_iff, rg64, sb_iff]
      split
      · rename_i c2
        have hp' : p < rest.length := by omega
        have hts := take_succ (d := (0 : UInt8)) hp'
        have go (e : (Sp.letB (nth rest (p : Int) (0 : UInt8)).toNat || Sp.moreB (nth rest (p : Int) 0)) = true) : K ((n : Int), (n : Int), (p : Int) + 1, rest, sch, host, path, query, mark, hs, hh, hq, hm, ()) := by
          refine hK _ ⟨p + 1, rfl, by omega, ?_⟩ (by simp; omega)
          rw [hts, List.all_append, hall]
          simpa using e
        have beq : ∀ (k : Nat) (c : UInt8), c.toNat = k → ((nth rest (p : Int) (0 : UInt8)) == c) = decide (((nth rest (p : Int) (0 : UInt8)).toNat : Int) = k) := fun k c hc => by
          rw [Bool.eq_iff_iff, beq_iff_eq, decide_eq_true_iff, ← UInt8.toNat_inj, hc]
          omega
        have hm0 : Sp.moreB (nth rest (p : Int) 0) = (Sp.digB (nth rest (p : Int) (0 : UInt8)).toNat || decide (((nth rest (p : Int) (0 : UInt8)).toNat : Int) = 43) || decide (((nth rest (p : Int) (0 : UInt8)).toNat : Int) = 45) || decide (((nth rest (p : Int) (0 : UInt8)).toNat : Int) = 46)) := by
          unfold Sp.moreB
          rw [beq 43 43 rfl, beq 45 45 rfl, beq 46 46 rfl]; rfl
        rw [hm0] at go
        refine ⟨by omega, ?_⟩
        cases h1 : Sp.letB ((nth rest (p : Int) (0 : UInt8)).toNat : Int) with
        | true => exact ⟨by omega, go (by rw [h1]; rfl)⟩
        | false =>
          cases h2 : Sp.digB ((nth rest (p : Int) (0 : UInt8)).toNat : Int) with
          | true => exact ⟨by omega, go (by rw [h2]; simp)⟩
          | false =>
            simp only [Bool.not_false, cond_true]
            split
            · rename_i h3; exact ⟨by omega, go (by simp [h3])⟩
            · split
              · rename_i h3; exact ⟨by omega, go (by simp [h3])⟩
              · split
                · rename_i h3; exact ⟨by omega, go (by simp [h3])⟩
                · rename_i h3 h4 h5
                  have : Sp.schN rest = 0 := by
                    rw [heq, if_neg]
                    intro e
                    rw [List.all_eq_true] at e
                    have hmem : nth rest (p : Int) (0 : UInt8) ∈ rest.take n := by
                      have : (rest.take (p + 1)) <+: rest.take n := List.take_prefix_take_left (by omega)
                      exact this.subset (by rw [hts]; simp)
                    have := e _ hmem
                    rw [hm0, h1, h2] at this
                    simp [h3, h4, h5] at this
                  rw [this] at hR
                  exact hR
      · have : p = n := by omega
        subst this
        rw [if_pos hall] at heq
        rw [heq, if_neg (by omega), if_neg (by omega), if_neg (by omega)] at hR
        rw [Sp.sub_to, show ((p : Int) + 1) = ((p + 1 : Nat) : Int) by omega, Sp.sub_all]
        rw [show ((p : Int)).toNat = p by omega, show ((p : Int) + 1).toNat = p + 1 by omega] at hR
        exact ⟨by omega, by unfold Sp.lower.pre; simp; omega, by omega, by omega, hR⟩

theorem urls_cutter_host.ok (R : List UInt8 → List UInt8 → List UInt8 → List UInt8 → List UInt8 → List UInt8 → Bool → Bool → Bool → Bool → Prop) (rest sch host path query mark : Str) (hs hh hq hm : Bool) (h : Sp.small rest)
    (hR : R (Sp.hostRest rest) sch (Sp.hostName rest host) path query mark hs (Sp.hostHas rest hh) hq hm) : urls_cutter_host.vc R rest sch host path query mark hs hh hq hm := by
  unfold Sp.small at h
  unfold urls_cutter_host.vc
  unfold Sp.hostRest Sp.hostName Sp.hostHas Sp.hosts at hR
  refine ⟨⟨h, by simp⟩, ?_⟩
  unfold Sp.cutP
  cases hb : Sp.preB rest [47, 47] with
  | false => rw [hb] at hR; exact hR
  | true =>
    rw [hb] at hR
    simp only [cond_true, Bool.not_true, cond_false, List.length_cons, List.length_nil] at hR ⊢
    have hrl : (rest.drop 2).length ≤ 1000000 := by simp; omega
    generalize hr2 : rest.drop 2 = r2 at *
    refine Lp_rule (fun v => ∃ p : Nat, v = (r2, (p : Int), rest, sch, host, path, query, mark, hs, hh, hq, hm, ()) ∧ p ≤ r2.length ∧ Sp.upTo1 47 92 r2 = r2.take p ++ Sp.upTo1 47 92 (r2.drop p)) (fun v => r2.length - v.2.1.toNat) ?_ ⟨0, rfl, Nat.zero_le _, rfl⟩
    rintro _ K ⟨p, rfl, hp, hu⟩ hK
    simp only [urls_cutter_host.L0, cond_dec, cond_ndec, ix_iff, rg64, sb_iff]
    have fin (e : Sp.upTo1 47 92 (r2.drop p) = []) : R (sub r2 (p : Int) (r2.length : Int)) sch (sub r2 0 (p : Int)) path query mark hs true hq hm := by
      rw [e, List.append_nil] at hu
      rw [hu] at hR
      rw [Sp.sub_all, Sp.sub_to]
      rw [List.length_take, Nat.min_eq_left hp] at hR
      exact hR
    split
    · rename_i c1
      have hp' : p < r2.length := by omega
      have hd : r2.drop p = nth r2 (p : Int) 0 :: r2.drop (p + 1) := drop_cons hp'
      rw [hd, Sp.upTo1_cons] at hu fin
      refine ⟨by omega, ?_⟩
      split
      · rename_i c2
        exact ⟨by omega, by omega, fin (by rw [if_pos (.inl c2)])⟩
      · refine ⟨by omega, ?_⟩
        split
        · rename_i c2
          exact ⟨by omega, by omega, fin (by rw [if_pos (.inr c2)])⟩
        · rename_i c2 c3
          rw [if_neg (by omega)] at hu
          refine ⟨by omega, hK _ ⟨p + 1, rfl, by omega, ?_⟩ (by simp; omega)⟩
          rw [hu, take_succ (d := (0 : UInt8)) hp', List.append_assoc]; rfl
    · exact ⟨by omega, by omega, fin (by rw [List.drop_of_length_le (by omega)]; rfl)⟩

namespace Sp
theorem dropWhile_le (f : UInt8 → Bool) (s : Str) : (s.dropWhile f).length ≤ s.length := (List.dropWhile_suffix f).length_le
theorem trimR_le (s : Str) : (trimR s).length ≤ s.length := by
  unfold trimR
  rw [List.length_reverse]
  have := dropWhile_le lowC s.reverse
  simpa using this
theorem plainU_le (s : Str) : (plainU s).length ≤ s.length := by
  unfold plainU
  exact Nat.le_trans (List.length_filter_le _ _) (Nat.le_trans (trimR_le _) (dropWhile_le _ _))
theorem schRest_le (s : Str) : (schRest s).length ≤ s.length := by
  unfold schRest
  split
  · exact Nat.le_refl _
  · simp
theorem cutC_le (s : Str) (c : Int) : (cutC s c).1.length ≤ s.length := by
  unfold cutC
  split
  · exact Nat.le_refl _
  · simp; omega
end Sp

theorem urls_Split.ok (R : List UInt8 × List UInt8 × List UInt8 × List UInt8 × List UInt8 × Bool × Bool × Bool × Bool → Prop) (s : Str) (h : Sp.splitP.pre s) (hR : R (Sp.splitP s)) : urls_Split.vc R s := by
  refine ⟨h, 5, ?_⟩
  unfold Sp.splitP.pre at h
  have h1 := Sp.plainU_le s
  unfold Sp.splitP Sp.splitX at hR
  generalize Sp.plainU s = x at *
  have h2 := Sp.schRest_le x
  have h3 := Sp.cutC_le (Sp.schRest x) 35
  have h4 := Sp.cutC_le (Sp.cutC (Sp.schRest x) 35).1 63
  simp only [it, urls_Split.L0, cond_dec, eqN, ix_iff, rg64, Sp.small]
  refine ⟨by omega, by omega, by omega, ?_⟩
  refine ⟨by omega, by omega, by omega, ?_⟩
  refine ⟨by omega, by omega, by omega, ?_⟩
  refine ⟨by omega, by omega, by omega, ?_⟩
  exact hR

theorem urls_Scheme.ok (R : List UInt8 → Bool → Prop) (s : Str) (h : Sp.schemeP.pre s) (hR : R (Sp.schemeP s).1 (Sp.schemeP s).2) : urls_Scheme.vc R s := ⟨h, hR⟩

namespace Sp
theorem idxS_range {l : List Str} {x : Str} : 0 ≤ idxS l x ↔ x ∈ l := by
  unfold idxS
  split
  · rename_i h; simp [h]
  · rename_i h; simp [h]
end Sp
theorem slices_Index_string_string.ok (R : Int → Prop) (s : List Str) (v : Str) (h : Sp.idxS.pre s v) (hR : R (Sp.idxS s v)) : slices_Index_string_string.vc R s v := by
  unfold Sp.idxS.pre at h
  unfold slices_Index_string_string.vc
  refine Lp_rule (fun w => ∃ p : Nat, w = (s, v, (s.length : Int), (p : Int), ()) ∧ p ≤ s.length ∧ v ∉ s.take p) (fun w => s.length - w.2.2.2.1.toNat) ?_ ⟨0, rfl, Nat.zero_le _, by simp⟩
  rintro _ K ⟨p, rfl, hp, hn⟩ hK
  simp only [slices_Index_string_string.L0, cond_dec, ix_iff, rg64]
  split
  · rename_i c1
    have hp' : p < s.length := by omega
    have hts := take_succ (d := ([] : Str)) hp'
    refine ⟨by omega, ?_⟩
    split
    · rename_i c2
      have hd : s = s.take p ++ v :: s.drop (p + 1) := by
        conv => lhs; rw [← List.take_append_drop p s, drop_cons (d := ([] : Str)) hp', ← c2]
      have : Sp.idxS s v = p := by
        unfold Sp.idxS
        rw [if_pos (by rw [hd]; simp)]
        have : s.takeWhile (fun y => !decide (y = v)) = s.take p := by
          conv => lhs; rw [hd]
          rw [List.takeWhile_append_of_pos (by
            intro a ha
            have : a ≠ v := fun e => hn (e ▸ ha)
            simp [this])]
          simp
        rw [this]
        simp
        omega
      rw [this] at hR
      exact hR
    · rename_i c2
      refine ⟨by omega, hK _ ⟨p + 1, rfl, by omega, ?_⟩ (by simp; omega)⟩
      rw [hts]
      intro hm
      rcases List.mem_append.1 hm with hm | hm
      · exact hn hm
      · exact c2 (List.mem_singleton.1 hm)
  · have : p = s.length := by omega
    subst this
    rw [List.take_length] at hn
    unfold Sp.idxS at hR
    rw [if_neg hn] at hR
    exact hR
theorem slices_Contains_string_string.ok (R : Bool → Prop) (s : List Str) (v : Str) (h : Sp.idxS.pre s v) (hR : R (Sp.hasS s v)) : slices_Contains_string_string.vc R s v := by
  refine ⟨h, ?_⟩
  have : decide (0 ≤ Sp.idxS s v) = Sp.hasS s v := by
    unfold Sp.hasS
    rw [Bool.eq_iff_iff, decide_eq_true_iff, decide_eq_true_iff]
    exact Sp.idxS_range
  rw [this]; exact hR
theorem urls_Safe.ok (R : Bool → Prop) (s : Str) (l : List Str) (h : Sp.safeP.pre s l) (hR : R (Sp.safeP s l)) : urls_Safe.vc R s l := by
  obtain ⟨h1, h2⟩ := h
  refine ⟨h1, ?_⟩
  unfold Sp.safeP at hR
  cases hb : (Sp.schemeP s).2 with
  | false => rw [hb] at hR; exact hR
  | true => rw [hb] at hR; exact ⟨h2, hR⟩
/-! The document's parts, in stages. -/
namespace Sp
theorem dropWhile_low {a : Str} (h : ∀ x, x ∈ a → lowC x = true) (b : Str) : (a ++ b).dropWhile lowC = b.dropWhile lowC := by
  induction a with
  | nil => rfl
  | cons x a ih =>
    rw [List.cons_append, List.dropWhile_cons, if_pos (h x (by simp))]
    exact ih fun y hy => h y (by simp [hy])
theorem dropWhile_not {a : Str} (h : a.dropWhile lowC ≠ []) (b : Str) : (a ++ b).dropWhile lowC = a.dropWhile lowC ++ b := by
  induction a with
  | nil => exact absurd rfl h
  | cons x a ih =>
    rw [List.cons_append, List.dropWhile_cons, List.dropWhile_cons]
    rw [List.dropWhile_cons] at h
    split
    · rename_i hx
      rw [if_pos hx] at h
      exact ih h
    · rfl
theorem dropWhile_nil {a : Str} (h : a.dropWhile lowC = []) : ∀ x, x ∈ a → lowC x = true := by
  induction a with
  | nil => intro x hx; cases hx
  | cons y a ih =>
    rw [List.dropWhile_cons] at h
    split at h
    · rename_i hy
      intro x hx
      rcases List.mem_cons.1 hx with rfl | hx
      · exact hy
      · exact ih h x hx
    · cases h
theorem trimR_low {b : Str} (h : ∀ x, x ∈ b → lowC x = true) (a : Str) : trimR (a ++ b) = trimR a := by
  unfold trimR
  rw [List.reverse_append, dropWhile_low (fun x hx => h x (List.mem_reverse.1 hx))]
theorem trimR_not {b : Str} (h : trimR b ≠ []) (a : Str) : trimR (a ++ b) = a ++ trimR b := by
  unfold trimR at *
  rw [List.reverse_append, dropWhile_not (fun e => h (by rw [e]; rfl))]
  simp
theorem trimR_nil_low {b : Str} (h : trimR b = []) : ∀ x, x ∈ b → lowC x = true := by
  unfold trimR at h
  intro x hx
  exact dropWhile_nil (List.reverse_eq_nil_iff.1 h) x (List.mem_reverse.2 hx)
end Sp

namespace Sp
theorem beq_nat (b c : UInt8) : (b == c) = decide (b.toNat = c.toNat) := by
  rw [Bool.eq_iff_iff, beq_iff_eq, decide_eq_true_iff, UInt8.toNat_inj]
end Sp
