/- What says how much of a disk counts: what is told, shown of the conditions. Plain theorems. -/
import Derived.Test.YtpgodffogmgnhaaVcS
import Derived.Test.YtpgodffogmgnhaaPlD
import Derived.Test.YtpgodffogmgnhaaPlN
set_option linter.unnecessarySimpa false
set_option linter.unusedVariables false
set_option linter.unusedSectionVars false
set_option linter.unusedSimpArgs false
set_option autoImplicit false
open Go Vi

theorem internal_stringslite_HasPrefix.ok (R : Bool → Prop) (s p : Str) (h : Sp.preB.pre s p) (hR : R (Sp.preB s p)) : internal_stringslite_HasPrefix.vc R s p := by
  obtain ⟨h1, h2⟩ := h
  unfold internal_stringslite_HasPrefix.vc
  unfold Sp.preB at hR
  rw [cond_dec]
  split
  · rw [Sp.sub_to, sb_iff]
    exact ⟨by omega, hR⟩
  · rw [decide_eq_false (fun e => by have := congrArg List.length e; simp at this; omega)] at hR
    exact hR
theorem internal_stringslite_CutPrefix.ok (R : List UInt8 → Bool → Prop) (s p : Str) (h : Sp.preB.pre s p) (hR : R (Sp.cutP s p).1 (Sp.cutP s p).2) : internal_stringslite_CutPrefix.vc R s p := by
  refine ⟨h, ?_⟩
  obtain ⟨h1, h2⟩ := h
  unfold Sp.cutP at hR
  cases hb : Sp.preB s p with
  | false => rw [hb] at hR; exact hR
  | true =>
    rw [hb] at hR
    simp only [cond_true, Bool.not_true, cond_false] at hR ⊢
    have : p.length ≤ s.length := by
      unfold Sp.preB at hb
      have := congrArg List.length (of_decide_eq_true hb)
      simp at this
      omega
    rw [Sp.sub_all, sb_iff]
    exact ⟨by omega, hR⟩
theorem strings_CutPrefix.ok (R : List UInt8 → Bool → Prop) (s p : Str) (h : Sp.preB.pre s p) (hR : R (Sp.cutP s p).1 (Sp.cutP s p).2) : strings_CutPrefix.vc R s p := ⟨h, hR⟩
theorem slot_Slot_parts.ok (R : List Int → Prop) (s : Int × Int × Int × Int) (hR : R (Sp.partsS s)) : slot_Slot_parts.vc R s := ⟨rfl, rfl, hR⟩
theorem slot_Slot_right_1.ok (R : Bool → Prop) (n : Int) (hR : R (Sp.countS n)) : slot_Slot_right_1.vc R n := by
  unfold slot_Slot_right_1.vc
  unfold Sp.countS at hR
  cases h : decide (0 ≤ n) with
  | true => rw [h] at hR; exact hR
  | false => rw [h] at hR; exact hR
theorem slot_Slot_right.ok (R : Bool → Prop) (s : Int × Int × Int × Int) (hR : R (Sp.rightS s)) : slot_Slot_right.vc R s := by
  unfold slot_Slot_right.vc
  unfold Sp.rightS at hR
  cases h1 : decide (1 ≤ s.1) with
  | false => rw [h1] at hR; exact hR
  | true =>
    cases h2 : decide (s.1 ≤ 1099511627776) with
    | false => rw [h1, h2] at hR; exact hR
    | true =>
      cases h3 : decide (s.2.1 = 0) with
      | true =>
        cases h4 : Sp.countS s.2.2.1 with
        | true => rw [h1, h2, h3, h4] at hR; exact hR
        | false => rw [h1, h2, h3, h4] at hR; exact hR
      | false =>
        cases h5 : decide (s.2.1 = 1) with
        | false => rw [h1, h2, h3, h5] at hR; exact hR
        | true =>
          cases h4 : Sp.countS s.2.2.1 with
          | true => rw [h1, h2, h3, h5, h4] at hR; exact hR
          | false => rw [h1, h2, h3, h5, h4] at hR; exact hR

namespace Sp
theorem rightS_iff {s : Slot} : rightS s = true ↔ 1 ≤ s.1 ∧ s.1 ≤ 1099511627776 ∧ (s.2.1 = 0 ∨ s.2.1 = 1) ∧ 0 ≤ s.2.2.1 ∧ s.2.2.1 ≤ 65536 ∧ 0 ≤ s.2.2.2 ∧ s.2.2.2 ≤ 65536 := by
  unfold rightS countS
  simp only [Bool.and_eq_true, Bool.or_eq_true, decide_eq_true_iff]
  omega
theorem padS_len {s : Str} (h : s.length ≤ 256) : (padS s).length = 256 := by unfold padS; rw [List.length_append, List.length_replicate]; omega
theorem headS_len {s : Slot} (h : rightS s = true) : (headS s).length ≤ 32 := by
  have h' := rightS_iff.1 h
  have e1 := plain_len (n := s.1) (by unfold maxInt; omega)
  have e2 := plain_len (n := s.2.1) (by unfold maxInt; omega)
  have e3 := plain_len (n := s.2.2.1) (by unfold maxInt; omega)
  have e4 := plain_len (n := s.2.2.2) (by unfold maxInt; omega)
  unfold headS
  simp only [List.length_append, show magic.length = 4 from rfl]
  omega
theorem plainS_len {s : Slot} (h : rightS s = true) : (plainS s).length = 256 := padS_len (by have := headS_len h; omega)
theorem plainS_take {s : Slot} (h : rightS s = true) : ∃ t, (plainS s).take 64 = headS s ++ t := by
  have := headS_len h
  unfold plainS padS
  rw [List.take_append, List.take_of_length_le (by omega)]
  exact ⟨_, rfl⟩
theorem read4_plain {a b c d : Int} (ha : 0 ≤ a ∧ a ≤ maxInt) (hb : 0 ≤ b ∧ b ≤ maxInt) (hc : 0 ≤ c ∧ c ≤ maxInt) (hd : 0 ≤ d ∧ d ≤ maxInt) (t : Str) : read4 (plain a ++ (plain b ++ (plain c ++ (plain d ++ t)))) = ((a, b, c, d), true) := by
  unfold read4
  simp only [takeNum_plain ha.1 ha.2, takeNum_plain hb.1 hb.2, takeNum_plain hc.1 hc.2, takeNum_plain hd.1 hd.2, ne_eq, not_true_eq_false, or_self, if_false]
theorem readS_of {x : Slot} (hx : rightS x = true) {b : Str} (hb : b.length = 256) (h : b.take 64 = (plainS x).take 64) : readS b = (x, true) := by
  have h' := rightS_iff.1 hx
  obtain ⟨t, ht⟩ := plainS_take hx
  have hbt : b = headS x ++ (t ++ b.drop 64) := by
    rw [← List.append_assoc, ← ht, ← h, List.take_append_drop]
  have e4 : b.take 4 = magic := by rw [hbt]; rfl
  have ed : b.drop 4 = plain x.1 ++ (plain x.2.1 ++ (plain x.2.2.1 ++ (plain x.2.2.2 ++ (t ++ b.drop 64)))) := by
    conv => lhs; rw [hbt]
    unfold headS
    simp only [List.append_assoc]
    rfl
  have e := read4_plain (a := x.1) (b := x.2.1) (c := x.2.2.1) (d := x.2.2.2) (by unfold maxInt; omega) (by unfold maxInt; omega) (by unfold maxInt; omega) (by unfold maxInt; omega) (t ++ b.drop 64)
  rw [← ed] at e
  unfold readS
  rw [if_neg (fun hh => hh.elim (fun q => q hb) (fun q => q e4)), e, if_neg (by simp), if_pos ⟨hx, h.symm⟩]
theorem readS_cases (b : Str) : readS b = ((0, 0, 0, 0), false) ∨ (∃ x, readS b = (x, true) ∧ rightS x = true ∧ b.length = 256 ∧ (plainS x).take 64 = b.take 64) := by
  unfold readS
  split
  · exact .inl rfl
  split
  · exact .inl rfl
  · rename_i c1 c2
    have hl : b.length = 256 := by
      rcases Nat.decEq b.length 256 with hh | hh
      · exact absurd (.inl hh) c1
      · exact hh
    split
    · rename_i c3; exact .inr ⟨_, rfl, c3.1, hl, c3.2⟩
    · exact .inl rfl
end Sp

theorem slot_padded.ok (R : List UInt8 → Prop) (s : Str) (h : Sp.padS.pre s) (hR : R (Sp.padS s)) : slot_padded.vc R s := by
  have h : List.length s ≤ 256 := h
  have e : Sp.repS [0] (256 - (List.length s : Int)) = List.replicate (256 - List.length s) 0 := by
    unfold Sp.repS
    rw [show (256 - (List.length s : Int)).toNat = 256 - List.length s by omega]
    generalize 256 - List.length s = k
    induction k with
    | zero => rfl
    | succ k ih => rw [List.replicate_succ, List.flatten_cons, ih]; rfl
  unfold slot_padded.vc
  rw [e, rg64, List.length_replicate]
  exact ⟨by omega, ⟨by omega, by omega, by simp⟩, by omega, hR⟩

theorem slot_Block.ok (R : List UInt8 → Int → Prop) (s : Int × Int × Int × Int) (hR : R (Sp.blockS s).1 (Sp.blockS s).2) : slot_Block.vc R s := by
  unfold slot_Block.vc
  unfold Sp.blockS at hR
  cases h : Sp.rightS s with
  | false => rw [h] at hR; exact hR
  | true =>
    rw [h, if_pos rfl] at hR
    have h' := Sp.rightS_iff.1 h
    have hl := Sp.headS_len h
    have e1 := Sp.numP_len (n := s.1) (by omega) (by unfold Sp.maxInt; omega)
    have e2 := Sp.numP_len (n := s.2.1) (by omega) (by unfold Sp.maxInt; omega)
    have e3 := Sp.numP_len (n := s.2.2.1) (by omega) (by unfold Sp.maxInt; omega)
    have e4 := Sp.numP_len (n := s.2.2.2) (by omega) (by unfold Sp.maxInt; omega)
    have n0 : nth (Sp.partsS s) 0 0 = s.1 := rfl
    have n1 : nth (Sp.partsS s) (0 + 1) 0 = s.2.1 := rfl
    have n2 : nth (Sp.partsS s) (0 + 1 + 1) 0 = s.2.2.1 := rfl
    have n3 : nth (Sp.partsS s) (0 + 1 + 1 + 1) 0 = s.2.2.2 := rfl
    have d0 : decide ((0 : Int) < 4) = true := rfl
    have d1 : decide ((0 : Int) + 1 < 4) = true := rfl
    have d2 : decide ((0 : Int) + 1 + 1 < 4) = true := rfl
    have d3 : decide ((0 : Int) + 1 + 1 + 1 < 4) = true := rfl
    have d4 : decide ((0 : Int) + 1 + 1 + 1 + 1 < 4) = false := rfl
    have l1 := Sp.plain_len (n := s.1) (by unfold Sp.maxInt; omega)
    have l2 := Sp.plain_len (n := s.2.1) (by unfold Sp.maxInt; omega)
    have l3 := Sp.plain_len (n := s.2.2.1) (by unfold Sp.maxInt; omega)
    have l4 := Sp.plain_len (n := s.2.2.2) (by unfold Sp.maxInt; omega)
    refine ⟨5, ?_⟩
    simp only [it, slot_Block.L0, d0, d1, d2, d3, d4, cond_true, cond_false, n0, n1, n2, n3, e1, e2, e3, e4, ix_iff, rg64, List.length_append, List.length_cons, List.length_nil]
    refine ⟨by omega, by omega, by omega, by omega, by omega, by omega, by omega, by omega, by omega, by omega, by omega, by omega, ?_, hR⟩
    show (Sp.headS s).length ≤ 256
    omega

namespace Sp
/-- What a block's reading comes to, its head taken off. -/
def readR (b rest : Str) : Slot × Bool :=
  if (read4 rest).2 = false then ((0, 0, 0, 0), false) else if rightS (read4 rest).1 = true ∧ (plainS (read4 rest).1).take 64 = b.take 64 then ((read4 rest).1, true) else ((0, 0, 0, 0), false)
end Sp

set_option maxHeartbeats 4000000 in
theorem slot_Read_L0 (R : Int × Int × Int × Int → Bool → Prop) (b rest : Str) (hb : b.length = 256) (hr : rest.length ≤ 256) (hR : R (Sp.readR b rest).1 (Sp.readR b rest).2) :
    Lp (fun v K => slot_Read.L0 R v.1 v.2.1 v.2.2.1 v.2.2.2.1 v.2.2.2.2.1 v.2.2.2.2.2.1 v.2.2.2.2.2.2.1 v.2.2.2.2.2.2.2.1 K) (b, rest, 0, 0, 0, 0, 0, List.replicate 4 0, ()) := by
  have d0 : decide ((0 : Int) < 4) = true := rfl
  have d1 : decide ((0 : Int) + 1 < 4) = true := rfl
  have d2 : decide ((0 : Int) + 1 + 1 < 4) = true := rfl
  have d3 : decide ((0 : Int) + 1 + 1 + 1 < 4) = true := rfl
  have d4 : decide ((0 : Int) + 1 + 1 + 1 + 1 < 4) = false := rfl
  refine ⟨5, ?_⟩
  simp only [it, slot_Read.L0, d0, d1, d2, d3, d4, cond_true, cond_false, cond_ndec, ix_iff, rg64, ln_iff, List.length_set, List.length_replicate]
  have hbad (q : (Sp.takeNum rest).2.2 ≠ 0 ∨ (Sp.takeNum (Sp.takeNum rest).2.1).2.2 ≠ 0 ∨ (Sp.takeNum (Sp.takeNum (Sp.takeNum rest).2.1).2.1).2.2 ≠ 0 ∨ (Sp.takeNum (Sp.takeNum (Sp.takeNum (Sp.takeNum rest).2.1).2.1).2.1).2.2 ≠ 0) : Sp.readR b rest = ((0, 0, 0, 0), false) := by unfold Sp.readR Sp.read4; rw [if_pos q]; rfl
  have h1 := Sp.takeNum_rest rest
  have h2 := Sp.takeNum_rest (Sp.takeNum rest).2.1
  have h3 := Sp.takeNum_rest (Sp.takeNum (Sp.takeNum rest).2.1).2.1
  refine ⟨show List.length rest ≤ 9223372036854775807 by omega, trivial, by omega, by omega, ?_⟩
  by_cases e1 : (Sp.takeNum rest).2.2 = 0
  case neg => rw [hbad (.inl e1)] at hR; rw [if_neg e1]; exact hR
  rw [if_pos e1]
  refine ⟨by omega, show List.length (Sp.takeNum rest).2.1 ≤ 9223372036854775807 by omega, trivial, by omega, by omega, ?_⟩
  by_cases e2 : (Sp.takeNum (Sp.takeNum rest).2.1).2.2 = 0
  case neg => rw [hbad (.inr (.inl e2))] at hR; rw [if_neg e2]; exact hR
  rw [if_pos e2]
  refine ⟨by omega, show List.length (Sp.takeNum (Sp.takeNum rest).2.1).2.1 ≤ 9223372036854775807 by omega, trivial, by omega, by omega, ?_⟩
  by_cases e3 : (Sp.takeNum (Sp.takeNum (Sp.takeNum rest).2.1).2.1).2.2 = 0
  case neg => rw [hbad (.inr (.inr (.inl e3)))] at hR; rw [if_neg e3]; exact hR
  rw [if_pos e3]
  refine ⟨by omega, show List.length (Sp.takeNum (Sp.takeNum (Sp.takeNum rest).2.1).2.1).2.1 ≤ 9223372036854775807 by omega, trivial, by omega, by omega, ?_⟩
  by_cases e4 : (Sp.takeNum (Sp.takeNum (Sp.takeNum (Sp.takeNum rest).2.1).2.1).2.1).2.2 = 0
  case neg => rw [hbad (.inr (.inr (.inr e4)))] at hR; rw [if_neg e4]; exact hR
  rw [if_pos e4]
  have hgood : Sp.read4 rest = (((Sp.takeNum rest).1, (Sp.takeNum (Sp.takeNum rest).2.1).1, (Sp.takeNum (Sp.takeNum (Sp.takeNum rest).2.1).2.1).1, (Sp.takeNum (Sp.takeNum (Sp.takeNum (Sp.takeNum rest).2.1).2.1).2.1).1), true) := by
    unfold Sp.read4
    rw [if_neg (fun e => e.elim (fun q => q e1) (fun e => e.elim (fun q => q e2) (fun e => e.elim (fun q => q e3) (fun q => q e4))))]
  unfold Sp.readR at hR
  rw [hgood] at hR
  clear hgood hbad h1 h2 h3
  generalize (Sp.takeNum rest).1 = a1 at *
  generalize (Sp.takeNum (Sp.takeNum rest).2.1).1 = a2 at *
  generalize (Sp.takeNum (Sp.takeNum (Sp.takeNum rest).2.1).2.1).1 = a3 at *
  generalize (Sp.takeNum (Sp.takeNum (Sp.takeNum (Sp.takeNum rest).2.1).2.1).2.1).1 = a4 at *
  have hset : ((((List.replicate 4 (0 : Int)).set (Int.toNat 0) a1).set (Int.toNat (0 + 1)) a2).set (Int.toNat (0 + 1 + 1)) a3).set (Int.toNat (0 + 1 + 1 + 1)) a4 = [a1, a2, a3, a4] := rfl
  rw [hset, show nth [a1, a2, a3, a4] 0 0 = a1 from rfl, show nth [a1, a2, a3, a4] 1 0 = a2 from rfl, show nth [a1, a2, a3, a4] 2 0 = a3 from rfl, show nth [a1, a2, a3, a4] 3 0 = a4 from rfl]
  refine ⟨by omega, trivial, by omega, by omega, trivial, by omega, by omega, trivial, by omega, by omega, trivial, by omega, by omega, ?_⟩
  rw [if_neg (c := ((a1, a2, a3, a4), true).2 = false) (by simp)] at hR
  have es : sub b 0 64 = b.take 64 := Sp.sub_to b 64
  unfold Sp.blockS
  cases hr2 : Sp.rightS (a1, a2, a3, a4) with
  | false =>
    rw [hr2] at hR
    rw [if_neg (by simp)] at hR
    exact hR
  | true =>
    rw [hr2] at hR
    rw [if_pos rfl, if_pos rfl]
    have ep : sub (Sp.plainS (a1, a2, a3, a4)) 0 64 = (Sp.plainS (a1, a2, a3, a4)).take 64 := Sp.sub_to _ 64
    simp only
    rw [ep, es, sb_iff, sb_iff, Sp.plainS_len hr2, hb]
    refine ⟨by omega, by omega, ?_⟩
    by_cases e5 : (Sp.plainS (a1, a2, a3, a4)).take 64 = b.take 64
    · rw [if_pos ⟨rfl, e5⟩] at hR; rw [if_pos e5]; exact hR
    · rw [if_neg (fun q => e5 q.2)] at hR; rw [if_neg e5]; exact hR

theorem slot_Read.ok (R : Int × Int × Int × Int → Bool → Prop) (b : Str) (_ : Sp.readS.pre b) (hR : R (Sp.readS b).1 (Sp.readS b).2) : slot_Read.vc R b := by
  unfold slot_Read.vc
  unfold Sp.readS at hR
  rw [cond_ndec]
  by_cases hl : (List.length b : Int) = 256
  case neg => rw [if_pos (.inl (fun e => hl (by omega)))] at hR; rw [if_neg hl]; exact hR
  have hl' : b.length = 256 := by omega
  rw [if_pos hl]
  refine ⟨⟨by omega, by simp⟩, ?_⟩
  have ec : Sp.cutP b [114, 99, 116, 111] = bif decide (b.take 4 = Sp.magic) then (b.drop 4, true) else (b, false) := rfl
  rw [ec]
  by_cases hm : b.take 4 = Sp.magic
  · rw [decide_eq_true hm]
    rw [if_neg (fun hh => hh.elim (fun q => q hl') (fun q => q hm))] at hR
    exact slot_Read_L0 R b (b.drop 4) hl' (by rw [List.length_drop]; omega) hR
  · rw [decide_eq_false hm]
    rw [if_pos (.inr hm)] at hR
    exact hR


namespace Sp
theorem read_len {n : Nat} {d : DSt} (h : dOk n d) (i : Int) : (dRead i d).1.length ≤ 256 := by
  unfold dRead
  cases hi : inD i d with
  | false => rw [if_pos rfl]; simp
  | true =>
    rw [if_neg (by simp)]
    split
    · simp
    · have hi' := in_iff.1 hi
      exact Nat.le_of_eq (bOk_len (lastW_ok (h.2.1 _ (nth_get hi'.1 hi'.2)) (fun w hw => (h.2.2.2.1 w hw).2.2)))
/-- What the choosing comes to. -/
def ch0 : Slot × Int := ((0, 0, 0, 0), -1)
def chA (c : Slot × Int) (i : Int) (a : Slot × Bool) : Slot × Int := if a.2 = true ∧ c.1.1 < a.1.1 then (a.1, i) else c
def chE (c : Slot × Int) : Slot × Int × Int := if c.2 < 0 then ((0, 0, 0, 0), 0, 290) else (c.1, c.2, 0)
theorem choose2_eq {x y : Str} : chE (chA (chA ch0 0 (readS x)) 1 (readS y)) = choose2 (readS x) (readS y) := by
  rcases readS_cases x with e | ⟨a, e, ha, _⟩ <;> rcases readS_cases y with f | ⟨b, f, hb, _⟩ <;> rw [e, f]
  · rfl
  · have := rightS_iff.1 hb
    unfold chE chA ch0 choose2
    simp only [Bool.false_eq_true, false_and, if_false, true_and, if_pos (show 0 < b.1 by omega), and_false, true_or, if_true, Bool.true_eq_false]
    rw [if_neg (by omega)]
  · have := rightS_iff.1 ha
    unfold chE chA ch0 choose2
    simp only [Bool.false_eq_true, false_and, if_false, true_and, if_pos (show 0 < a.1 by omega), Bool.true_eq_false, or_self]
    rw [if_neg (by omega)]
  · have := rightS_iff.1 ha
    unfold chE chA ch0 choose2
    simp only [true_and, if_pos (show 0 < a.1 by omega), Bool.true_eq_false, false_and, if_false, false_or]
    split
    · rw [if_neg (by omega)]
    · rw [if_neg (by omega)]
end Sp

theorem slot_Choose.ok (R : Int × Int × Int × Int → Int → Int → Bool → Bool → Int → Bool → List Int → List (List (List UInt8)) → List (Int × List (List UInt8)) → Prop) (down armed : Bool) (after : Int) (acut : Bool) (keep : List Int) (bs : List (List Str)) (ws : List (Int × List Str))
    (h : Sp.dPre (down, armed, after, acut, keep, bs, ws)) (hR : R (Sp.chooseS (down, armed, after, acut, keep, bs, ws)).1 (Sp.chooseS (down, armed, after, acut, keep, bs, ws)).2.1 (Sp.chooseS (down, armed, after, acut, keep, bs, ws)).2.2 down armed after acut keep bs ws) : slot_Choose.vc R down armed after acut keep bs ws := by
  unfold slot_Choose.vc
  have l0 := Sp.read_len h 0
  have l1 := Sp.read_len h 1
  unfold Sp.chooseS at hR
  have d0 : decide ((0 : Int) < 2) = true := rfl
  have d1 : decide ((0 : Int) + 1 < 2) = true := rfl
  have d2 : decide ((0 : Int) + 1 + 1 < 2) = false := rfl
  refine ⟨3, ?_⟩
  simp only [it, slot_Choose.L0, d0, d1, d2, cond_true, cond_false, cond_ndec, rg64, show (0 : Int) + 1 = 1 from rfl]
  refine ⟨h, ?_⟩
  by_cases e0 : (Sp.dRead 0 (down, armed, after, acut, keep, bs, ws)).2 = 0
  case neg => rw [if_pos e0] at hR; rw [if_neg e0]; exact hR
  rw [if_neg (fun q => q e0)] at hR
  rw [if_pos e0]
  refine ⟨show List.length (Sp.dRead 0 (down, armed, after, acut, keep, bs, ws)).1 ≤ 9223372036854775807 by omega, ?_⟩
  by_cases e1 : (Sp.dRead 1 (down, armed, after, acut, keep, bs, ws)).2 = 0
  · rw [if_neg (fun q => q e1)] at hR
    have hx := @Sp.choose2_eq (Sp.dRead 0 (down, armed, after, acut, keep, bs, ws)).1 (Sp.dRead 1 (down, armed, after, acut, keep, bs, ws)).1
    rw [← hx] at hR
    clear hx
    have hp1 : Sp.readS.pre (Sp.dRead 1 (down, armed, after, acut, keep, bs, ws)).1 := show List.length (Sp.dRead 1 (down, armed, after, acut, keep, bs, ws)).1 ≤ 9223372036854775807 by omega
    simp only [e1, if_true]
    generalize (Sp.readS (Sp.dRead 0 (down, armed, after, acut, keep, bs, ws)).1) = a at *
    have fin (c : Sp.Slot × Int) (hc : R (Sp.chE (Sp.chA c 1 (Sp.readS (Sp.dRead 1 (down, armed, after, acut, keep, bs, ws)).1))).1 (Sp.chE (Sp.chA c 1 (Sp.readS (Sp.dRead 1 (down, armed, after, acut, keep, bs, ws)).1))).2.1 (Sp.chE (Sp.chA c 1 (Sp.readS (Sp.dRead 1 (down, armed, after, acut, keep, bs, ws)).1))).2.2 down armed after acut keep bs ws) :
        Sp.dPre (down, armed, after, acut, keep, bs, ws) ∧ Sp.readS.pre (Sp.dRead 1 (down, armed, after, acut, keep, bs, ws)).1 ∧
          bif (Sp.readS (Sp.dRead 1 (down, armed, after, acut, keep, bs, ws)).1).2 then
            bif decide (c.1.1 < (Sp.readS (Sp.dRead 1 (down, armed, after, acut, keep, bs, ws)).1).1.1) then
              (-9223372036854775808 ≤ (1 : Int) + 1 ∧ (1 : Int) + 1 ≤ 9223372036854775807) ∧ bif decide ((1 : Int) < 0) then R (0, 0, 0, 0) 0 290 down armed after acut keep bs ws else R (Sp.readS (Sp.dRead 1 (down, armed, after, acut, keep, bs, ws)).1).1 1 0 down armed after acut keep bs ws
            else (-9223372036854775808 ≤ (1 : Int) + 1 ∧ (1 : Int) + 1 ≤ 9223372036854775807) ∧ bif decide (c.2 < 0) then R (0, 0, 0, 0) 0 290 down armed after acut keep bs ws else R c.1 c.2 0 down armed after acut keep bs ws
          else (-9223372036854775808 ≤ (1 : Int) + 1 ∧ (1 : Int) + 1 ≤ 9223372036854775807) ∧ bif decide (c.2 < 0) then R (0, 0, 0, 0) 0 290 down armed after acut keep bs ws else R c.1 c.2 0 down armed after acut keep bs ws := by
      refine ⟨h, hp1, ?_⟩
      generalize Sp.readS (Sp.dRead 1 (down, armed, after, acut, keep, bs, ws)).1 = b at *
      have hE (c' : Sp.Slot × Int) (hc' : R (Sp.chE c').1 (Sp.chE c').2.1 (Sp.chE c').2.2 down armed after acut keep bs ws) : bif decide (c'.2 < 0) then R (0, 0, 0, 0) 0 290 down armed after acut keep bs ws else R c'.1 c'.2 0 down armed after acut keep bs ws := by
        rw [cond_dec]
        unfold Sp.chE at hc'
        split
        · rename_i q; rw [if_pos q] at hc'; exact hc'
        · rename_i q; rw [if_neg q] at hc'; exact hc'
      unfold Sp.chA at hc
      obtain ⟨b1, b2⟩ := b
      cases b2 with
      | false => rw [if_neg (by simp)] at hc; exact ⟨by omega, hE c hc⟩
      | true =>
        rw [cond_true, cond_dec]
        split
        · rename_i q
          rw [if_pos ⟨rfl, q⟩] at hc
          exact ⟨by omega, hE (b1, 1) hc⟩
        · rename_i q
          rw [if_neg (fun e => q e.2)] at hc
          exact ⟨by omega, hE c hc⟩
    unfold Sp.chA at hR
    obtain ⟨a1, a2⟩ := a
    cases a2 with
    | false =>
      rw [if_neg (c := ((a1, false) : Sp.Slot × Bool).2 = true ∧ Sp.ch0.1.1 < a1.1) (by simp)] at hR
      exact ⟨by omega, fin Sp.ch0 hR⟩
    | true =>
      rw [cond_true, cond_dec]
      split
      · rename_i q
        rw [if_pos (c := ((a1, true) : Sp.Slot × Bool).2 = true ∧ Sp.ch0.1.1 < a1.1) ⟨rfl, q⟩] at hR
        exact ⟨by omega, fin (a1, 0) hR⟩
      · rename_i q
        rw [if_neg (c := ((a1, true) : Sp.Slot × Bool).2 = true ∧ Sp.ch0.1.1 < a1.1) (fun e => q e.2)] at hR
        exact ⟨by omega, fin Sp.ch0 hR⟩
  · rw [if_pos e1] at hR
    simp only [e1, if_false]
    have fin : (-9223372036854775808 ≤ (1 : Int) ∧ (1 : Int) ≤ 9223372036854775807) ∧ Sp.dPre (down, armed, after, acut, keep, bs, ws) ∧ R (0, 0, 0, 0) 0 (Sp.dRead 1 (down, armed, after, acut, keep, bs, ws)).2 down armed after acut keep bs ws := ⟨by omega, h, hR⟩
    cases (Sp.readS (Sp.dRead 0 (down, armed, after, acut, keep, bs, ws)).1).2 with
    | false => exact fin
    | true =>
      rw [cond_true, cond_dec]
      split
      · exact fin
      · exact fin


namespace Sp
theorem dPre_up9s {d : DSt} (h : dOk 90000 d) : dPre d := dOk_up h (by omega)
theorem choose2_facts (x y : Str) : (choose2 (readS x) (readS y)).2.2 = 0 → 1 ≤ (choose2 (readS x) (readS y)).1.1 ∧ (choose2 (readS x) (readS y)).1.1 ≤ 1099511627776 ∧ ((choose2 (readS x) (readS y)).2.1 = 0 ∨ (choose2 (readS x) (readS y)).2.1 = 1) := by
  intro h
  rcases readS_cases x with e | ⟨a, e, ha, _⟩ <;> rcases readS_cases y with f | ⟨b, f, hb, _⟩ <;> rw [e, f] at h ⊢
  · simp [choose2] at h
  · have := rightS_iff.1 hb
    simp only [choose2, Bool.true_eq_false, and_false, if_false, true_or, if_true]; exact ⟨by omega, by omega, .inr trivial⟩
  · have := rightS_iff.1 ha
    simp only [choose2, Bool.true_eq_false, false_and, if_false, Bool.false_eq_true, or_self]; exact ⟨by omega, by omega, .inl trivial⟩
  · have := rightS_iff.1 ha
    have := rightS_iff.1 hb
    simp only [choose2, Bool.true_eq_false, false_and, if_false, true_and, false_or]
    split
    · exact ⟨by show 1 ≤ b.1; omega, by show b.1 ≤ 1099511627776; omega, .inr rfl⟩
    · exact ⟨by show 1 ≤ a.1; omega, by show a.1 ≤ 1099511627776; omega, .inl rfl⟩
theorem choose_facts {d : DSt} (h : (chooseS d).2.2 = 0) : 1 ≤ (chooseS d).1.1 ∧ (chooseS d).1.1 ≤ 1099511627776 ∧ ((chooseS d).2.1 = 0 ∨ (chooseS d).2.1 = 1) := by
  unfold chooseS at h ⊢
  split at h
  · rename_i c; exact absurd h c
  split at h
  · rename_i c; exact absurd h c
  · rename_i c1 c2
    rw [if_neg c1, if_neg c2]
    exact choose2_facts _ _ h
theorem plainS_le {s : Slot} (h : rightS s = true) : (plainS s).length ≤ 9223372036854775807 := by rw [plainS_len h]; omega
theorem first_right : rightS (1, 0, 0, 0) = true := rfl
theorem first_len : firstS.length = 256 := plainS_len first_right
theorem pad0_len : (padS []).length = 256 := padS_len (by simp)
end Sp

theorem slot_Put.ok (R : Int → Bool → Bool → Int → Bool → List Int → List (List (List UInt8)) → List (Int × List (List UInt8)) → Prop) (s : Int × Int × Int × Int) (down armed : Bool) (after : Int) (acut : Bool) (keep : List Int) (bs : List (List Str)) (ws : List (Int × List Str))
    (h : Sp.putS.pre s (down, armed, after, acut, keep, bs, ws)) (hR : Sp.ap (R (Sp.putS s (down, armed, after, acut, keep, bs, ws)).2) (Sp.putS s (down, armed, after, acut, keep, bs, ws)).1) : slot_Put.vc R s down armed after acut keep bs ws := by
  have h : Sp.dOk 90000 (down, armed, after, acut, keep, bs, ws) := h
  have hp := Sp.dPre_up9s h
  unfold slot_Put.vc
  unfold Sp.putS at hR
  generalize hd : ((down, armed, after, acut, keep, bs, ws) : Sp.DSt) = d at *
  refine ⟨hp, ?_⟩
  rw [cond_ndec]
  by_cases e0 : (Sp.chooseS d).2.2 = 0
  case neg => rw [if_pos e0] at hR; rw [if_neg e0]; subst hd; exact hR
  rw [if_neg (fun q => q e0)] at hR
  rw [if_pos e0]
  have hf := Sp.choose_facts e0
  rw [rg64]
  refine ⟨by omega, ?_⟩
  have en : ((Sp.chooseS d).1.1 + 1, s.2) = Sp.nextS (Sp.chooseS d).1 s := rfl
  rw [en]
  generalize Sp.nextS (Sp.chooseS d).1 s = x at *
  unfold Sp.blockS
  cases hr : Sp.rightS x with
  | false =>
    rw [hr] at hR
    rw [if_pos rfl] at hR
    rw [if_neg (by simp)]
    subst hd; exact hR
  | true =>
    rw [hr, if_neg (by simp)] at hR
    rw [if_pos rfl, cond_ndec, if_pos rfl, rg64]
    refine ⟨by omega, ⟨hp, Sp.plainS_le hr⟩, ?_⟩
    have hw := Sp.write_ok (i := 1 - (Sp.chooseS d).2.1) h (by omega) (Sp.plainS_len hr)
    rw [cond_ndec]
    simp only
    by_cases e1 : (Sp.dWrite (1 - (Sp.chooseS d).2.1) (Sp.plainS x) d).2 = 0
    · rw [if_neg (fun q => q e1)] at hR
      rw [if_pos e1]
      exact ⟨Sp.dOk_up hw (by omega), hR⟩
    · rw [if_pos e1] at hR
      rw [if_neg e1]
      exact hR

theorem slot_Format.ok (R : Int → Bool → Bool → Int → Bool → List Int → List (List (List UInt8)) → List (Int × List (List UInt8)) → Prop) (down armed : Bool) (after : Int) (acut : Bool) (keep : List Int) (bs : List (List Str)) (ws : List (Int × List Str))
    (h : Sp.dPre9s (down, armed, after, acut, keep, bs, ws)) (hR : Sp.ap (R (Sp.formatS (down, armed, after, acut, keep, bs, ws)).2) (Sp.formatS (down, armed, after, acut, keep, bs, ws)).1) : slot_Format.vc R down armed after acut keep bs ws := by
  have h : Sp.dOk 90000 (down, armed, after, acut, keep, bs, ws) := h
  unfold slot_Format.vc
  unfold Sp.formatS at hR
  refine ⟨Nat.zero_le _, ?_⟩
  have eb : (Sp.blockS (1, 0, 0, 0)).1 = Sp.firstS := by unfold Sp.blockS; rw [if_pos Sp.first_right]; rfl
  rw [eb]
  have d0 : decide ((0 : Int) < 2) = true := rfl
  have d1 : decide ((0 : Int) + 1 < 2) = true := rfl
  have d2 : decide ((0 : Int) + 1 + 1 < 2) = false := rfl
  have n0 : nth [Sp.firstS, Sp.padS []] 0 [] = Sp.firstS := rfl
  have n1 : nth [Sp.firstS, Sp.padS []] 1 [] = Sp.padS [] := rfl
  have w1 := Sp.write_ok (i := 0) h (by omega) Sp.first_len
  have w2 := Sp.write_ok (i := 1) w1 (by omega) Sp.pad0_len
  refine ⟨3, ?_⟩
  simp only [it, slot_Format.L0, d0, d1, d2, cond_true, cond_false, cond_ndec, rg64, ix_iff, show (0 : Int) + 1 = 1 from rfl, n0, n1]
  refine ⟨by omega, ⟨Sp.dPre_up9s h, by rw [Sp.first_len]; omega⟩, ?_⟩
  by_cases e0 : (Sp.dWrite 0 Sp.firstS (down, armed, after, acut, keep, bs, ws)).2 = 0
  case neg => rw [if_pos e0] at hR; rw [if_neg e0]; exact hR
  rw [if_neg (fun q => q e0)] at hR
  rw [if_pos e0]
  refine ⟨by omega, by omega, ⟨Sp.dOk_up w1 (by omega), by rw [Sp.pad0_len]; omega⟩, ?_⟩
  by_cases e1 : (Sp.dWrite 1 (Sp.padS []) (Sp.dWrite 0 Sp.firstS (down, armed, after, acut, keep, bs, ws)).1).2 = 0
  case neg => rw [if_pos e1] at hR; refine cast ?_ hR; exact (if_neg e1).symm
  rw [if_neg (fun q => q e1)] at hR
  refine cast (if_pos e1).symm ⟨by omega, Sp.dOk_up w2 (by omega), hR⟩

namespace Sp
theorem put_ok {n : Nat} {d : DSt} (s : Slot) (h : dOk n d) : dOk (n + 1) (putS s d).1 := by
  unfold putS
  split
  · exact dOk_le h (by omega)
  split
  · exact dOk_le h (by omega)
  · rename_i c c2
    have hf := choose_facts (d := d) (by rcases Int.decEq (chooseS d).2.2 0 with q | q; exact absurd q c; exact q)
    have hr : rightS (nextS (chooseS d).1 s) = true := by
      cases hr : rightS (nextS (chooseS d).1 s) with
      | true => rfl
      | false => exact absurd hr c2
    have hw := write_ok (i := 1 - (chooseS d).2.1) h (by omega) (plainS_len hr)
    split
    · exact hw
    · exact flush_ok hw
theorem format_ok {n : Nat} {d : DSt} (h : dOk n d) : dOk (n + 2) (formatS d).1 := by
  have w1 := write_ok (i := 0) h (by omega) first_len
  have w2 := write_ok (i := 1) w1 (by omega) pad0_len
  unfold formatS
  split
  · exact dOk_le w1 (by omega)
  split
  · exact w2
  · exact flush_ok w2
def chooseB (bs : List Blk) : Slot × Int × Int := choose2 (readS (nth bs 0 []).flatten) (readS (nth bs 1 []).flatten)
end Sp

namespace Sp
theorem ints_len (s : Str) : (ints s).length = s.length := by unfold ints; rw [List.length_map]
end Sp

namespace Sp
/-- A block whose first sector is a slot's. -/
theorem read_head {x : Slot} {b : Blk} (hx : rightS x = true) (hb : bOk b) (h : b.flatten.take 64 = (plainS x).take 64) : readS b.flatten = (x, true) := readS_of hx (bOk_len hb) h
theorem choose2_at {a b : Slot × Bool} {w : Slot} {at_ : Int} (h : choose2 a b = (w, at_, 0)) : (at_ = 0 ∧ a = (w, true)) ∨ (at_ = 1 ∧ b = (w, true)) := by
  obtain ⟨a1, a2⟩ := a
  obtain ⟨b1, b2⟩ := b
  unfold choose2 at h
  split at h
  · simp at h
  split at h
  · rename_i c1 c2
    simp only [Prod.mk.injEq] at h
    refine .inr ⟨h.2.1.symm, ?_⟩
    cases b2 with
    | true => rw [h.1]
    | false =>
      cases a2 with
      | false => exact absurd ⟨rfl, rfl⟩ c1
      | true => exact absurd c2 (by simp)
  · rename_i c1 c2
    simp only [Prod.mk.injEq] at h
    refine .inl ⟨h.2.1.symm, ?_⟩
    cases a2 with
    | true => rw [h.1]
    | false => exact absurd (.inl rfl) c2
theorem tail {F Q : Prop} {y w s : Slot} {code : Int} (hw : 1 ≤ w.1 ∧ w.1 ≤ 1099511627776) (hy : (y = w ∧ ¬ code = 0) ∨ y = nextS w s) (hQ : Q) :
    bif !(eqI y.1 (w.1 + 1) && (eqI y.2.1 s.2.1 && (eqI y.2.2.1 s.2.2.1 && eqI y.2.2.2 s.2.2.2))) then
      bif !(eqI y.1 w.1 && (eqI y.2.1 w.2.1 && (eqI y.2.2.1 w.2.2.1 && eqI y.2.2.2 w.2.2.2))) then F
      else bif decide (code = 0) then F
        else bif eqI y.1 (w.1 + 1) && (eqI y.2.1 s.2.1 && (eqI y.2.2.1 s.2.2.1 && eqI y.2.2.2 s.2.2.2)) then Rg IntKind.i64 (w.1 + 1) ∧ bif !decide (y.1 = w.1 + 1) then F else Q
          else Q
    else bif eqI y.1 (w.1 + 1) && (eqI y.2.1 s.2.1 && (eqI y.2.2.1 s.2.2.1 && eqI y.2.2.2 s.2.2.2)) then Rg IntKind.i64 (w.1 + 1) ∧ bif !decide (y.1 = w.1 + 1) then F else Q
      else Q := by
  have e1 : ∀ x : Int, eqI x x = true := fun x => by simp [eqI]
  rcases hy with ⟨rfl, hc⟩ | rfl
  · have e2 : eqI y.1 (y.1 + 1) = false := by unfold eqI; exact decide_eq_false (by omega)
    rw [e2, e1, e1, e1, e1, decide_eq_false hc]
    exact hQ
  · have e3 : (eqI (nextS w s).1 (w.1 + 1) && (eqI (nextS w s).2.1 s.2.1 && (eqI (nextS w s).2.2.1 s.2.2.1 && eqI (nextS w s).2.2.2 s.2.2.2))) = true := by
      unfold nextS; rw [e1, e1, e1, e1]; rfl
    rw [e3, decide_eq_true (show (nextS w s).1 = w.1 + 1 from rfl)]
    exact ⟨⟨by show (-9223372036854775808 : Int) ≤ w.1 + 1; omega, by show w.1 + 1 ≤ (9223372036854775807 : Int); omega⟩, hQ⟩
end Sp


namespace Sp
end Sp
