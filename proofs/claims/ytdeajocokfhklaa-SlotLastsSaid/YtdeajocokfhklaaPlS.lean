/- What says how much of a disk counts: what is told, shown of the conditions. Plain theorems. -/
import Derived.Test.YtdeajocokfhklaaVcS
import Derived.Test.YtdeajocokfhklaaPlD
import Derived.Test.YtdeajocokfhklaaPlN
set_option linter.unnecessarySimpa false
set_option linter.unusedVariables false
set_option linter.unusedSectionVars false
set_option linter.unusedSimpArgs false
set_option autoImplicit false
open Go Vi

theorem internal_stringslite_HasPrefix.ok (R : Bool → Prop) (s p : Str) (h : Sp.preB.pre s p) (hR : R (Sp.preB s p)) : internal_stringslite_HasPrefix.vc R s p := by
  obtain ⟨h1, h2⟩ := h
  unfold internal_stringslite_HasPrefix.vc
  unfold Sp.preB at hR
  rw [cond_dec]
  split
  · rw [Sp.sub_to, sb_iff]
    exact ⟨by omega, hR⟩
  · rw [decide_eq_false (fun e => by have := congrArg List.length e; simp at this; omega)] at hR
    exact hR
theorem internal_stringslite_CutPrefix.ok (R : List UInt8 → Bool → Prop) (s p : Str) (h : Sp.preB.pre s p) (hR : R (Sp.cutP s p).1 (Sp.cutP s p).2) : internal_stringslite_CutPrefix.vc R s p := by
  refine ⟨h, ?_⟩
  obtain ⟨h1, h2⟩ := h
  unfold Sp.cutP at hR
  cases hb : Sp.preB s p with
  | false => rw [hb] at hR; exact hR
  | true =>
    rw [hb] at hR
    simp only [cond_true, Bool.not_true, cond_false] at hR ⊢
    have : p.length ≤ s.length := by
      unfold Sp.preB at hb
      have := congrArg List.length (of_decide_eq_true hb)
      simp at this
      omega
    rw [Sp.sub_all, sb_iff]
    exact ⟨by omega, hR⟩
theorem strings_CutPrefix.ok (R : List UInt8 → Bool → Prop) (s p : Str) (h : Sp.preB.pre s p) (hR : R (Sp.cutP s p).1 (Sp.cutP s p).2) : strings_CutPrefix.vc R s p := ⟨h, hR⟩
theorem slot_Slot_parts.ok (R : List Int → Prop) (s : Int × Int × Int × Int) (hR : R (Sp.partsS s)) : slot_Slot_parts.vc R s := ⟨rfl, rfl, hR⟩
theorem slot_Slot_right_1.ok (R : Bool → Prop) (n : Int) (hR : R (Sp.countS n)) : slot_Slot_right_1.vc R n := by
  unfold slot_Slot_right_1.vc
  unfold Sp.countS at hR
  cases h : decide (0 ≤ n) with
  | true => rw [h] at hR; exact hR
  | false => rw [h] at hR; exact hR
theorem slot_Slot_right.ok (R : Bool → Prop) (s : Int × Int × Int × Int) (hR : R (Sp.rightS s)) : slot_Slot_right.vc R s := by
  unfold slot_Slot_right.vc
  unfold Sp.rightS at hR
  cases h1 : decide (1 ≤ s.1) with
  | false => rw [h1] at hR; exact hR
  | true =>
    cases h2 : decide (s.1 ≤ 1099511627776) with
    | false => rw [h1, h2] at hR; exact hR
    | true =>
      cases h3 : decide (s.2.1 = 0) with
      | true =>
        cases h4 : Sp.countS s.2.2.1 with
        | true => rw [h1, h2, h3, h4] at hR; exact hR
        | false => rw [h1, h2, h3, h4] at hR; exact hR
      | false =>
        cases h5 : decide (s.2.1 = 1) with
        | false => rw [h1, h2, h3, h5] at hR; exact hR
        | true =>
          cases h4 : Sp.countS s.2.2.1 with
          | true => rw [h1, h2, h3, h5, h4] at hR; exact hR
          | false => rw [h1, h2, h3, h5, h4] at hR; exact hR

namespace Sp
theorem rightS_iff {s : Slot} : rightS s = true ↔ 1 ≤ s.1 ∧ s.1 ≤ 1099511627776 ∧ (s.2.1 = 0 ∨ s.2.1 = 1) ∧ 0 ≤ s.2.2.1 ∧ s.2.2.1 ≤ 65536 ∧ 0 ≤ s.2.2.2 ∧ s.2.2.2 ≤ 65536 := by
  unfold rightS countS
  simp only [Bool.and_eq_true, Bool.or_eq_true, decide_eq_true_iff]
  omega
theorem padS_len {s : Str} (h : s.length ≤ 256) : (padS s).length = 256 := by unfold padS; rw [List.length_append, List.length_replicate]; omega
theorem headS_len {s : Slot} (h : rightS s = true) : (headS s).length ≤ 32 := by
  have h' := rightS_iff.1 h
  have e1 := plain_len (n := s.1) (by unfold maxInt; omega)
  have e2 := plain_len (n := s.2.1) (by unfold maxInt; omega)
  have e3 := plain_len (n := s.2.2.1) (by unfold maxInt; omega)
  have e4 := plain_len (n := s.2.2.2) (by unfold maxInt; omega)
  unfold headS
  simp only [List.length_append, show magic.length = 4 from rfl]
  omega
theorem plainS_len {s : Slot} (h : rightS s = true) : (plainS s).length = 256 := padS_len (by have := headS_len h; omega)
theorem plainS_take {s : Slot} (h : rightS s = true) : ∃ t, (plainS s).take 64 = headS s ++ t := by
  have := headS_len h
  unfold plainS padS
  rw [List.take_append, List.take_of_length_le (by omega)]
  exact ⟨_, rfl⟩
theorem read4_plain {a b c d : Int} (ha : 0 ≤ a ∧ a ≤ maxInt) (hb : 0 ≤ b ∧ b ≤ maxInt) (hc : 0 ≤ c ∧ c ≤ maxInt) (hd : 0 ≤ d ∧ d ≤ maxInt) (t : Str) : read4 (plain a ++ (plain b ++ (plain c ++ (plain d ++ t)))) = ((a, b, c, d), true) := by
  unfold read4
  simp only [takeNum_plain ha.1 ha.2, takeNum_plain hb.1 hb.2, takeNum_plain hc.1 hc.2, takeNum_plain hd.1 hd.2, ne_eq, not_true_eq_false, or_self, if_false]
theorem readS_of {x : Slot} (hx : rightS x = true) {b : Str} (hb : b.length = 256) (h : b.take 64 = (plainS x).take 64) : readS b = (x, true) := by
  have h' := rightS_iff.1 hx
  obtain ⟨t, ht⟩ := plainS_take hx
  have hbt : b = headS x ++ (t ++ b.drop 64) := by
    rw [← List.append_assoc, ← ht, ← h, List.take_append_drop]
  have e4 : b.take 4 = magic := by rw [hbt]; rfl
  have ed : b.drop 4 = plain x.1 ++ (plain x.2.1 ++ (plain x.2.2.1 ++ (plain x.2.2.2 ++ (t ++ b.drop 64)))) := by
    conv => lhs; rw [hbt]
    unfold headS
    simp only [List.append_assoc]
    rfl
  have e := read4_plain (a := x.1) (b := x.2.1) (c := x.2.2.1) (d := x.2.2.2) (by unfold maxInt; omega) (by unfold maxInt; omega) (by unfold maxInt; omega) (by unfold maxInt; omega) (t ++ b.drop 64)
  rw [← ed] at e
  unfold readS
  rw [if_neg (fun hh => hh.elim (fun q => q hb) (fun q => q e4)), e, if_neg (by simp), if_pos ⟨hx, h.symm⟩]
theorem readS_cases (b : Str) : readS b = ((0, 0, 0, 0), false) ∨ (∃ x, readS b = (x, true) ∧ rightS x = true ∧ b.length = 256 ∧ (plainS x).take 64 = b.take 64) := by
  unfold readS
  split
  · exact .inl rfl
  split
  · exact .inl rfl
  · rename_i c1 c2
    have hl : b.length = 256 := by
      rcases Nat.decEq b.length 256 with hh | hh
      · exact absurd (.inl hh) c1
      · exact hh
    split
    · rename_i c3; exact .inr ⟨_, rfl, c3.1, hl, c3.2⟩
    · exact .inl rfl
end Sp

theorem slot_padded.ok (R : List UInt8 → Prop) (s : Str) (h : Sp.padS.pre s) (hR : R (Sp.padS s)) : slot_padded.vc R s := by
  have h : List.length s ≤ 256 := h
  have e : Sp.repS [0] (256 - (List.length s : Int)) = List.replicate (256 - List.length s) 0 := by
    unfold Sp.repS
    rw [show (256 - (List.length s : Int)).toNat = 256 - List.length s by omega]
    generalize 256 - List.length s = k
    induction k with
    | zero => rfl
    | succ k ih => rw [List.replicate_succ, List.flatten_cons, ih]; rfl
  unfold slot_padded.vc
  rw [e, rg64, List.length_replicate]
  exact ⟨by omega, ⟨by omega, by omega, by simp⟩, by omega, hR⟩

theorem slot_Block.ok (R : List UInt8 → Int → Prop) (s : Int × Int × Int × Int) (hR : R (Sp.blockS s).1 (Sp.blockS s).2) : slot_Block.vc R s := by
  unfold slot_Block.vc
  unfold Sp.blockS at hR
  cases h : Sp.rightS s with
  | false => rw [h] at hR; exact hR
  | true =>
    rw [h, if_pos rfl] at hR
    have h' := Sp.rightS_iff.1 h
    have hl := Sp.headS_len h
    have e1 := Sp.numP_len (n := s.1) (by omega) (by unfold Sp.maxInt; omega)
    have e2 := Sp.numP_len (n := s.2.1) (by omega) (by unfold Sp.maxInt; omega)
    have e3 := Sp.numP_len (n := s.2.2.1) (by omega) (by unfold Sp.maxInt; omega)
    have e4 := Sp.numP_len (n := s.2.2.2) (by omega) (by unfold Sp.maxInt; omega)
    have n0 : nth (Sp.partsS s) 0 0 = s.1 := rfl
    have n1 : nth (Sp.partsS s) (0 + 1) 0 = s.2.1 := rfl
    have n2 : nth (Sp.partsS s) (0 + 1 + 1) 0 = s.2.2.1 := rfl
    have n3 : nth (Sp.partsS s) (0 + 1 + 1 + 1) 0 = s.2.2.2 := rfl
    have d0 : decide ((0 : Int) < 4) = true := rfl
    have d1 : decide ((0 : Int) + 1 < 4) = true := rfl
    have d2 : decide ((0 : Int) + 1 + 1 < 4) = true := rfl
    have d3 : decide ((0 : Int) + 1 + 1 + 1 < 4) = true := rfl
    have d4 : decide ((0 : Int) + 1 + 1 + 1 + 1 < 4) = false := rfl
    have l1 := Sp.plain_len (n := s.1) (by unfold Sp.maxInt; omega)
    have l2 := Sp.plain_len (n := s.2.1) (by unfold Sp.maxInt; omega)
    have l3 := Sp.plain_len (n := s.2.2.1) (by unfold Sp.maxInt; omega)
    have l4 := Sp.plain_len (n := s.2.2.2) (by unfold Sp.maxInt; omega)
    refine ⟨5, ?_⟩
    simp only [it, slot_Block.L0, d0, d1, d2, d3, d4, cond_true, cond_false, n0, n1, n2, n3, e1, e2, e3, e4, ix_iff, rg64, List.length_append, List.length_cons, List.length_nil]
    refine ⟨by omega, by omega, by omega, by omega, by omega, by omega, by omega, by omega, by omega, by omega, by omega, by omega, ?_, hR⟩
    show (Sp.headS s).length ≤ 256
    omega

namespace Sp
/-- What a block's reading comes to, its head taken off. -/
def readR (b rest : Str) : Slot × Bool :=
  if (read4 rest).2 = false then ((0, 0, 0, 0), false) else if rightS (read4 rest).1 = true ∧ (plainS (read4 rest).1).take 64 = b.take 64 then ((read4 rest).1, true) else ((0, 0, 0, 0), false)
end Sp

set_option maxHeartbeats 4000000 in
theorem slot_Read_L0 (R : Int × Int × Int × Int → Bool → Prop) (b rest : Str) (hb : b.length = 256) (hr : rest.length ≤ 256) (hR : R (Sp.readR b rest).1 (Sp.readR b rest).2) :
    Lp (fun v K => slot_Read.L0 R v.1 v.2.1 v.2.2.1 v.2.2.2.1 v.2.2.2.2.1 v.2.2.2.2.2.1 v.2.2.2.2.2.2.1 v.2.2.2.2.2.2.2.1 K) (b, rest, 0, 0, 0, 0, 0, List.replicate 4 0, ()) := by
  have d0 : decide ((0 : Int) < 4) = true := rfl
  have d1 : decide ((0 : Int) + 1 < 4) = true := rfl
  have d2 : decide ((0 : Int) + 1 + 1 < 4) = true := rfl
  have d3 : decide ((0 : Int) + 1 + 1 + 1 < 4) = true := rfl
  have d4 : decide ((0 : Int) + 1 + 1 + 1 + 1 < 4) = false := rfl
  refine ⟨5, ?_⟩
  simp only [it, slot_Read.L0, d0, d1, d2, d3, d4, cond_true, cond_false, cond_ndec, ix_iff, rg64, ln_iff, List.length_set, List.length_replicate]
  have hbad (q : (Sp.takeNum rest).2.2 ≠ 0 ∨ (Sp.takeNum (Sp.takeNum rest).2.1).2.2 ≠ 0 ∨ (Sp.takeNum (Sp.takeNum (Sp.takeNum rest).2.1).2.1).2.2 ≠ 0 ∨ (Sp.takeNum (Sp.takeNum (Sp.takeNum (Sp.takeNum rest).2.1).2.1).2.1).2.2 ≠ 0) : Sp.readR b rest = ((0, 0, 0, 0), false) := by unfold Sp.readR Sp.read4; rw [if_pos q]; rfl
  have h1 := Sp.takeNum_rest rest
  have h2 := Sp.takeNum_rest (Sp.takeNum rest).2.1
  have h3 := Sp.takeNum_rest (Sp.takeNum (Sp.takeNum rest).2.1).2.1
  refine ⟨show List.length rest ≤ 9223372036854775807 by omega, trivial, by omega, by omega, ?_⟩
  by_cases e1 : (Sp.takeNum rest).2.2 = 0
  case neg => rw [hbad (.inl e1)] at hR; rw [if_neg e1]; exact hR
  rw [if_pos e1]
  refine ⟨by omega, show List.length (Sp.takeNum rest).2.1 ≤ 9223372036854775807 by omega, trivial, by omega, by omega, ?_⟩
  by_cases e2 : (Sp.takeNum (Sp.takeNum rest).2.1).2.2 = 0
  case neg => rw [hbad (.inr (.inl e2))] at hR; rw [if_neg e2]; exact hR
  rw [if_pos e2]
  refine ⟨by omega, show List.length (Sp.takeNum (Sp.takeNum rest).2.1).2.1 ≤ 9223372036854775807 by omega, trivial, by omega, by omega, ?_⟩
  by_cases e3 : (Sp.takeNum (Sp.takeNum (Sp.takeNum rest).2.1).2.1).2.2 = 0
  case neg => rw [hbad (.inr (.inr (.inl e3)))] at hR; rw [if_neg e3]; exact hR
  rw [if_pos e3]
  refine ⟨by omega, show List.length (Sp.takeNum (Sp.takeNum (Sp.takeNum rest).2.1).2.1).2.1 ≤ 9223372036854775807 by omega, trivial, by omega, by omega, ?_⟩
  by_cases e4 : (Sp.takeNum (Sp.takeNum (Sp.takeNum (Sp.takeNum rest).2.1).2.1).2.1).2.2 = 0
  case neg => rw [hbad (.inr (.inr (.inr e4)))] at hR; rw [if_neg e4]; exact hR
  rw [if_pos e4]
  have hgood : Sp.read4 rest = (((Sp.takeNum rest).1, (Sp.takeNum (Sp.takeNum rest).2.1).1, (Sp.takeNum (Sp.takeNum (Sp.takeNum rest).2.1).2.1).1, (Sp.takeNum (Sp.takeNum (Sp.takeNum (Sp.takeNum rest).2.1).2.1).2.1).1), true) := by
    unfold Sp.read4
    rw [if_neg (fun e => e.elim (fun q => q e1) (fun e => e.elim (fun q => q e2) (fun e => e.elim (fun q => q e3) (fun q => q e4))))]
  unfold Sp.readR at hR
  rw [hgood] at hR
  clear hgood hbad h1 h2 h3
  generalize (Sp.takeNum rest).1 = a1 at *
  generalize (Sp.takeNum (Sp.takeNum rest).2.1).1 = a2 at *
  generalize (Sp.takeNum (Sp.takeNum (Sp.takeNum rest).2.1).2.1).1 = a3 at *
  generalize (Sp.takeNum (Sp.takeNum (Sp.takeNum (Sp.takeNum rest).2.1).2.1).2.1).1 = a4 at *
  have hset : ((((List.replicate 4 (0 : Int)).set (Int.toNat 0) a1).set (Int.toNat (0 + 1)) a2).set (Int.toNat (0 + 1 + 1)) a3).set (Int.toNat (0 + 1 + 1 + 1)) a4 = [a1, a2, a3, a4] := rfl
  rw [hset, show nth [a1, a2, a3, a4] 0 0 = a1 from rfl, show nth [a1, a2, a3, a4] 1 0 = a2 from rfl, show nth [a1, a2, a3, a4] 2 0 = a3 from rfl, show nth [a1, a2, a3, a4] 3 0 = a4 from rfl]
  refine ⟨by omega, trivial, by omega, by omega, trivial, by omega, by omega, trivial, by omega, by omega, trivial, by omega, by omega, ?_⟩
  rw [if_neg (c := ((a1, a2, a3, a4), true).2 = false) (by simp)] at hR
  have es : sub b 0 64 = b.take 64 := Sp.sub_to b 64
  unfold Sp.blockS
  cases hr2 : Sp.rightS (a1, a2, a3, a4) with
  | false =>
    rw [hr2] at hR
    rw [if_neg (by simp)] at hR
    exact hR
  | true =>
    rw [hr2] at hR
    rw [if_pos rfl, if_pos rfl]
    have ep : sub (Sp.plainS (a1, a2, a3, a4)) 0 64 = (Sp.plainS (a1, a2, a3, a4)).take 64 := Sp.sub_to _ 64
    simp only
    rw [ep, es, sb_iff, sb_iff, Sp.plainS_len hr2, hb]
    refine ⟨by omega, by omega, ?_⟩
    by_cases e5 : (Sp.plainS (a1, a2, a3, a4)).take 64 = b.take 64
    · rw [if_pos ⟨rfl, e5⟩] at hR; rw [if_pos e5]; exact hR
    · rw [if_neg (fun q => e5 q.2)] at hR; rw [if_neg e5]; exact hR

theorem slot_Read.ok (R : Int × Int × Int × Int → Bool → Prop) (b : Str) (_ : Sp.readS.pre b) (hR : R (Sp.readS b).1 (Sp.readS b).2) : slot_Read.vc R b := by
  unfold slot_Read.vc
  unfold Sp.readS at hR
  rw [cond_ndec]
  by_cases hl : (List.length b : Int) = 256
  case neg => rw [if_pos (.inl (fun e => hl (by omega)))] at hR; rw [if_neg hl]; exact hR
  have hl' : b.length = 256 := by omega
  rw [if_pos hl]
  refine ⟨⟨by omega, by simp⟩, ?_⟩
  have ec : Sp.cutP b [114, 99, 116, 111] = bif decide (b.take 4 = Sp.magic) then (b.drop 4, true) else (b, false) := rfl
  rw [ec]
  by_cases hm : b.take 4 = Sp.magic
  · rw [decide_eq_true hm]
    rw [if_neg (fun hh => hh.elim (fun q => q hl') (fun q => q hm))] at hR
    exact slot_Read_L0 R b (b.drop 4) hl' (by rw [List.length_drop]; omega) hR
  · rw [decide_eq_false hm]
    rw [if_pos (.inr hm)] at hR
    exact hR


namespace Sp
theorem read_len {n : Nat} {d : DSt} (h : dOk n d) (i : Int) : (dRead i d).1.length ≤ 256 := by
  unfold dRead
  cases hi : inD i d with
  | false => rw [if_pos rfl]; simp
  | true =>
    rw [if_neg (by simp)]
    split
    · simp
    · have hi' := in_iff.1 hi
      exact Nat.le_of_eq (bOk_len (lastW_ok (h.2.1 _ (nth_get hi'.1 hi'.2)) (fun w hw => (h.2.2.2.1 w hw).2.2)))
theorem rread_len {n : Nat} {d : RSt} (h : rOk n d) (i : Int) : (rRead i d).1.length ≤ 256 := by
  unfold rRead
  cases hi : rIn i d with
  | false => rw [if_pos rfl]; simp
  | true =>
    rw [if_neg (by simp)]
    split
    · simp
    · have hi' := r_in_iff.1 hi
      have key : ∀ (ws : List RWr) (b : Str), b.length = 256 → (∀ w, w ∈ ws → w.2.length = 256) → (rLastW i b ws).length = 256 := by
        intro ws
        induction ws with
        | nil => intro b hb _; exact hb
        | cons w l ih =>
          intro b hb hw
          rw [rLastW]
          refine ih _ ?_ (fun x hx => hw x (by simp [hx]))
          split
          · exact hw w (by simp)
          · exact hb
      exact Nat.le_of_eq (key _ _ (h.2.1 _ (nth_get hi'.1 hi'.2)) (fun w hw => (h.2.2.2.1 w hw).2.2))
/-- What the choosing comes to. -/
def ch0 : Slot × Int := ((0, 0, 0, 0), -1)
def chA (c : Slot × Int) (i : Int) (a : Slot × Bool) : Slot × Int := if a.2 = true ∧ c.1.1 < a.1.1 then (a.1, i) else c
def chE (c : Slot × Int) : Slot × Int × Int := if c.2 < 0 then ((0, 0, 0, 0), 0, 290) else (c.1, c.2, 0)
theorem choose2_eq {x y : Str} : chE (chA (chA ch0 0 (readS x)) 1 (readS y)) = choose2 (readS x) (readS y) := by
  rcases readS_cases x with e | ⟨a, e, ha, _⟩ <;> rcases readS_cases y with f | ⟨b, f, hb, _⟩ <;> rw [e, f]
  · rfl
  · have := rightS_iff.1 hb
    unfold chE chA ch0 choose2
    simp only [Bool.false_eq_true, false_and, if_false, true_and, if_pos (show 0 < b.1 by omega), and_false, true_or, if_true, Bool.true_eq_false]
    rw [if_neg (by omega)]
  · have := rightS_iff.1 ha
    unfold chE chA ch0 choose2
    simp only [Bool.false_eq_true, false_and, if_false, true_and, if_pos (show 0 < a.1 by omega), Bool.true_eq_false, or_self]
    rw [if_neg (by omega)]
  · have := rightS_iff.1 ha
    unfold chE chA ch0 choose2
    simp only [true_and, if_pos (show 0 < a.1 by omega), Bool.true_eq_false, false_and, if_false, false_or]
    split
    · rw [if_neg (by omega)]
    · rw [if_neg (by omega)]
end Sp

theorem slot_Choose.ok (R : Int × Int × Int × Int → Int → Int → Bool → Bool → Int → Bool → List Int → List (List (List UInt8)) → List (Int × List (List UInt8)) → Prop) (down armed : Bool) (after : Int) (acut : Bool) (keep : List Int) (bs : List (List Str)) (ws : List (Int × List Str))
    (h : Sp.dPre (down, armed, after, acut, keep, bs, ws)) (hR : R (Sp.chooseS (down, armed, after, acut, keep, bs, ws)).1 (Sp.chooseS (down, armed, after, acut, keep, bs, ws)).2.1 (Sp.chooseS (down, armed, after, acut, keep, bs, ws)).2.2 down armed after acut keep bs ws) : slot_Choose.vc R down armed after acut keep bs ws := by
  unfold slot_Choose.vc
  have l0 := Sp.read_len h 0
  have l1 := Sp.read_len h 1
  unfold Sp.chooseS at hR
  have d0 : decide ((0 : Int) < 2) = true := rfl
  have d1 : decide ((0 : Int) + 1 < 2) = true := rfl
  have d2 : decide ((0 : Int) + 1 + 1 < 2) = false := rfl
  refine ⟨3, ?_⟩
  simp only [it, slot_Choose.L0, d0, d1, d2, cond_true, cond_false, cond_ndec, rg64, show (0 : Int) + 1 = 1 from rfl]
  refine ⟨h, ?_⟩
  by_cases e0 : (Sp.dRead 0 (down, armed, after, acut, keep, bs, ws)).2 = 0
  case neg => rw [if_pos e0] at hR; rw [if_neg e0]; exact hR
  rw [if_neg (fun q => q e0)] at hR
  rw [if_pos e0]
  refine ⟨show List.length (Sp.dRead 0 (down, armed, after, acut, keep, bs, ws)).1 ≤ 9223372036854775807 by omega, ?_⟩
  by_cases e1 : (Sp.dRead 1 (down, armed, after, acut, keep, bs, ws)).2 = 0
  · rw [if_neg (fun q => q e1)] at hR
    have hx := @Sp.choose2_eq (Sp.dRead 0 (down, armed, after, acut, keep, bs, ws)).1 (Sp.dRead 1 (down, armed, after, acut, keep, bs, ws)).1
    rw [← hx] at hR
    clear hx
    have hp1 : Sp.readS.pre (Sp.dRead 1 (down, armed, after, acut, keep, bs, ws)).1 := show List.length (Sp.dRead 1 (down, armed, after, acut, keep, bs, ws)).1 ≤ 9223372036854775807 by omega
    simp only [e1, if_true]
    generalize (Sp.readS (Sp.dRead 0 (down, armed, after, acut, keep, bs, ws)).1) = a at *
    have fin (c : Sp.Slot × Int) (hc : R (Sp.chE (Sp.chA c 1 (Sp.readS (Sp.dRead 1 (down, armed, after, acut, keep, bs, ws)).1))).1 (Sp.chE (Sp.chA c 1 (Sp.readS (Sp.dRead 1 (down, armed, after, acut, keep, bs, ws)).1))).2.1 (Sp.chE (Sp.chA c 1 (Sp.readS (Sp.dRead 1 (down, armed, after, acut, keep, bs, ws)).1))).2.2 down armed after acut keep bs ws) :
        Sp.dPre (down, armed, after, acut, keep, bs, ws) ∧ Sp.readS.pre (Sp.dRead 1 (down, armed, after, acut, keep, bs, ws)).1 ∧
          bif (Sp.readS (Sp.dRead 1 (down, armed, after, acut, keep, bs, ws)).1).2 then
            bif decide (c.1.1 < (Sp.readS (Sp.dRead 1 (down, armed, after, acut, keep, bs, ws)).1).1.1) then
              (-9223372036854775808 ≤ (1 : Int) + 1 ∧ (1 : Int) + 1 ≤ 9223372036854775807) ∧ bif decide ((1 : Int) < 0) then R (0, 0, 0, 0) 0 290 down armed after acut keep bs ws else R (Sp.readS (Sp.dRead 1 (down, armed, after, acut, keep, bs, ws)).1).1 1 0 down armed after acut keep bs ws
            else (-9223372036854775808 ≤ (1 : Int) + 1 ∧ (1 : Int) + 1 ≤ 9223372036854775807) ∧ bif decide (c.2 < 0) then R (0, 0, 0, 0) 0 290 down armed after acut keep bs ws else R c.1 c.2 0 down armed after acut keep bs ws
          else (-9223372036854775808 ≤ (1 : Int) + 1 ∧ (1 : Int) + 1 ≤ 9223372036854775807) ∧ bif decide (c.2 < 0) then R (0, 0, 0, 0) 0 290 down armed after acut keep bs ws else R c.1 c.2 0 down armed after acut keep bs ws := by
      refine ⟨h, hp1, ?_⟩
      generalize Sp.readS (Sp.dRead 1 (down, armed, after, acut, keep, bs, ws)).1 = b at *
      have hE (c' : Sp.Slot × Int) (hc' : R (Sp.chE c').1 (Sp.chE c').2.1 (Sp.chE c').2.2 down armed after acut keep bs ws) : bif decide (c'.2 < 0) then R (0, 0, 0, 0) 0 290 down armed after acut keep bs ws else R c'.1 c'.2 0 down armed after acut keep bs ws := by
        rw [cond_dec]
        unfold Sp.chE at hc'
        split
        · rename_i q; rw [if_pos q] at hc'; exact hc'
        · rename_i q; rw [if_neg q] at hc'; exact hc'
      unfold Sp.chA at hc
      obtain ⟨b1, b2⟩ := b
      cases b2 with
      | false => rw [if_neg (by simp)] at hc; exact ⟨by omega, hE c hc⟩
      | true =>
        rw [cond_true, cond_dec]
        split
        · rename_i q
          rw [if_pos ⟨rfl, q⟩] at hc
          exact ⟨by omega, hE (b1, 1) hc⟩
        · rename_i q
          rw [if_neg (fun e => q e.2)] at hc
          exact ⟨by omega, hE c hc⟩
    unfold Sp.chA at hR
    obtain ⟨a1, a2⟩ := a
    cases a2 with
    | false =>
      rw [if_neg (c := ((a1, false) : Sp.Slot × Bool).2 = true ∧ Sp.ch0.1.1 < a1.1) (by simp)] at hR
      exact ⟨by omega, fin Sp.ch0 hR⟩
    | true =>
      rw [cond_true, cond_dec]
      split
      · rename_i q
        rw [if_pos (c := ((a1, true) : Sp.Slot × Bool).2 = true ∧ Sp.ch0.1.1 < a1.1) ⟨rfl, q⟩] at hR
        exact ⟨by omega, fin (a1, 0) hR⟩
      · rename_i q
        rw [if_neg (c := ((a1, true) : Sp.Slot × Bool).2 = true ∧ Sp.ch0.1.1 < a1.1) (fun e => q e.2)] at hR
        exact ⟨by omega, fin Sp.ch0 hR⟩
  · rw [if_pos e1] at hR
    simp only [e1, if_false]
    have fin : (-9223372036854775808 ≤ (1 : Int) ∧ (1 : Int) ≤ 9223372036854775807) ∧ Sp.dPre (down, armed, after, acut, keep, bs, ws) ∧ R (0, 0, 0, 0) 0 (Sp.dRead 1 (down, armed, after, acut, keep, bs, ws)).2 down armed after acut keep bs ws := ⟨by omega, h, hR⟩
    cases (Sp.readS (Sp.dRead 0 (down, armed, after, acut, keep, bs, ws)).1).2 with
    | false => exact fin
    | true =>
      rw [cond_true, cond_dec]
      split
      · exact fin
      · exact fin


namespace Sp
theorem rPre_up9 {d : RSt} (h : rOk 90000 d) : rPre d := ⟨h.1, h.2.1, by have := h.2.2.1; omega, h.2.2.2⟩
theorem dPre_up9 {d : DSt} (h : dOk 90000 d) : dPre d := dOk_up h (by omega)
theorem choose2_facts (x y : Str) : (choose2 (readS x) (readS y)).2.2 = 0 → 1 ≤ (choose2 (readS x) (readS y)).1.1 ∧ (choose2 (readS x) (readS y)).1.1 ≤ 1099511627776 ∧ ((choose2 (readS x) (readS y)).2.1 = 0 ∨ (choose2 (readS x) (readS y)).2.1 = 1) := by
  intro h
  rcases readS_cases x with e | ⟨a, e, ha, _⟩ <;> rcases readS_cases y with f | ⟨b, f, hb, _⟩ <;> rw [e, f] at h ⊢
  · simp [choose2] at h
  · have := rightS_iff.1 hb
    simp only [choose2, Bool.true_eq_false, and_false, if_false, true_or, if_true]; exact ⟨by omega, by omega, .inr trivial⟩
  · have := rightS_iff.1 ha
    simp only [choose2, Bool.true_eq_false, false_and, if_false, Bool.false_eq_true, or_self]; exact ⟨by omega, by omega, .inl trivial⟩
  · have := rightS_iff.1 ha
    have := rightS_iff.1 hb
    simp only [choose2, Bool.true_eq_false, false_and, if_false, true_and, false_or]
    split
    · exact ⟨by show 1 ≤ b.1; omega, by show b.1 ≤ 1099511627776; omega, .inr rfl⟩
    · exact ⟨by show 1 ≤ a.1; omega, by show a.1 ≤ 1099511627776; omega, .inl rfl⟩
theorem choose_facts {d : DSt} (h : (chooseS d).2.2 = 0) : 1 ≤ (chooseS d).1.1 ∧ (chooseS d).1.1 ≤ 1099511627776 ∧ ((chooseS d).2.1 = 0 ∨ (chooseS d).2.1 = 1) := by
  unfold chooseS at h ⊢
  split at h
  · rename_i c; exact absurd h c
  split at h
  · rename_i c; exact absurd h c
  · rename_i c1 c2
    rw [if_neg c1, if_neg c2]
    exact choose2_facts _ _ h
theorem rchoose_facts {d : RSt} (h : (rChoose d).2.2 = 0) : 1 ≤ (rChoose d).1.1 ∧ (rChoose d).1.1 ≤ 1099511627776 ∧ ((rChoose d).2.1 = 0 ∨ (rChoose d).2.1 = 1) := by
  unfold rChoose at h ⊢
  split at h
  · rename_i c; exact absurd h c
  split at h
  · rename_i c; exact absurd h c
  · rename_i c1 c2
    rw [if_neg c1, if_neg c2]
    exact choose2_facts _ _ h
theorem plainS_le {s : Slot} (h : rightS s = true) : (plainS s).length ≤ 9223372036854775807 := by rw [plainS_len h]; omega
theorem first_right : rightS (1, 0, 0, 0) = true := rfl
theorem first_len : firstS.length = 256 := plainS_len first_right
theorem pad0_len : (padS []).length = 256 := padS_len (by simp)
theorem rwrite_ok {n : Nat} {d : RSt} {i : Int} {s : Str} (h : rOk n d) (hs : s.length = 256) : rOk (n + 1) (rWrite i s d).1 := by
  have wk : ∀ {d : RSt}, rOk n d → rOk (n + 1) d := fun h => ⟨h.1, h.2.1, by have := h.2.2.1; omega, h.2.2.2⟩
  have hfl : ∀ (keep : List Int) (ws : List RWr) (k : Int) (bs : List Str), (∀ b, b ∈ bs → b.length = 256) → (∀ w, w ∈ ws → 0 ≤ w.1 ∧ w.1 < bs.length ∧ w.2.length = 256) → (rFallF keep k bs ws).length = bs.length ∧ ∀ b, b ∈ rFallF keep k bs ws → b.length = 256 := by
    intro keep ws
    induction ws with
    | nil => intro k bs hb _; exact ⟨rfl, hb⟩
    | cons w l ih =>
      intro k bs hb hw
      rw [rFallF]
      have h0 := hw w (by simp)
      have hk := rKept_range keep k
      have hbb := hb _ (nth_get (d := []) h0.1 h0.2.1)
      have := ih (k + 1) (bs.set w.1.toNat (w.2.take (64 * (rKept keep k).toNat) ++ (nth bs w.1 []).drop (64 * (rKept keep k).toNat))) (fun b hb' => by
        rcases List.mem_or_eq_of_mem_set hb' with hb' | hb'
        · exact hb b hb'
        · rw [hb', List.length_append, List.length_take, List.length_drop, h0.2.2, hbb]; omega) (fun x hx => by rw [List.length_set]; exact hw x (by simp [hx]))
      rw [List.length_set] at this
      exact this
  have hg : rOk n (rGoes d).1 ∧ (rGoes d).1.bs.length = d.bs.length := by
    unfold rGoes
    split
    · exact ⟨h, rfl⟩
    split
    · rename_i c1 c2
      obtain ⟨h1, h2, h3, h4, h5, h6, h7⟩ := h
      exact ⟨⟨h1, h2, h3, h4, by show -9223372036854775808 ≤ d.after - 1; omega, by show d.after - 1 ≤ 9223372036854775807; omega, h7⟩, rfl⟩
    split
    · obtain ⟨h1, h2, h3, h4, h5, h6, h7⟩ := h
      have := hfl d.keep d.ws 0 d.bs h2 h4
      exact ⟨⟨by show (rFallF d.keep 0 d.bs d.ws).length ≤ 1000; rw [this.1]; exact h1, this.2, Nat.zero_le _, fun w hw => absurd hw List.not_mem_nil, h5, h6, h7⟩, this.1⟩
    · exact ⟨h, rfl⟩
  unfold rWrite
  split
  · exact wk h
  split
  · exact wk h
  split
  · rename_i c1 c2 c3
    obtain ⟨⟨h1, h2, h3, h4, h5, h6, h7⟩, hbl⟩ := hg
    have hi : rIn i d = true := by
      cases hi : rIn i d with
      | true => rfl
      | false => exact absurd (.inl hi) c1
    have hi' := r_in_iff.1 hi
    refine ⟨h1, h2, by simp only [RSt.ws, List.length_append, List.length_cons, List.length_nil] at h3 ⊢; omega, fun w hw => ?_, h5, h6, h7⟩
    rcases List.mem_append.1 hw with hw | hw
    · exact h4 w hw
    · rw [List.mem_singleton] at hw
      subst hw
      exact ⟨hi'.1, by have := hi'.2; show i < ((rGoes d).1.bs.length : Int); omega, hs⟩
  · exact wk hg.1
end Sp

theorem slot_Put.ok (R : Int → Bool → Bool → Int → Bool → List Int → List (List (List UInt8)) → List (Int × List (List UInt8)) → Prop) (s : Int × Int × Int × Int) (down armed : Bool) (after : Int) (acut : Bool) (keep : List Int) (bs : List (List Str)) (ws : List (Int × List Str))
    (h : Sp.putS.pre s (down, armed, after, acut, keep, bs, ws)) (hR : Sp.ap (R (Sp.putS s (down, armed, after, acut, keep, bs, ws)).2) (Sp.putS s (down, armed, after, acut, keep, bs, ws)).1) : slot_Put.vc R s down armed after acut keep bs ws := by
  have h : Sp.dOk 90000 (down, armed, after, acut, keep, bs, ws) := h
  have hp := Sp.dPre_up9 h
  unfold slot_Put.vc
  unfold Sp.putS at hR
  generalize hd : ((down, armed, after, acut, keep, bs, ws) : Sp.DSt) = d at *
  refine ⟨hp, ?_⟩
  rw [cond_ndec]
  by_cases e0 : (Sp.chooseS d).2.2 = 0
  case neg => rw [if_pos e0] at hR; rw [if_neg e0]; subst hd; exact hR
  rw [if_neg (fun q => q e0)] at hR
  rw [if_pos e0]
  have hf := Sp.choose_facts e0
  rw [rg64]
  refine ⟨by omega, ?_⟩
  have en : ((Sp.chooseS d).1.1 + 1, s.2) = Sp.nextS (Sp.chooseS d).1 s := rfl
  rw [en]
  generalize Sp.nextS (Sp.chooseS d).1 s = x at *
  unfold Sp.blockS
  cases hr : Sp.rightS x with
  | false =>
    rw [hr] at hR
    rw [if_pos rfl] at hR
    rw [if_neg (by simp)]
    subst hd; exact hR
  | true =>
    rw [hr, if_neg (by simp)] at hR
    rw [if_pos rfl, cond_ndec, if_pos rfl, rg64]
    refine ⟨by omega, ⟨hp, Sp.plainS_le hr⟩, ?_⟩
    have hw := Sp.write_ok (i := 1 - (Sp.chooseS d).2.1) h (by omega) (Sp.plainS_len hr)
    rw [cond_ndec]
    simp only
    by_cases e1 : (Sp.dWrite (1 - (Sp.chooseS d).2.1) (Sp.plainS x) d).2 = 0
    · rw [if_neg (fun q => q e1)] at hR
      rw [if_pos e1]
      exact ⟨Sp.dOk_up hw (by omega), hR⟩
    · rw [if_pos e1] at hR
      rw [if_neg e1]
      exact hR

theorem slot_Format.ok (R : Int → Bool → Bool → Int → Bool → List Int → List (List (List UInt8)) → List (Int × List (List UInt8)) → Prop) (down armed : Bool) (after : Int) (acut : Bool) (keep : List Int) (bs : List (List Str)) (ws : List (Int × List Str))
    (h : Sp.dPre9 (down, armed, after, acut, keep, bs, ws)) (hR : Sp.ap (R (Sp.formatS (down, armed, after, acut, keep, bs, ws)).2) (Sp.formatS (down, armed, after, acut, keep, bs, ws)).1) : slot_Format.vc R down armed after acut keep bs ws := by
  have h : Sp.dOk 90000 (down, armed, after, acut, keep, bs, ws) := h
  unfold slot_Format.vc
  unfold Sp.formatS at hR
  refine ⟨Nat.zero_le _, ?_⟩
  have eb : (Sp.blockS (1, 0, 0, 0)).1 = Sp.firstS := by unfold Sp.blockS; rw [if_pos Sp.first_right]; rfl
  rw [eb]
  have d0 : decide ((0 : Int) < 2) = true := rfl
  have d1 : decide ((0 : Int) + 1 < 2) = true := rfl
  have d2 : decide ((0 : Int) + 1 + 1 < 2) = false := rfl
  have n0 : nth [Sp.firstS, Sp.padS []] 0 [] = Sp.firstS := rfl
  have n1 : nth [Sp.firstS, Sp.padS []] 1 [] = Sp.padS [] := rfl
  have w1 := Sp.write_ok (i := 0) h (by omega) Sp.first_len
  have w2 := Sp.write_ok (i := 1) w1 (by omega) Sp.pad0_len
  refine ⟨3, ?_⟩
  simp only [it, slot_Format.L0, d0, d1, d2, cond_true, cond_false, cond_ndec, rg64, ix_iff, show (0 : Int) + 1 = 1 from rfl, n0, n1]
  refine ⟨by omega, ⟨Sp.dPre_up9 h, by rw [Sp.first_len]; omega⟩, ?_⟩
  by_cases e0 : (Sp.dWrite 0 Sp.firstS (down, armed, after, acut, keep, bs, ws)).2 = 0
  case neg => rw [if_pos e0] at hR; rw [if_neg e0]; exact hR
  rw [if_neg (fun q => q e0)] at hR
  rw [if_pos e0]
  refine ⟨by omega, by omega, ⟨Sp.dOk_up w1 (by omega), by rw [Sp.pad0_len]; omega⟩, ?_⟩
  by_cases e1 : (Sp.dWrite 1 (Sp.padS []) (Sp.dWrite 0 Sp.firstS (down, armed, after, acut, keep, bs, ws)).1).2 = 0
  case neg => rw [if_pos e1] at hR; refine cast ?_ hR; exact (if_neg e1).symm
  rw [if_neg (fun q => q e1)] at hR
  refine cast (if_pos e1).symm ⟨by omega, Sp.dOk_up w2 (by omega), hR⟩

theorem rectoref28_Right.ok (R : Bool → Prop) (s : Int × Int × Int × Int) (hR : R (Sp.rightS s)) : rectoref28_Right.vc R s := by
  have hf (h : ¬ (1 ≤ s.1 ∧ s.1 ≤ 1099511627776 ∧ (s.2.1 = 0 ∨ s.2.1 = 1) ∧ 0 ≤ s.2.2.1 ∧ s.2.2.1 ≤ 65536 ∧ 0 ≤ s.2.2.2 ∧ s.2.2.2 ≤ 65536)) : R false := by
    cases hb : Sp.rightS s with
    | false => rw [hb] at hR; exact hR
    | true => exact absurd (Sp.rightS_iff.1 hb) h
  unfold rectoref28_Right.vc
  simp only [cond_dec]
  split
  case isFalse => exact hf (by omega)
  split
  case isFalse => exact hf (by omega)
  split
  case isFalse => exact hf (by omega)
  split
  case isFalse => exact hf (by omega)
  split
  case isFalse => exact hf (by omega)
  split
  case isFalse => exact hf (by omega)
  split
  case isFalse => exact hf (by omega)
  by_cases h : s.2.2.2 ≤ 65536
  · rw [decide_eq_true h]
    rw [Sp.rightS_iff.2 (by omega)] at hR; exact hR
  · rw [decide_eq_false h]; exact hf (by omega)

set_option maxRecDepth 20000 in
theorem rectoref28_Plain.ok (R : List UInt8 → Prop) (s : Int × Int × Int × Int) (h : Sp.plainS.pre s) (hR : R (Sp.plainS s)) : rectoref28_Plain.vc R s := by
  have h : Sp.rightS s = true := h
  have h' := Sp.rightS_iff.1 h
  have hl := Sp.headS_len h
  have p1 : Sp.plain.pre s.1 := by unfold Sp.plain.pre Sp.maxInt; omega
  have p2 : Sp.plain.pre s.2.1 := by unfold Sp.plain.pre Sp.maxInt; omega
  have p3 : Sp.plain.pre s.2.2.1 := by unfold Sp.plain.pre Sp.maxInt; omega
  have p4 : Sp.plain.pre s.2.2.2 := by unfold Sp.plain.pre Sp.maxInt; omega
  have l1 := Sp.plain_len p1.2
  have l2 := Sp.plain_len p2.2
  have l3 := Sp.plain_len p3.2
  have l4 := Sp.plain_len p4.2
  have eh : (114 :: 99 :: 116 :: 111 :: Sp.plain s.1 ++ Sp.plain s.2.1 ++ Sp.plain s.2.2.1 ++ Sp.plain s.2.2.2) = Sp.headS s := rfl
  unfold rectoref28_Plain.vc
  rw [eh]
  simp only [List.length_append, List.length_cons]
  refine ⟨p1, by omega, p2, by omega, p3, by omega, p4, by omega, ?_⟩
  unfold Sp.plainS at hR
  generalize Sp.headS s = z at *
  obtain ⟨N, hN⟩ : ∃ N : Nat, N = 256 := ⟨_, rfl⟩
  refine Lp_rule (fun v => ∃ k : Nat, v = (z ++ List.replicate k 0, ()) ∧ z.length + k ≤ N) (fun v => N - v.1.length) ?_ ⟨0, by simp, by omega⟩
  rintro _ K ⟨k, rfl, hk⟩ hK
  have hl2 : (z ++ List.replicate k (0 : UInt8)).length = z.length + k := by simp
  show rectoref28_Plain.L0 R (z ++ List.replicate k 0) K
  unfold rectoref28_Plain.L0
  rw [cond_dec, hl2]
  by_cases c : ((z.length + k : Nat) : Int) < 256
  · rw [if_pos c]
    refine ⟨by omega, hK _ ⟨k + 1, ?_, by omega⟩ ?_⟩
    · rw [List.append_assoc, List.replicate_succ' (n := k)]
    · simp only [List.length_append, List.length_replicate, List.length_cons, List.length_nil]; omega
  · rw [if_neg c]
    have : k = 256 - z.length := by omega
    subst this
    exact hR

theorem rectoref28_Read.ok (R : (Int × Int × Int × Int) × Bool → Prop) (b : Str) (_ : Sp.readS.pre b) (hR : R (Sp.readS b)) : rectoref28_Read.vc R b := by
  unfold rectoref28_Read.vc
  unfold Sp.readS at hR
  rw [cond_ndec]
  by_cases hl : (List.length b : Int) = 256
  case neg => rw [if_pos (.inl (fun e => hl (by omega)))] at hR; rw [if_neg hl]; exact hR
  have hl' : b.length = 256 := by omega
  rw [if_pos hl, show sub b 0 4 = b.take 4 from Sp.sub_to b 4, cond_ndec, sb_iff]
  refine ⟨by omega, ?_⟩
  by_cases hm : b.take 4 = Sp.magic
  case neg =>
    have hm' : ¬ b.take 4 = [114, 99, 116, 111] := hm
    rw [if_pos (.inr hm)] at hR; rw [if_neg hm']; exact hR
  rw [if_neg (fun hh => hh.elim (fun q => q hl') (fun q => q hm))] at hR
  have hm' : b.take 4 = [114, 99, 116, 111] := hm
  rw [if_pos hm', show sub b 4 (List.length b : Int) = b.drop 4 from Sp.sub_all b 4, sb_iff]
  have hr : (b.drop 4).length ≤ 256 := by rw [List.length_drop]; omega
  generalize b.drop 4 = rest at *
  have h1 := Sp.takeNum_rest rest
  have h2 := Sp.takeNum_rest (Sp.takeNum rest).2.1
  have h3 := Sp.takeNum_rest (Sp.takeNum (Sp.takeNum rest).2.1).2.1
  have q1 : (Sp.takenN rest).2.2.2.1 = (Sp.takeNum rest).2.1 := rfl
  have q2 : (Sp.takenN (Sp.takeNum rest).2.1).2.2.2.1 = (Sp.takeNum (Sp.takeNum rest).2.1).2.1 := rfl
  have q3 : (Sp.takenN (Sp.takeNum (Sp.takeNum rest).2.1).2.1).2.2.2.1 = (Sp.takeNum (Sp.takeNum (Sp.takeNum rest).2.1).2.1).2.1 := rfl
  rw [q1, q2, q3]
  refine ⟨by omega, show List.length rest ≤ 9223372036854775807 by omega, show List.length (Sp.takeNum rest).2.1 ≤ 9223372036854775807 by omega, show List.length (Sp.takeNum (Sp.takeNum rest).2.1).2.1 ≤ 9223372036854775807 by omega, show List.length (Sp.takeNum (Sp.takeNum (Sp.takeNum rest).2.1).2.1).2.1 ≤ 9223372036854775807 by omega, ?_⟩
  have hbad (q : (Sp.takeNum rest).2.2 ≠ 0 ∨ (Sp.takeNum (Sp.takeNum rest).2.1).2.2 ≠ 0 ∨ (Sp.takeNum (Sp.takeNum (Sp.takeNum rest).2.1).2.1).2.2 ≠ 0 ∨ (Sp.takeNum (Sp.takeNum (Sp.takeNum (Sp.takeNum rest).2.1).2.1).2.1).2.2 ≠ 0) : R ((0, 0, 0, 0), false) := by
    have : Sp.read4 rest = ((0, 0, 0, 0), false) := by unfold Sp.read4; rw [if_pos q]
    rw [this, if_pos rfl] at hR
    exact hR
  rw [cond_ndec, cond_ndec, cond_ndec, cond_ndec]
  by_cases e1 : (Sp.takeNum rest).2.2 = 0
  case neg => exact cast (if_neg e1).symm (hbad (.inl e1))
  refine cast (if_pos e1).symm ?_
  by_cases e2 : (Sp.takeNum (Sp.takeNum rest).2.1).2.2 = 0
  case neg => exact cast (if_neg e2).symm (hbad (.inr (.inl e2)))
  refine cast (if_pos e2).symm ?_
  by_cases e3 : (Sp.takeNum (Sp.takeNum (Sp.takeNum rest).2.1).2.1).2.2 = 0
  case neg => exact cast (if_neg e3).symm (hbad (.inr (.inr (.inl e3))))
  refine cast (if_pos e3).symm ?_
  by_cases e4 : (Sp.takeNum (Sp.takeNum (Sp.takeNum (Sp.takeNum rest).2.1).2.1).2.1).2.2 = 0
  case neg => exact cast (if_neg e4).symm (hbad (.inr (.inr (.inr e4))))
  refine cast (if_pos e4).symm ?_
  have hgood : Sp.read4 rest = (((Sp.takenN rest).1, (Sp.takenN (Sp.takeNum rest).2.1).1, (Sp.takenN (Sp.takeNum (Sp.takeNum rest).2.1).2.1).1, (Sp.takenN (Sp.takeNum (Sp.takeNum (Sp.takeNum rest).2.1).2.1).2.1).1), true) := by
    unfold Sp.read4
    rw [if_neg (fun e => e.elim (fun q => q e1) (fun e => e.elim (fun q => q e2) (fun e => e.elim (fun q => q e3) (fun q => q e4))))]
    rfl
  rw [hgood] at hR
  clear hgood hbad h1 h2 h3 q1 q2 q3
  rw [if_neg (by simp)] at hR
  simp only at hR
  generalize ((Sp.takenN rest).1, (Sp.takenN (Sp.takeNum rest).2.1).1, (Sp.takenN (Sp.takeNum (Sp.takeNum rest).2.1).2.1).1, (Sp.takenN (Sp.takeNum (Sp.takeNum (Sp.takeNum rest).2.1).2.1).2.1).1) = x at *
  cases hr2 : Sp.rightS x with
  | false =>
    rw [hr2, if_neg (by simp)] at hR
    exact hR
  | true =>
    rw [hr2] at hR
    rw [Bool.not_true, cond_false, show sub (Sp.plainS x) 0 64 = (Sp.plainS x).take 64 from Sp.sub_to _ 64, show sub b 0 64 = b.take 64 from Sp.sub_to _ 64, cond_ndec, sb_iff, sb_iff, Sp.plainS_len hr2]
    refine ⟨hr2, by omega, by omega, ?_⟩
    by_cases e5 : (Sp.plainS x).take 64 = b.take 64
    · rw [if_pos ⟨rfl, e5⟩] at hR; rw [if_pos e5]; exact hR
    · rw [if_neg (fun q => e5 q.2)] at hR; rw [if_neg e5]; exact hR

theorem rectoref28_Choose.ok (R : (Int × Int × Int × Int) × Int × Int → Bool → Bool → Int → Bool → List Int → List (List UInt8) → List (Int × List UInt8) → Prop) (rdown rarmed : Bool) (rafter : Int) (racut : Bool) (rkeep : List Int) (rbs : List Str) (rws : List (Int × Str))
    (h : Sp.rPre (rdown, rarmed, rafter, racut, rkeep, rbs, rws)) (hR : R (Sp.rChoose (rdown, rarmed, rafter, racut, rkeep, rbs, rws)) rdown rarmed rafter racut rkeep rbs rws) : rectoref28_Choose.vc R rdown rarmed rafter racut rkeep rbs rws := by
  unfold rectoref28_Choose.vc
  unfold Sp.rChoose at hR
  have l0 := Sp.rread_len h 0
  have l1 := Sp.rread_len h 1
  refine ⟨h, ?_⟩
  rw [cond_ndec]
  by_cases e0 : (Sp.rRead 0 (rdown, rarmed, rafter, racut, rkeep, rbs, rws)).2 = 0
  case neg => rw [if_pos e0] at hR; rw [if_neg e0]; exact hR
  rw [if_neg (fun q => q e0)] at hR
  rw [if_pos e0]
  refine ⟨h, ?_⟩
  rw [cond_ndec]
  by_cases e1 : (Sp.rRead 1 (rdown, rarmed, rafter, racut, rkeep, rbs, rws)).2 = 0
  case neg => rw [if_pos e1] at hR; rw [if_neg e1]; exact hR
  rw [if_neg (fun q => q e1)] at hR
  rw [if_pos e1]
  refine ⟨show List.length (Sp.rRead 0 (rdown, rarmed, rafter, racut, rkeep, rbs, rws)).1 ≤ 9223372036854775807 by omega, show List.length (Sp.rRead 1 (rdown, rarmed, rafter, racut, rkeep, rbs, rws)).1 ≤ 9223372036854775807 by omega, ?_⟩
  generalize Sp.readS (Sp.rRead 0 (rdown, rarmed, rafter, racut, rkeep, rbs, rws)).1 = a at *
  generalize Sp.readS (Sp.rRead 1 (rdown, rarmed, rafter, racut, rkeep, rbs, rws)).1 = b at *
  unfold Sp.choose2 at hR
  obtain ⟨a1, a2⟩ := a
  obtain ⟨b1, b2⟩ := b
  cases a2 with
  | false =>
    cases b2 with
    | false => exact hR
    | true => exact hR
  | true =>
    cases b2 with
    | false => exact hR
    | true =>
      simp only [Bool.not_true, cond_false, cond_true]
      rw [cond_dec]
      simp only [Bool.true_eq_false, false_and, if_false, true_and, false_or] at hR
      split
      · rename_i c; rw [if_pos c] at hR; exact hR
      · rename_i c; rw [if_neg c] at hR; exact hR

theorem rectoref28_Put.ok (R : Int → Bool → Bool → Int → Bool → List Int → List (List UInt8) → List (Int × List UInt8) → Prop) (s : Int × Int × Int × Int) (rdown rarmed : Bool) (rafter : Int) (racut : Bool) (rkeep : List Int) (rbs : List Str) (rws : List (Int × Str))
    (h : Sp.rPut.pre s (rdown, rarmed, rafter, racut, rkeep, rbs, rws)) (hR : Sp.ap (R (Sp.rPut s (rdown, rarmed, rafter, racut, rkeep, rbs, rws)).2) (Sp.rPut s (rdown, rarmed, rafter, racut, rkeep, rbs, rws)).1) : rectoref28_Put.vc R s rdown rarmed rafter racut rkeep rbs rws := by
  have h : Sp.rOk 90000 (rdown, rarmed, rafter, racut, rkeep, rbs, rws) := h
  have hp := Sp.rPre_up9 h
  unfold rectoref28_Put.vc
  unfold Sp.rPut at hR
  generalize hd : ((rdown, rarmed, rafter, racut, rkeep, rbs, rws) : Sp.RSt) = d at *
  refine ⟨hp, ?_⟩
  rw [cond_ndec]
  by_cases e0 : (Sp.rChoose d).2.2 = 0
  case neg => rw [if_pos e0] at hR; rw [if_neg e0]; subst hd; exact hR
  rw [if_neg (fun q => q e0)] at hR
  rw [if_pos e0]
  have hf := Sp.rchoose_facts e0
  rw [rg64]
  refine ⟨by omega, ?_⟩
  have en : ((Sp.rChoose d).1.1 + 1, s.2) = Sp.nextS (Sp.rChoose d).1 s := rfl
  rw [en]
  generalize Sp.nextS (Sp.rChoose d).1 s = x at *
  cases hr : Sp.rightS x with
  | false =>
    rw [hr] at hR
    rw [if_pos rfl] at hR
    subst hd; exact hR
  | true =>
    rw [hr, if_neg (by simp)] at hR
    rw [Bool.not_true, cond_false, rg64]
    refine ⟨by omega, hr, ⟨hp, Sp.plainS_le hr⟩, ?_⟩
    have hw := Sp.rwrite_ok (i := 1 - (Sp.rChoose d).2.1) h (Sp.plainS_len hr)
    rw [cond_ndec]
    by_cases e1 : (Sp.rWrite (1 - (Sp.rChoose d).2.1) (Sp.plainS x) d).2 = 0
    · rw [if_neg (fun q => q e1)] at hR
      rw [if_pos e1]
      exact ⟨Sp.rOk_up hw (by omega), hR⟩
    · rw [if_pos e1] at hR
      rw [if_neg e1]
      exact hR

set_option maxRecDepth 20000 in
theorem rectoref28_Format.ok (R : Int → Bool → Bool → Int → Bool → List Int → List (List UInt8) → List (Int × List UInt8) → Prop) (rdown rarmed : Bool) (rafter : Int) (racut : Bool) (rkeep : List Int) (rbs : List Str) (rws : List (Int × Str))
    (h : Sp.rPre9 (rdown, rarmed, rafter, racut, rkeep, rbs, rws)) (hR : Sp.ap (R (Sp.rFormat (rdown, rarmed, rafter, racut, rkeep, rbs, rws)).2) (Sp.rFormat (rdown, rarmed, rafter, racut, rkeep, rbs, rws)).1) : rectoref28_Format.vc R rdown rarmed rafter racut rkeep rbs rws := by
  have h : Sp.rOk 90000 (rdown, rarmed, rafter, racut, rkeep, rbs, rws) := h
  unfold rectoref28_Format.vc
  unfold Sp.rFormat at hR
  have w1 := Sp.rwrite_ok (i := 0) h Sp.first_len
  have w2 := Sp.rwrite_ok (i := 1) w1 Sp.pad0_len
  rw [show Sp.plainS (1, 0, 0, 0) = Sp.firstS from rfl]
  refine ⟨Sp.first_right, ⟨Sp.rPre_up9 h, by rw [Sp.first_len]; omega⟩, ?_⟩
  rw [cond_ndec]
  by_cases e0 : (Sp.rWrite 0 Sp.firstS (rdown, rarmed, rafter, racut, rkeep, rbs, rws)).2 = 0
  case neg => rw [if_pos e0] at hR; rw [if_neg e0]; exact hR
  rw [if_neg (fun q => q e0)] at hR
  rw [if_pos e0]
  generalize (Sp.rWrite 0 Sp.firstS (rdown, rarmed, rafter, racut, rkeep, rbs, rws)).1 = d1 at *
  have hpad : Sp.padS [] = List.replicate 256 0 := rfl
  obtain ⟨N, hN⟩ : ∃ N : Nat, N = 256 := ⟨_, rfl⟩
  refine Lp_rule (fun v => ∃ k : Nat, v = (List.replicate k 0, Sp.q7 d1 ()) ∧ k ≤ N) (fun v => N - v.1.length) ?_ ⟨0, rfl, by omega⟩
  rintro _ K ⟨k, rfl, hk⟩ hK
  show rectoref28_Format.L0 R (List.replicate k 0) d1.1 d1.2.1 d1.2.2.1 d1.2.2.2.1 d1.2.2.2.2.1 d1.2.2.2.2.2.1 d1.2.2.2.2.2.2 K
  unfold rectoref28_Format.L0
  rw [cond_dec, cond_ndec, List.length_replicate]
  rw [show ((d1.1, d1.2.1, d1.2.2.1, d1.2.2.2.1, d1.2.2.2.2.1, d1.2.2.2.2.2.1, d1.2.2.2.2.2.2) : Sp.RSt) = d1 from rfl]
  by_cases c : (k : Int) < 256
  · rw [if_pos c]
    refine ⟨by omega, hK _ ⟨k + 1, ?_, by omega⟩ (by simp; omega)⟩
    rw [List.replicate_succ' (n := k)]
  · rw [if_neg c]
    have : k = 256 := by omega
    subst this
    rw [← hpad]
    refine ⟨⟨Sp.rOk_up w1 (by omega), by rw [Sp.pad0_len]; omega⟩, ?_⟩
    by_cases e1 : (Sp.rWrite 1 (Sp.padS []) d1).2 = 0
    · rw [if_neg (fun q => q e1)] at hR
      rw [if_pos e1]
      exact ⟨Sp.rOk_up w2 (by omega), hR⟩
    · rw [if_pos e1] at hR
      rw [if_neg e1]
      exact hR


namespace Sp
theorem abs_choose (d : DSt) : rChoose (abs d) = chooseS d := by
  unfold rChoose chooseS
  rw [abs_read, abs_read]
theorem abs_put {d : DSt} (s : Slot) (h : dOk 90000 d) : rPut s (abs d) = (abs (putS s d).1, (putS s d).2) := by
  unfold rPut putS
  rw [abs_choose]
  split
  · rfl
  · rename_i c
    have hf := choose_facts (d := d) (by rcases Int.decEq (chooseS d).2.2 0 with q | q; exact absurd q c; exact q)
    split
    · rfl
    · rename_i c2
      have hr : rightS (nextS (chooseS d).1 s) = true := by
        cases hr : rightS (nextS (chooseS d).1 s) with
        | true => rfl
        | false => exact absurd hr c2
      have hw := write_ok (i := 1 - (chooseS d).2.1) h (by omega) (plainS_len hr)
      rw [abs_write _ _ h]
      split
      · rfl
      · exact abs_flush hw
theorem abs_format {d : DSt} (h : dOk 90000 d) : rFormat (abs d) = (abs (formatS d).1, (formatS d).2) := by
  unfold rFormat formatS
  have w1 := write_ok (i := 0) h (by omega) first_len
  have w2 := write_ok (i := 1) w1 (by omega) pad0_len
  rw [abs_write _ _ h]
  split
  · rfl
  · simp only
    rw [abs_write _ _ w1]
    split
    · rfl
    · exact abs_flush w2
theorem put_ok {n : Nat} {d : DSt} (s : Slot) (h : dOk n d) : dOk (n + 1) (putS s d).1 := by
  unfold putS
  split
  · exact dOk_le h (by omega)
  split
  · exact dOk_le h (by omega)
  · rename_i c c2
    have hf := choose_facts (d := d) (by rcases Int.decEq (chooseS d).2.2 0 with q | q; exact absurd q c; exact q)
    have hr : rightS (nextS (chooseS d).1 s) = true := by
      cases hr : rightS (nextS (chooseS d).1 s) with
      | true => rfl
      | false => exact absurd hr c2
    have hw := write_ok (i := 1 - (chooseS d).2.1) h (by omega) (plainS_len hr)
    split
    · exact hw
    · exact flush_ok hw
theorem format_ok {n : Nat} {d : DSt} (h : dOk n d) : dOk (n + 2) (formatS d).1 := by
  have w1 := write_ok (i := 0) h (by omega) first_len
  have w2 := write_ok (i := 1) w1 (by omega) pad0_len
  unfold formatS
  split
  · exact dOk_le w1 (by omega)
  split
  · exact w2
  · exact flush_ok w2
abbrev StT8 : Ty := .pair (.int .i64) (.pair (.int .i64) (.pair (.pair (.int .i64) (.pair (.int .i64) (.pair (.int .i64) (.int .i64)))) (.pair (.int .u8) (.pair .bool (.sl (.int .i64))))))
def stOk8 (s : SStep) : Prop := (-9223372036854775808 ≤ s.2.1 ∧ s.2.1 ≤ 9223372036854775807) ∧ (0 ≤ s.2.2.2.1 ∧ s.2.2.2.1 ≤ 255) ∧ s.2.2.2.2.2.length ≤ 60
theorem longF8_false : ∀ {l : List SStep} {i : Int}, longF8 i l = false → (∀ s, s ∈ l → s.2.2.2.2.2.length ≤ 60) ∧ (i + l.length ≤ 41 ∨ l = [])
  | [], i, _ => ⟨fun s hs => absurd hs List.not_mem_nil, .inr rfl⟩
  | s :: l, i, h => by
    rw [longF8] at h
    split at h
    · exact absurd h (by simp)
    · rename_i c
      have := longF8_false h
      refine ⟨fun x hx => ?_, .inl ?_⟩
      · rcases List.mem_cons.1 hx with rfl | hx
        · omega
        · exact this.1 x hx
      · rcases this.2 with h2 | h2
        · rw [List.length_cons]; omega
        · subst h2; simp; omega
theorem steps_ok8 {l : List SStep} (h : Sz (.sl StT8) l) (hl : longS8 l = false) : l.length ≤ 41 ∧ ∀ s, s ∈ l → stOk8 s := by
  have h1 := longF8_false hl
  refine ⟨?_, fun s hs => ?_⟩
  · rcases h1.2 with h2 | h2
    · omega
    · rw [h2]; simp
  · have h0 := h.mem s hs
    have ha := h0.pair.2.pair.1.int
    have hb := h0.pair.2.pair.2.pair.2.pair.1.int
    exact ⟨ha, hb, h1.1 s hs⟩
theorem abs_step8 {d : DSt} (s : SStep) (h : dOk 90000 d) : tStep s (abs d) = (abs (sStep s d).1, (sStep s d).2) := by
  unfold tStep sStep
  split
  · exact abs_put _ h
  split
  · exact abs_format h
  split
  · exact abs_write _ _ h
  split
  · exact abs_flush h
  split
  · exact abs_crash _ h
  split
  · exact abs_start d
  split
  · exact abs_set _ d
  · rfl
theorem step_ok8 {n : Nat} {d : DSt} {s : SStep} (h : dOk n d) (hs : stOk8 s) : dOk (n + 2) (sStep s d).1 := by
  unfold sStep
  split
  · exact dOk_le (put_ok _ h) (by omega)
  split
  · exact format_ok h
  split
  · exact dOk_le (write_ok h hs.1 (fillB_len _)) (by omega)
  split
  · exact dOk_le (flush_ok h) (by omega)
  split
  · exact dOk_le (crash_ok _ h) (by omega)
  split
  · exact dOk_le (start_ok h) (by omega)
  split
  · refine dOk_le (n := n) ?_ (by omega)
    unfold dSet
    split
    · exact h
    split
    · exact h
    · exact ⟨h.1, h.2.1, h.2.2.1, h.2.2.2.1, hs.1.1, hs.1.2, by have := hs.2.2; show s.2.2.2.2.2.length ≤ 1000000; omega⟩
  · exact dOk_le h (by omega)
theorem write_idle {d : DSt} {i : Int} {s : Str} (hd : d.down = false) (ha : d.armed = false) (hi : inD i d = true) (hs : s.length = 256) : dWrite i s d = ((d.down, d.armed, d.after, d.acut, d.keep, d.bs, d.ws ++ [(i, cutB s)]), 0) := by
  have hg : dGoes d = (d, 0, false) := by unfold dGoes; rw [if_pos ha]
  unfold dWrite
  rw [if_neg (by rw [hi, hs]; simp), if_neg (by rw [hd]; simp), hg, if_neg (by simp)]
def fmtD : DSt := (false, false, 0, false, [], [cutB firstS, cutB (padS []), zeroB, zeroB], [])
theorem format_new : formatS (dNew 4) = (fmtD, 0) := by
  have e1 : dWrite 0 firstS (dNew 4) = ((false, false, 0, false, [], [zeroB, zeroB, zeroB, zeroB], [(0, cutB firstS)]), 0) := write_idle rfl rfl rfl first_len
  have e2 : dWrite 1 (padS []) (false, false, 0, false, [], [zeroB, zeroB, zeroB, zeroB], [(0, cutB firstS)]) = ((false, false, 0, false, [], [zeroB, zeroB, zeroB, zeroB], [(0, cutB firstS), (1, cutB (padS []))]), 0) := write_idle rfl rfl rfl pad0_len
  unfold formatS
  rw [e1]
  simp only
  rw [e2]
  simp only
  rw [if_neg (by simp), if_neg (by simp)]
  rfl
theorem read_idle {d : DSt} {i : Int} (hd : d.down = false) (hw : d.ws = []) (h0 : 0 ≤ i) (h1 : i < d.bs.length) : dRead i d = ((nth d.bs i []).flatten, 0) := by
  unfold dRead
  rw [if_neg (by rw [in_iff.2 ⟨h0, h1⟩]; simp), if_neg (by rw [hd]; simp), hw]
  rfl
def chooseB (bs : List Blk) : Slot × Int × Int := choose2 (readS (nth bs 0 []).flatten) (readS (nth bs 1 []).flatten)
theorem choose_idle {d : DSt} (hd : d.down = false) (hw : d.ws = []) (h1 : d.bs.length = 4) : chooseS d = chooseB d.bs := by
  unfold chooseS
  rw [read_idle hd hw (by omega) (by omega), read_idle hd hw (by omega) (by omega), if_neg (by simp), if_neg (by simp)]
  rfl
theorem read_first : readS firstS = ((1, 0, 0, 0), true) := readS_of first_right first_len rfl
theorem read_pad : readS (padS []) = ((0, 0, 0, 0), false) := by
  unfold readS
  rw [if_pos (.inr (by decide))]
theorem choose_fmt : chooseB fmtD.bs = ((1, 0, 0, 0), 0, 0) := by
  unfold chooseB
  rw [show nth fmtD.bs 0 [] = cutB firstS from rfl, show nth fmtD.bs 1 [] = cutB (padS []) from rfl, cut_flat first_len, cut_flat pad0_len, read_first, read_pad]
  rfl
theorem right2 : rightS (2, 1, 5, 0) = true := rfl
theorem put_fmt : putS (0, 1, 5, 0) fmtD = ((false, false, 0, false, [], [cutB firstS, cutB (plainS (2, 1, 5, 0)), zeroB, zeroB], []), 0) := by
  have hc : chooseS fmtD = ((1, 0, 0, 0), 0, 0) := (choose_idle rfl rfl rfl).trans choose_fmt
  have e1 : dWrite (1 - 0) (plainS (2, 1, 5, 0)) fmtD = ((false, false, 0, false, [], [cutB firstS, cutB (padS []), zeroB, zeroB], [(1, cutB (plainS (2, 1, 5, 0)))]), 0) := write_idle rfl rfl rfl (plainS_len right2)
  unfold putS
  rw [hc]
  simp only
  rw [if_neg (by simp), show nextS (1, 0, 0, 0) (0, 1, 5, 0) = (2, 1, 5, 0) from rfl, if_neg (by rw [right2]; simp), e1]
  simp only
  rw [if_neg (by simp)]
  rfl
end Sp

theorem rectolaw28_fill.ok (R : List UInt8 → Prop) (b : Int) (h : Sp.fillB.pre b) (hR : R (Sp.fillB b)) : rectolaw28_fill.vc R b := rectolaw27_fill.ok R b h hR
theorem rectolaw28_ref.ok (R : Int × Int × Int × Int → Prop) (s : Int × Int × Int × Int) (hR : R (Sp.refS s)) : rectolaw28_ref.vc R s := hR
theorem rectolaw28_two.ok (R : Bool → Prop) (hR : R Sp.tt) : rectolaw28_two.vc R := by
  have h0 := Sp.t0
  have h1 := Sp.format_ok h0
  rw [Sp.format_new] at h1
  have h2 := Sp.put_ok (0, 1, 5, 0) h1
  rw [Sp.put_fmt] at h2
  unfold rectolaw28_two.vc
  rw [show ((false, false, (Sp.dNew 4).2.2.1, false, (Sp.dNew 4).2.2.2.2) : Sp.DSt) = Sp.dNew 4 from rfl, Sp.format_new]
  rw [show ((false, false, (Sp.fmtD, (0 : Int)).1.2.2.1, false, (Sp.fmtD, (0 : Int)).1.2.2.2.2) : Sp.DSt) = Sp.fmtD from rfl, Sp.put_fmt]
  exact ⟨Sp.dOk_le h0 (by omega), Sp.dOk_le h1 (by omega), Sp.dOk_up h2 (by omega), hR⟩

theorem rectolaw28_long.ok (R : Bool → Prop) (l : List Sp.SStep) (h : Sp.longS8.pre l) (hR : R (Sp.longS8 l)) : rectolaw28_long.vc R l := by
  have h : l.length ≤ 9223372036854775807 := h
  refine Lp_rule (fun v => ∃ p : Nat, v = (l, (l.length : Int), (p : Int), ()) ∧ p ≤ l.length ∧ Sp.longF8 (p : Int) (l.drop p) = Sp.longS8 l) (fun v => l.length - v.2.2.1.toNat) ?_ ⟨0, rfl, Nat.zero_le _, rfl⟩
  rintro _ K ⟨p, rfl, hp, hf⟩ hK
  simp only [rectolaw28_long.L0, cond_dec, rg64, ix_iff]
  split
  · rename_i c1
    have hd := drop_cons (l := l) (d := ((0 : Int), (0 : Int), ((0 : Int), (0 : Int), (0 : Int), (0 : Int)), (0 : Int), false, ([] : List Int))) (show p < l.length by omega)
    rw [hd, Sp.longF8] at hf
    refine ⟨by omega, ?_⟩
    split
    · rename_i c2
      rw [if_pos (.inl c2)] at hf
      rw [← hf] at hR; exact hR
    split
    · rename_i c2 c3
      rw [if_pos (.inr c3)] at hf
      rw [← hf] at hR; exact hR
    · rename_i c2 c3
      rw [if_neg (fun e => e.elim c2 c3)] at hf
      exact ⟨by omega, hK _ ⟨p + 1, rfl, by omega, hf⟩ (by simp; omega)⟩
  · have : p = l.length := by omega
    subst this
    rw [List.drop_length, Sp.longF8] at hf
    rw [← hf] at hR; exact hR

set_option maxHeartbeats 2000000 in
theorem rectolaw28_does.ok (R : Bool → Bool → Bool → Int → Bool → List Int → Bool → Bool → Int → Bool → List Int → List (List (List UInt8)) → List (Int × List (List UInt8)) → List (List UInt8) → List (Int × List UInt8) → Prop) (s : Sp.SStep) (down armed : Bool) (after : Int) (acut : Bool) (keep : List Int) (rdown rarmed : Bool) (rafter : Int) (racut : Bool) (rkeep : List Int) (bs : List (List Str)) (ws : List (Int × List Str)) (rbs : List Str) (rws : List (Int × Str))
    (h : Sp.does8.pre s (down, armed, after, acut, keep, bs, ws) (rdown, rarmed, rafter, racut, rkeep, rbs, rws))
    (hR : R (Sp.does8 s (down, armed, after, acut, keep, bs, ws) (rdown, rarmed, rafter, racut, rkeep, rbs, rws)) (Sp.sStep s (down, armed, after, acut, keep, bs, ws)).1.1 (Sp.sStep s (down, armed, after, acut, keep, bs, ws)).1.2.1 (Sp.sStep s (down, armed, after, acut, keep, bs, ws)).1.2.2.1 (Sp.sStep s (down, armed, after, acut, keep, bs, ws)).1.2.2.2.1 (Sp.sStep s (down, armed, after, acut, keep, bs, ws)).1.2.2.2.2.1 (Sp.tStep s (rdown, rarmed, rafter, racut, rkeep, rbs, rws)).1.1 (Sp.tStep s (rdown, rarmed, rafter, racut, rkeep, rbs, rws)).1.2.1 (Sp.tStep s (rdown, rarmed, rafter, racut, rkeep, rbs, rws)).1.2.2.1 (Sp.tStep s (rdown, rarmed, rafter, racut, rkeep, rbs, rws)).1.2.2.2.1 (Sp.tStep s (rdown, rarmed, rafter, racut, rkeep, rbs, rws)).1.2.2.2.2.1 (Sp.sStep s (down, armed, after, acut, keep, bs, ws)).1.2.2.2.2.2.1 (Sp.sStep s (down, armed, after, acut, keep, bs, ws)).1.2.2.2.2.2.2 (Sp.tStep s (rdown, rarmed, rafter, racut, rkeep, rbs, rws)).1.2.2.2.2.2.1 (Sp.tStep s (rdown, rarmed, rafter, racut, rkeep, rbs, rws)).1.2.2.2.2.2.2) :
    rectolaw28_does.vc R s down armed after acut keep rdown rarmed rafter racut rkeep bs ws rbs rws := by
  obtain ⟨h1, h2, h3, h4, h5, h6, h7⟩ := h
  have h1 : Sp.dOk 90000 (down, armed, after, acut, keep, bs, ws) := h1
  have h2 : Sp.rOk 90000 (rdown, rarmed, rafter, racut, rkeep, rbs, rws) := h2
  have p1 := Sp.dPre_up9 h1
  have p2 := Sp.rPre_up9 h2
  obtain ⟨what, at_, sl, b, cut, kp⟩ := s
  have fb : Sp.fillB.pre b := ⟨h3, h4⟩
  have dw : Sp.dWrite.pre at_ (Sp.fillB b) (down, armed, after, acut, keep, bs, ws) := ⟨p1, Sp.fillB_le b⟩
  have rw' : Sp.rWrite.pre at_ (Sp.fillB b) (rdown, rarmed, rafter, racut, rkeep, rbs, rws) := ⟨p2, Sp.fillB_le b⟩
  have df : Sp.dFall.pre kp (down, armed, after, acut, keep, bs, ws) := ⟨p1, h7⟩
  have rf : Sp.rFall.pre kp (rdown, rarmed, rafter, racut, rkeep, rbs, rws) := ⟨p2, h7⟩
  have ds : Sp.dSet.pre (at_, cut, kp) (down, armed, after, acut, keep, bs, ws) := ⟨p1, h7⟩
  have rs : Sp.rSet.pre (at_, cut, kp) (rdown, rarmed, rafter, racut, rkeep, rbs, rws) := ⟨p2, h7⟩
  have hc : what = 0 ∨ what = 1 ∨ what = 3 ∨ what = 4 ∨ what = 5 ∨ what = 6 ∨ what = 7 ∨ what = 8 ∨ (what ≠ 0 ∧ what ≠ 1 ∧ what ≠ 3 ∧ what ≠ 4 ∧ what ≠ 5 ∧ what ≠ 6 ∧ what ≠ 7 ∧ what ≠ 8) := by omega
  rcases hc with rfl | rfl | rfl | rfl | rfl | rfl | rfl | rfl | hc
  · exact ⟨h1, h2, hR⟩
  · exact ⟨h1, h2, hR⟩
  · exact ⟨h1, h2, hR⟩
  · exact ⟨fb, dw, fb, rw', hR⟩
  · exact ⟨p1, p2, hR⟩
  · exact ⟨df, rf, hR⟩
  · exact ⟨p1, p2, hR⟩
  · exact ⟨ds, rs, hR⟩
  · obtain ⟨c0, c1, c3, c4, c5, c6, c7, c8⟩ := hc
    unfold Sp.does8 Sp.sStep Sp.tStep at hR
    simp only [c0, c1, c3, c4, c5, c6, c7, c8, or_self, if_false, decide_true] at hR
    unfold rectolaw28_does.vc
    simp only [c0, c1, c3, c4, c5, c6, c7, c8, decide_false, cond_false]
    exact hR


theorem rectolaw28_SlotSteps.ok (R : Bool → Prop) (l : List Sp.SStep) (h : Sz (.sl Sp.StT8) l) (hR : R Sp.tt) : rectolaw28_SlotSteps.vc R l := by
  refine ⟨h.sl, ?_⟩
  cases hl : Sp.longS8 l with
  | true => exact hR
  | false =>
  obtain ⟨ho1, ho2⟩ := Sp.steps_ok8 h hl
  refine ⟨show (4 : Int) ≤ 1000 by omega, ?_⟩
  refine Lp_rule (fun v => ∃ (p : Nat) (d : Sp.DSt), v = (l, (l.length : Int), (p : Int), Sp.q7 d (Sp.q7 (Sp.abs d) ())) ∧ p ≤ l.length ∧ Sp.dOk (2 * p) d) (fun v => l.length - v.2.2.1.toNat) ?_
    ⟨0, Sp.dNew 4, by rw [Sp.abs_new]; rfl, Nat.zero_le _, Sp.t0⟩
  rintro _ K ⟨p, d, rfl, hp, hd⟩ hK
  simp only [rectolaw28_SlotSteps.L0, Sp.q7, Sp.mk_eta, cond_dec, cond_ndec, ix_iff, rg64]
  split
  · rename_i c3
    have hs := ho2 _ (Sp.nth_get (l := l) (d := ((0 : Int), (0 : Int), ((0 : Int), (0 : Int), (0 : Int), (0 : Int)), (0 : Int), false, ([] : List Int))) (show 0 ≤ (p : Int) by omega) (by omega))
    generalize nth l (p : Int) ((0 : Int), (0 : Int), ((0 : Int), (0 : Int), (0 : Int), (0 : Int)), (0 : Int), false, ([] : List Int)) = s at *
    have hd9 : Sp.dOk 90000 d := Sp.dOk_le hd (by omega)
    have hst := Sp.abs_step8 s hd9
    have hdo : Sp.does8 s d (Sp.abs d) = true := by unfold Sp.does8; rw [hst]; simp
    have hd' := Sp.step_ok8 hd hs
    have hpre : Sp.does8.pre s d (Sp.abs d) := ⟨hd9, Sp.abs_ok hd9, hs.2.1.1, hs.2.1.2, hs.1.1, hs.1.2, by have := hs.2.2; omega⟩
    rw [hst, hdo]
    simp only
    generalize (Sp.sStep s d).1 = d' at *
    rw [Sp.abs_choose]
    refine ⟨by omega, hpre, ?_⟩
    simp only [Bool.not_true, cond_false]
    refine ⟨Sp.dOk_up hd' (by omega), Sp.rOk_up (Sp.abs_ok hd') (by omega), ?_⟩
    have e1 : ∀ x : Int, eqI x x = true := fun x => by simp [eqI]
    have e2 : (eqI (Sp.refS (Sp.chooseS d').1).1 (Sp.chooseS d').1.1 && (eqI (Sp.refS (Sp.chooseS d').1).2.1 (Sp.chooseS d').1.2.1 && (eqI (Sp.refS (Sp.chooseS d').1).2.2.1 (Sp.chooseS d').1.2.2.1 && eqI (Sp.refS (Sp.chooseS d').1).2.2.2 (Sp.chooseS d').1.2.2.2))) = true := by
      unfold Sp.refS; rw [e1, e1, e1, e1]; rfl
    rw [e2]
    rw [if_pos trivial, Bool.not_true, cond_false, if_pos trivial]
    exact ⟨by omega, hK _ ⟨p + 1, d', rfl, by omega, Sp.dOk_le hd' (by omega)⟩ (by simp; omega)⟩
  · exact hR

namespace Sp
theorem bytes_ints (s : Str) : bytesOf (ints s) = s := bytesOf_ints s
theorem ints_len (s : Str) : (ints s).length = s.length := by unfold ints; rw [List.length_map]
end Sp

set_option maxRecDepth 20000 in
theorem rectolaw28_SlotBack.ok (R : Bool → Prop) (s : Int × Int × Int × Int) (behind : Int) (h : Sz (.pair (.int .i64) (.pair (.int .i64) (.pair (.int .i64) (.int .i64)))) s ∧ Sz (.int .u8) behind) (hR : R Sp.tt) : rectolaw28_SlotBack.vc R s behind := by
  unfold rectolaw28_SlotBack.vc Sp.blockS
  cases hr : Sp.rightS s with
  | false => exact hR
  | true =>
    have hl := Sp.plainS_len hr
    have hh := Sp.headS_len hr
    have hl' : ((Sp.plainS s, (0 : Int)).1.length) = 256 := hl
    rw [if_pos rfl, cond_ndec, if_pos rfl, cond_ndec, hl', if_pos (by omega), gr_iff]
    refine ⟨by omega, ?_⟩
    obtain ⟨N, hN⟩ : ∃ N : Nat, N = 256 := ⟨_, rfl⟩
    -- its first sector, then zeros
    have hz : ∀ j : Nat, 64 ≤ j → j < 256 → (ints (Sp.plainS s)).getD j 0 = 0 := by
      intro j h1 h2
      unfold ints Sp.plainS Sp.padS
      rw [List.map_append, List.getD_eq_getElem?_getD, List.getElem?_append_right (by rw [List.length_map]; omega), List.length_map, List.map_replicate, List.getElem?_replicate, if_pos (by omega)]
      rfl
    have hil : (ints (Sp.plainS s)).length = 256 := by rw [Sp.ints_len, hl]
    refine Lp_rule (fun v => ∃ p : Nat, v = (behind, (p : Int), s.1, s.2.1, s.2.2.1, s.2.2.2, (ints (Sp.plainS s)).take 64 ++ List.replicate (p - 64) behind ++ (ints (Sp.plainS s)).drop p, ()) ∧ 64 ≤ p ∧ p ≤ N) (fun v => N - v.2.1.toNat) ?_
      ⟨64, by simp only [Nat.sub_self, List.replicate_zero, List.append_nil, List.take_append_drop]; rfl, Nat.le_refl _, by omega⟩
    rintro _ K ⟨p, rfl, hp, hp2⟩ hK
    have hll : ((ints (Sp.plainS s)).take 64 ++ List.replicate (p - 64) behind ++ (ints (Sp.plainS s)).drop p).length = 256 := by
      rw [List.length_append, List.length_append, List.length_take, List.length_replicate, List.length_drop, hil]; omega
    have hpl : ((ints (Sp.plainS s)).take 64 ++ List.replicate (p - 64) behind).length = p := by
      rw [List.length_append, List.length_take, List.length_replicate, hil]; omega
    show rectolaw28_SlotBack.L0 R behind (p : Int) s.1 s.2.1 s.2.2.1 s.2.2.2 ((ints (Sp.plainS s)).take 64 ++ List.replicate (p - 64) behind ++ (ints (Sp.plainS s)).drop p) K
    unfold rectolaw28_SlotBack.L0
    rw [cond_dec, cond_ndec, hll]
    by_cases c : (p : Int) < 256
    · rw [if_pos c]
      have hd := drop_cons (l := ints (Sp.plainS s)) (d := 0) (show p < (ints (Sp.plainS s)).length by omega)
      have h0 : nth (ints (Sp.plainS s)) (p : Int) 0 = 0 := hz p hp (by omega)
      rw [h0] at hd
      rw [hd, nth_mid _ _ _ _ hpl, if_pos rfl, set_mid _ _ _ _ hpl, rg64, ix_iff]
      refine ⟨by omega, by omega, by omega, hK _ ⟨p + 1, ?_, by omega, by omega⟩ (by simp; omega)⟩
      rw [show p + 1 - 64 = (p - 64) + 1 by omega, List.replicate_succ' (n := p - 64)]
      simp only [List.append_assoc, List.cons_append, List.nil_append]
      rfl
    · rw [if_neg c]
      have hpe : p = 256 := by omega
      rw [List.drop_of_length_le (by omega), List.append_nil]
      generalize hb : bytesOf ((ints (Sp.plainS s)).take 64 ++ List.replicate (p - 64) behind) = b
      have hbl : b.length = 256 := by rw [← hb]; unfold bytesOf; rw [List.length_map, hpl]; omega
      have hbt : b.take 64 = (Sp.plainS s).take 64 := by
        rw [← hb]
        unfold bytesOf
        rw [List.map_append, List.take_append_of_le_length (by rw [List.length_map, List.length_take, hil]; omega), ← List.map_take, List.take_take]
        have := congrArg (List.take 64) (Sp.bytes_ints (Sp.plainS s))
        unfold bytesOf at this
        rw [← List.map_take] at this
        exact this
      have hread := Sp.readS_of hr hbl hbt
      rw [hread]
      have e1 : ∀ x : Int, eqI x x = true := fun x => by simp [eqI]
      simp only [e1, Bool.and_self, cond_true]
      exact ⟨show b.length ≤ 9223372036854775807 by omega, hR⟩


namespace Sp
/-- A block whose first sector is a slot's. -/
theorem read_head {x : Slot} {b : Blk} (hx : rightS x = true) (hb : bOk b) (h : b.flatten.take 64 = (plainS x).take 64) : readS b.flatten = (x, true) := readS_of hx (bOk_len hb) h
theorem nth_set4 {α : Type} {l : List α} {j : Int} {b d : α} (hl : l.length = 4) (hj : j = 0 ∨ j = 1) : nth (l.set j.toNat b) j d = b ∧ nth (l.set j.toNat b) (1 - j) d = nth l (1 - j) d :=
  ⟨nth_set_eq (by omega) (by omega), nth_set_ne (by omega) (by omega) (by omega)⟩
theorem choose2_at {a b : Slot × Bool} {w : Slot} {at_ : Int} (h : choose2 a b = (w, at_, 0)) : (at_ = 0 ∧ a = (w, true)) ∨ (at_ = 1 ∧ b = (w, true)) := by
  obtain ⟨a1, a2⟩ := a
  obtain ⟨b1, b2⟩ := b
  unfold choose2 at h
  split at h
  · simp at h
  split at h
  · rename_i c1 c2
    simp only [Prod.mk.injEq] at h
    refine .inr ⟨h.2.1.symm, ?_⟩
    cases b2 with
    | true => rw [h.1]
    | false =>
      cases a2 with
      | false => exact absurd ⟨rfl, rfl⟩ c1
      | true => exact absurd c2 (by simp)
  · rename_i c1 c2
    simp only [Prod.mk.injEq] at h
    refine .inl ⟨h.2.1.symm, ?_⟩
    cases a2 with
    | true => rw [h.1]
    | false => exact absurd (.inl rfl) c2
theorem choose_put {bs : List Blk} {was x : Slot} {at_ : Int} {b' : Blk} (hl : bs.length = 4) (hc : chooseB bs = (was, at_, 0)) (hb : bOk b') (hx : rightS x = true) (hn : was.1 < x.1) (h : b'.flatten.take 64 = (plainS x).take 64) : chooseB (bs.set (1 - at_).toNat b') = (x, 1 - at_, 0) := by
  unfold chooseB at hc
  rcases choose2_at hc with ⟨rfl, e⟩ | ⟨rfl, e⟩
  · have h4 := nth_set4 (b := b') (d := ([] : Blk)) hl (j := 1 - 0) (.inr rfl)
    unfold chooseB
    rw [show nth (bs.set (1 - 0 : Int).toNat b') 1 [] = b' from h4.1, show nth (bs.set (1 - 0 : Int).toNat b') 0 [] = nth bs 0 [] from h4.2, e, read_head hx hb h]
    simp only [choose2, Bool.true_eq_false, false_and, if_false, true_and, false_or]
    rw [if_pos hn]; rfl
  · have h4 := nth_set4 (b := b') (d := ([] : Blk)) hl (j := 1 - 1) (.inl rfl)
    unfold chooseB
    rw [show nth (bs.set (1 - 1 : Int).toNat b') 0 [] = b' from h4.1, show nth (bs.set (1 - 1 : Int).toNat b') 1 [] = nth bs 1 [] from h4.2, e, read_head hx hb h]
    simp only [choose2, Bool.true_eq_false, false_and, if_false, true_and, false_or]
    rw [if_neg (by omega)]; rfl
/-- Ready: up, and nothing waits. -/
def Ready (d : DSt) : Prop := d.down = false ∧ d.ws = [] ∧ d.bs.length = 4
theorem set_self4 {bs : List Blk} {j : Int} (h0 : 0 ≤ j) (h1 : j < bs.length) : bs.set j.toNat (nth bs j []) = bs := by
  have := nth_in (l := bs) ([] : Blk) h0 h1
  apply List.ext_getElem?
  intro i
  rw [List.getElem?_set]
  split
  · rename_i c
    subst c
    rw [if_pos (by omega), this]
  · rfl
theorem goes_ready {d : DSt} (h : d.ws = []) : (dGoes d).1.bs = d.bs ∧ (dGoes d).1.ws = [] ∧ ((dGoes d).2.2 = false → (dGoes d).1.down = d.down) ∧ ((dGoes d).2.2 = true ↔ ¬ (dGoes d).2.1 = 0) := by
  refine ⟨?_, ?_, ?_, goes_off d⟩
  · unfold dGoes
    split
    · rfl
    split
    · rfl
    split
    · rfl
    · show fallF d.keep 0 d.bs d.ws = d.bs
      rw [h]; rfl
  · unfold dGoes
    split
    · exact h
    split
    · exact h
    split
    · exact h
    · rfl
  · unfold dGoes
    split
    · exact fun _ => rfl
    split
    · exact fun _ => rfl
    split
    · exact fun e => absurd e (by simp)
    · exact fun e => absurd e (by simp)
theorem put_lasts {n : Nat} {d : DSt} {was : Slot} {at_ : Int} (s : Slot) (hd : dOk n d) (hr : Ready d) (hc : chooseB d.bs = (was, at_, 0)) :
    (putS s d).1.ws = [] ∧ (putS s d).1.bs.length = 4 ∧ ((∃ a, chooseB (putS s d).1.bs = (was, a, 0)) ∧ ¬ (putS s d).2 = 0 ∨ ∃ a, chooseB (putS s d).1.bs = (nextS was s, a, 0)) := by
  obtain ⟨h1, h2, h3⟩ := hr
  have hch : chooseS d = (was, at_, 0) := (choose_idle h1 h2 h3).trans hc
  have hat := choose2_at hc
  have hat2 : at_ = 0 ∨ at_ = 1 := by rcases hat with ⟨e, _⟩ | ⟨e, _⟩; exact .inl e; exact .inr e
  unfold putS
  rw [hch]
  simp only
  rw [if_neg (by simp)]
  cases hrx : rightS (nextS was s) with
  | false => rw [if_pos rfl]; exact ⟨h2, h3, .inl ⟨⟨_, hc⟩, by simp⟩⟩
  | true =>
    rw [if_neg (by simp)]
    have hpl := plainS_len hrx
    have hin : inD (1 - at_) d = true := in_iff.2 ⟨by omega, by omega⟩
    have hb0 := cutB_ok hpl
    have hgo := (dGoes_ok hd).1
    have hf0 : (cutB (plainS (nextS was s))).flatten = plainS (nextS was s) := cut_flat hpl
    have hwlt : was.1 < (nextS was s).1 := by show was.1 < was.1 + 1; omega
    obtain ⟨g1, g2, g3, g4⟩ := goes_ready h2
    have hput {b' : Blk} (hb' : bOk b') (ht : b'.flatten.take 64 = (plainS (nextS was s)).take 64) : ∃ a, chooseB (d.bs.set (1 - at_).toNat b') = (nextS was s, a, 0) := ⟨_, choose_put h3 hc hb' hrx hwlt ht⟩
    have hw : dWrite (1 - at_) (plainS (nextS was s)) d = if (dGoes d).2.2 = true then ((dGoes d).1, (dGoes d).2.1) else (((dGoes d).1.down, (dGoes d).1.armed, (dGoes d).1.after, (dGoes d).1.acut, (dGoes d).1.keep, (dGoes d).1.bs, (dGoes d).1.ws ++ [(1 - at_, cutB (plainS (nextS was s)))]), 0) := by
      unfold dWrite
      rw [if_neg (by rw [hin, hpl]; simp), if_neg (by rw [h1]; simp)]
    cases hoff : (dGoes d).2.2 with
    | true =>
      rw [hoff, if_pos rfl] at hw
      rw [hw]
      have hne := g4.1 hoff
      rw [if_pos hne]
      exact ⟨g2, by rw [g1]; exact h3, .inl ⟨⟨at_, by rw [g1]; exact hc⟩, hne⟩⟩
    | false =>
      rw [hoff, if_neg (by simp)] at hw
      rw [hw]
      simp only
      rw [if_neg (by simp)]
      rw [g1, g2, List.nil_append, g3 hoff, h1]
      -- the flush
      obtain ⟨d2, hd2⟩ : ∃ d2 : DSt, d2 = (false, (dGoes d).1.armed, (dGoes d).1.after, (dGoes d).1.acut, (dGoes d).1.keep, d.bs, [(1 - at_, cutB (plainS (nextS was s)))]) := ⟨_, rfl⟩
      rw [← hd2]
      have e1 : d2.down = false := by rw [hd2]
      have e2 : d2.ws = [(1 - at_, cutB (plainS (nextS was s)))] := by rw [hd2]
      have e3 : d2.bs = d.bs := by rw [hd2]
      have k1 : dFlush d2 = (((dGoes d2).1.down, (dGoes d2).1.armed, (dGoes d2).1.after, (dGoes d2).1.acut, (dGoes d2).1.keep, if (dGoes d2).2.2 = true then (dGoes d2).1.bs else flushF (dGoes d2).1.bs (dGoes d2).1.ws, []), (dGoes d2).2.1) := by
        unfold dFlush
        rw [if_neg (by rw [e1]; simp)]
      rw [k1]
      have hbj : bOk (nth d.bs (1 - at_) []) := hd.2.1 _ (nth_get (by omega) (by omega))
      unfold dGoes
      split
      · -- no arm
        refine ⟨rfl, ?_, .inr ?_⟩
        · show (flushF d2.bs d2.ws).length = 4
          rw [e2, e3]
          show (d.bs.set _ _).length = 4
          rw [List.length_set]; exact h3
        · show ∃ a, chooseB (flushF d2.bs d2.ws) = _
          rw [e2, e3]
          exact hput hb0 (by rw [hf0])
      split
      · refine ⟨rfl, ?_, .inr ?_⟩
        · show (flushF d2.bs d2.ws).length = 4
          rw [e2, e3]
          show (d.bs.set _ _).length = 4
          rw [List.length_set]; exact h3
        · show ∃ a, chooseB (flushF d2.bs d2.ws) = _
          rw [e2, e3]
          exact hput hb0 (by rw [hf0])
      split
      · refine ⟨rfl, ?_, .inl ⟨⟨at_, ?_⟩, by simp⟩⟩
        · show d2.bs.length = 4
          rw [e3]; exact h3
        · show chooseB d2.bs = _
          rw [e3]; exact hc
      · have hfl : (dFall d2.keep d2).bs = d.bs.set (1 - at_).toNat (cpA (kept d2.keep 0) (cutB (plainS (nextS was s))) (nth d.bs (1 - at_) [])) := by
          show fallF d2.keep 0 d2.bs d2.ws = _
          rw [e2, e3]; rfl
        have hkr := kept_range d2.keep 0
        refine ⟨rfl, ?_, ?_⟩
        · show (dFall d2.keep d2).bs.length = 4
          rw [hfl, List.length_set]; exact h3
        · show (∃ a, chooseB (dFall d2.keep d2).bs = _) ∧ _ ∨ ∃ a, chooseB (dFall d2.keep d2).bs = _
          rw [hfl]
          by_cases hk : kept d2.keep 0 = 0
          · refine .inl ⟨⟨at_, ?_⟩, by simp⟩
            have e : cpA (kept d2.keep 0) (cutB (plainS (nextS was s))) (nth d.bs (1 - at_) []) = nth d.bs (1 - at_) [] := by
              unfold cpA; rw [hk]; rfl
            rw [e, set_self4 (by omega) (by omega)]
            exact hc
          · refine .inr (hput (cpA_ok hb0 hbj hkr.1 hkr.2) ?_)
            rw [cpA_flat hb0 hbj, hf0, List.take_append_of_le_length (by rw [List.length_take, hpl]; omega), List.take_take, show min 64 (64 * (kept d2.keep 0).toNat) = 64 by omega]
theorem tail {F Q : Prop} {y w s : Slot} {code : Int} (hw : 1 ≤ w.1 ∧ w.1 ≤ 1099511627776) (hy : (y = w ∧ ¬ code = 0) ∨ y = nextS w s) (hQ : Q) :
    bif !(eqI y.1 (w.1 + 1) && (eqI y.2.1 s.2.1 && (eqI y.2.2.1 s.2.2.1 && eqI y.2.2.2 s.2.2.2))) then
      bif !(eqI y.1 w.1 && (eqI y.2.1 w.2.1 && (eqI y.2.2.1 w.2.2.1 && eqI y.2.2.2 w.2.2.2))) then F
      else bif decide (code = 0) then F
        else bif eqI y.1 (w.1 + 1) && (eqI y.2.1 s.2.1 && (eqI y.2.2.1 s.2.2.1 && eqI y.2.2.2 s.2.2.2)) then Rg IntKind.i64 (w.1 + 1) ∧ bif !decide (y.1 = w.1 + 1) then F else Q
          else Q
    else bif eqI y.1 (w.1 + 1) && (eqI y.2.1 s.2.1 && (eqI y.2.2.1 s.2.2.1 && eqI y.2.2.2 s.2.2.2)) then Rg IntKind.i64 (w.1 + 1) ∧ bif !decide (y.1 = w.1 + 1) then F else Q
      else Q := by
  have e1 : ∀ x : Int, eqI x x = true := fun x => by simp [eqI]
  rcases hy with ⟨rfl, hc⟩ | rfl
  · have e2 : eqI y.1 (y.1 + 1) = false := by unfold eqI; exact decide_eq_false (by omega)
    rw [e2, e1, e1, e1, e1, decide_eq_false hc]
    exact hQ
  · have e3 : (eqI (nextS w s).1 (w.1 + 1) && (eqI (nextS w s).2.1 s.2.1 && (eqI (nextS w s).2.2.1 s.2.2.1 && eqI (nextS w s).2.2.2 s.2.2.2))) = true := by
      unfold nextS; rw [e1, e1, e1, e1]; rfl
    rw [e3, decide_eq_true (show (nextS w s).1 = w.1 + 1 from rfl)]
    exact ⟨⟨by show (-9223372036854775808 : Int) ≤ w.1 + 1; omega, by show w.1 + 1 ≤ (9223372036854775807 : Int); omega⟩, hQ⟩
end Sp


namespace Sp
theorem fall_empty {d : DSt} (keep : List Int) (h : d.ws = []) : dFall keep d = (true, false, d.after, d.acut, d.keep, d.bs, []) := by
  unfold dFall; rw [h]; rfl
/-- After a put: up again, the power off and on. -/
theorem down_up {n : Nat} {d : DSt} (keep : List Int) (hd : dOk n d) (hw : d.ws = []) (hu : d.down = false) : dCrash keep d = ((true, false, d.after, d.acut, d.keep, d.bs, []), 0) ∧ dStart (true, false, d.after, d.acut, d.keep, d.bs, []) = ((false, false, d.after, d.acut, d.keep, d.bs, []), 0) := by
  unfold dCrash
  rw [if_neg (by rw [hu]; simp), fall_empty keep hw]
  exact ⟨rfl, rfl⟩
end Sp

theorem rectolaw28_SlotLasts.ok (R : Bool → Prop) (t : List (Int × Int × Int × Int)) (o : List (Int × Bool × List Int)) (A : List Int)
    (h : Sz (.sl (.pair (.int .i64) (.pair (.int .i64) (.pair (.int .i64) (.int .i64))))) t ∧ Sz (.sl (.pair (.int .i64) (.pair .bool (.sl (.int .i64))))) o ∧ Sz (.sl (.int .i64)) A) (hR : R Sp.tt) : rectolaw28_SlotLasts.vc R t o A := by
  obtain ⟨_, ho, _⟩ := h
  unfold rectolaw28_SlotLasts.vc
  rw [cond_dec]
  split
  · exact hR
  rw [cond_dec]
  split
  · exact hR
  rw [cond_dec]
  split
  · exact hR
  rename_i c1 c2 c3
  have h0 := Sp.t0
  have h1 := Sp.format_ok h0
  rw [show ((false, false, (Sp.dNew 4).2.2.1, false, (Sp.dNew 4).2.2.2.2) : Sp.DSt) = Sp.dNew 4 from rfl, Sp.format_new]
  rw [Sp.format_new] at h1
  refine ⟨Sp.dOk_le h0 (by omega), ?_⟩
  refine Lp_rule (fun v => ∃ (p : Nat) (d : Sp.DSt), v = (o, A, t, (t.length : Int), (p : Int), Sp.q7 d ()) ∧ p ≤ t.length ∧ Sp.dOk (p + 2) d ∧ Sp.Ready d ∧ ∃ w a, Sp.chooseB d.bs = (w, a, 0)) (fun v => t.length - v.2.2.2.2.1.toNat) ?_
    ⟨0, Sp.fmtD, rfl, Nat.zero_le _, h1, ⟨rfl, rfl, rfl⟩, _, _, Sp.choose_fmt⟩
  rintro _ K ⟨p, d, rfl, hp, hd, hr, was, at_, hc⟩ hK
  show rectolaw28_SlotLasts.L0 R o A t (t.length : Int) (p : Int) d.1 d.2.1 d.2.2.1 d.2.2.2.1 d.2.2.2.2.1 d.2.2.2.2.2.1 d.2.2.2.2.2.2 K
  unfold rectolaw28_SlotLasts.L0
  simp only [Sp.mk_eta]
  rw [cond_dec]
  split
  case isFalse => exact hR
  rename_i c4
  have hch : Sp.chooseS d = (was, at_, 0) := (Sp.choose_idle hr.1 hr.2.1 hr.2.2).trans hc
  have hcf := Sp.choose_facts (d := d) (by rw [hch])
  rw [hch] at hcf
  simp only at hcf
  rw [hch]
  refine ⟨⟨by omega, by omega⟩, Sp.dOk_up hd (by omega), ?_⟩
  rw [cond_ndec, if_pos rfl]
  generalize nth t (p : Int) (0, 0, 0, 0) = s
  -- what is done of a ready disk
  have go (d1 : Sp.DSt) (hd1 : Sp.dOk (p + 2) d1) (hr1 : Sp.Ready d1) (hc1 : Sp.chooseB d1.bs = (was, at_, 0)) :
      Sp.putS.pre s d1 ∧ Sp.dPre (Sp.putS s d1).1 ∧
        ((Sp.upD (Sp.putS s d1).1 = false → Sp.dFall.pre A (Sp.dStart (Sp.putS s d1).1).1 ∧ ∃ f, (Sp.dStart (Sp.dCrash A (Sp.dStart (Sp.putS s d1).1).1).1).1 = f ∧ (Sp.dCrash A (Sp.dStart (Sp.putS s d1).1).1).2 = 0 ∧ Sp.dPre (Sp.dCrash A (Sp.dStart (Sp.putS s d1).1).1).1 ∧ (Sp.dStart (Sp.dCrash A (Sp.dStart (Sp.putS s d1).1).1).1).2 = 0 ∧ Sp.dOk (p + 3) f ∧ Sp.Ready f ∧ ∃ y a, Sp.chooseS f = (y, a, 0) ∧ Sp.chooseB f.bs = (y, a, 0) ∧ ((y = was ∧ ¬ (Sp.putS s d1).2 = 0) ∨ y = Sp.nextS was s)) ∧
         (Sp.upD (Sp.putS s d1).1 = true → Sp.dFall.pre A (Sp.putS s d1).1 ∧ ∃ f, (Sp.dStart (Sp.dCrash A (Sp.putS s d1).1).1).1 = f ∧ (Sp.dCrash A (Sp.putS s d1).1).2 = 0 ∧ Sp.dPre (Sp.dCrash A (Sp.putS s d1).1).1 ∧ (Sp.dStart (Sp.dCrash A (Sp.putS s d1).1).1).2 = 0 ∧ Sp.dOk (p + 3) f ∧ Sp.Ready f ∧ ∃ y a, Sp.chooseS f = (y, a, 0) ∧ Sp.chooseB f.bs = (y, a, 0) ∧ ((y = was ∧ ¬ (Sp.putS s d1).2 = 0) ∨ y = Sp.nextS was s))) := by
    obtain ⟨q1, q2, q3⟩ := Sp.put_lasts s hd1 hr1 hc1
    have hpo := Sp.put_ok s hd1
    refine ⟨Sp.dOk_le hd1 (by omega), Sp.dOk_up hpo (by omega), ?_⟩
    generalize (Sp.putS s d1).1 = g at *
    generalize (Sp.putS s d1).2 = code at *
    have fin (g : Sp.DSt) (q1 : g.ws = []) (q2 : g.bs.length = 4) (hpo : Sp.dOk (p + 2 + 1) g) (hu : g.down = false) (q3 : (∃ a, Sp.chooseB g.bs = (was, a, 0)) ∧ ¬ code = 0 ∨ ∃ a, Sp.chooseB g.bs = (Sp.nextS was s, a, 0)) :
        Sp.dFall.pre A g ∧ ∃ f, (Sp.dStart (Sp.dCrash A g).1).1 = f ∧ (Sp.dCrash A g).2 = 0 ∧ Sp.dPre (Sp.dCrash A g).1 ∧ (Sp.dStart (Sp.dCrash A g).1).2 = 0 ∧ Sp.dOk (p + 3) f ∧ Sp.Ready f ∧ ∃ y a, Sp.chooseS f = (y, a, 0) ∧ Sp.chooseB f.bs = (y, a, 0) ∧ ((y = was ∧ ¬ code = 0) ∨ y = Sp.nextS was s) := by
      obtain ⟨k1, k2⟩ := Sp.down_up A hpo q1 hu
      have hco := Sp.crash_ok A hpo
      have hso := Sp.start_ok hco
      rw [k1] at hso hco ⊢
      simp only at hso hco ⊢
      rw [k2] at hso ⊢
      refine ⟨⟨Sp.dOk_up hpo (by omega), by omega⟩, _, rfl, trivial, Sp.dOk_up hco (by omega), rfl, hso, ⟨rfl, rfl, q2⟩, ?_⟩
      rcases q3 with ⟨⟨a, e⟩, hne⟩ | ⟨a, e⟩
      · exact ⟨was, a, (Sp.choose_idle (d := (false, false, g.after, g.acut, g.keep, g.bs, [])) rfl rfl q2).trans e, e, .inl ⟨rfl, hne⟩⟩
      · exact ⟨_, a, (Sp.choose_idle (d := (false, false, g.after, g.acut, g.keep, g.bs, [])) rfl rfl q2).trans e, e, .inr rfl⟩
    refine ⟨fun hu => ?_, fun hu => ?_⟩
    · have hdn : g.down = true := by unfold Sp.upD at hu; cases hg : g.down with | true => rfl | false => rw [hg] at hu; exact absurd hu (by simp)
      have hst : Sp.dStart g = ((false, g.armed, g.after, g.acut, g.keep, g.bs, g.ws), 0) := by unfold Sp.dStart; rw [if_neg (by rw [hdn]; simp)]
      have hso := Sp.start_ok hpo
      rw [hst] at hso ⊢
      exact fin _ q1 q2 hso rfl q3
    · have hdn : g.down = false := by unfold Sp.upD at hu; cases hg : g.down with | false => rfl | true => rw [hg] at hu; exact absurd hu (by simp)
      exact fin _ q1 q2 hpo hdn q3
  have fin (f : Sp.DSt) (hf : Sp.dOk (p + 3) f) (hrf : Sp.Ready f) (hy : ∃ y a, Sp.chooseB f.bs = (y, a, 0)) : Rg IntKind.i64 ((p : Int) + 1) ∧ K (o, A, t, (t.length : Int), (p : Int) + 1, Sp.q7 f ()) :=
    ⟨by rw [rg64]; omega, hK _ ⟨p + 1, f, rfl, by omega, Sp.dOk_le hf (by omega), hrf, hy⟩ (by simp; omega)⟩
  have rgw : Rg IntKind.i64 (was.1 + 1) := by rw [rg64]; omega
  rw [cond_dec]
  split
  · rename_i c5
    have hao := ho.mem _ (Sp.nth_get (l := o) (d := ((0 : Int), false, ([] : List Int))) (show 0 ≤ (p : Int) by omega) (by omega))
    generalize nth o (p : Int) (0, false, []) = arm at *
    refine ⟨⟨by omega, by omega⟩, ?_⟩
    rw [cond_dec]
    split
    · exact hR
    rename_i c6
    have hai := hao.pair.1.int
    have hset : Sp.dOk (p + 2) (Sp.dSet arm d).1 ∧ Sp.Ready (Sp.dSet arm d).1 ∧ (Sp.dSet arm d).1.bs = d.bs := by
      unfold Sp.dSet
      split
      · exact ⟨hd, hr, rfl⟩
      split
      · exact ⟨hd, hr, rfl⟩
      · exact ⟨⟨hd.1, hd.2.1, hd.2.2.1, hd.2.2.2.1, hai.1, hai.2, by show arm.2.2.length ≤ 1000000; omega⟩, hr, rfl⟩
    have hg := go (Sp.dSet arm d).1 hset.1 hset.2.1 (by rw [hset.2.2]; exact hc)
    refine ⟨⟨by omega, by omega⟩, ⟨Sp.dOk_up hd (by omega), by omega⟩, hg.1, hg.2.1, ?_⟩
    cases hu : Sp.upD (Sp.putS s (Sp.dSet arm d).1).1 with
    | false =>
      obtain ⟨k1, f, hf, k2, k3, k4, k5, k6, y, a, k7, k8, k9⟩ := hg.2.2.1 hu
      rw [hf, k2, k4]
      refine ⟨hg.2.1, k1, ?_⟩
      rw [cond_ndec, if_pos rfl]
      refine ⟨k3, ?_⟩
      rw [cond_ndec, if_pos rfl]
      refine ⟨Sp.dOk_up k5 (by omega), rgw, ?_⟩
      rw [k7, cond_ndec, if_pos rfl]
      exact Sp.tail ⟨hcf.1, hcf.2.1⟩ k9 (fin f k5 k6 ⟨y, a, k8⟩)
    | true =>
      obtain ⟨k1, f, hf, k2, k3, k4, k5, k6, y, a, k7, k8, k9⟩ := hg.2.2.2 hu
      rw [hf, k2, k4]
      refine ⟨k1, ?_⟩
      rw [cond_ndec, if_pos rfl]
      refine ⟨k3, ?_⟩
      rw [cond_ndec, if_pos rfl]
      refine ⟨Sp.dOk_up k5 (by omega), rgw, ?_⟩
      rw [k7, cond_ndec, if_pos rfl]
      exact Sp.tail ⟨hcf.1, hcf.2.1⟩ k9 (fin f k5 k6 ⟨y, a, k8⟩)
  · have hg := go d hd hr hc
    refine ⟨hg.1, hg.2.1, ?_⟩
    cases hu : Sp.upD (Sp.putS s d).1 with
    | false =>
      obtain ⟨k1, f, hf, k2, k3, k4, k5, k6, y, a, k7, k8, k9⟩ := hg.2.2.1 hu
      rw [hf, k2, k4]
      refine ⟨hg.2.1, k1, ?_⟩
      rw [cond_ndec, if_pos rfl]
      refine ⟨k3, ?_⟩
      rw [cond_ndec, if_pos rfl]
      refine ⟨Sp.dOk_up k5 (by omega), rgw, ?_⟩
      rw [k7, cond_ndec, if_pos rfl]
      exact Sp.tail ⟨hcf.1, hcf.2.1⟩ k9 (fin f k5 k6 ⟨y, a, k8⟩)
    | true =>
      obtain ⟨k1, f, hf, k2, k3, k4, k5, k6, y, a, k7, k8, k9⟩ := hg.2.2.2 hu
      rw [hf, k2, k4]
      refine ⟨k1, ?_⟩
      rw [cond_ndec, if_pos rfl]
      refine ⟨k3, ?_⟩
      rw [cond_ndec, if_pos rfl]
      refine ⟨Sp.dOk_up k5 (by omega), rgw, ?_⟩
      rw [k7, cond_ndec, if_pos rfl]
      exact Sp.tail ⟨hcf.1, hcf.2.1⟩ k9 (fin f k5 k6 ⟨y, a, k8⟩)
