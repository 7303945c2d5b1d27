/- Numbers, texts and lists as bytes: what is told, shown of the conditions. Plain theorems. -/
import Derived.Test.YtdfkbjfohffniaaVcQ
import Derived.Test.YtdfkbjfohffniaaViTwo
set_option linter.unnecessarySimpa false
set_option linter.unusedVariables false
set_option linter.unusedSectionVars false
set_option linter.unusedSimpArgs false
set_option autoImplicit false
open Go Vi

namespace Sp
theorem byte_nat {n : Int} (h0 : 0 ≤ n) (h1 : n < 256) : ((byte n).toNat : Int) = n := by
  unfold byte
  rw [UInt8.toNat_ofNat_of_lt' (by simp; omega)]
  omega
theorem digF_zero {n : Int} (h : n ≤ 0) : ∀ k, digF k n = []
  | 0 => rfl
  | k + 1 => by rw [digF, if_pos h]
theorem digF_len : ∀ (k : Nat) (n : Int), (digF k n).length ≤ k
  | 0, _ => Nat.le_refl _
  | k + 1, n => by
    rw [digF]
    have := digF_len k (n / 256)
    split
    · simp
    · simp; omega
theorem digF_more : ∀ (k : Nat) (n : Int), n < 256 ^ k → digF (k + 1) n = digF k n
  | 0, n, h => by rw [digF_zero (by simp at h; omega), digF]
  | k + 1, n, h => by
    have e : (256 : Int) ^ (k + 1) = 256 ^ k * 256 := Int.pow_succ _ _
    have ih := digF_more k (n / 256) (by omega)
    have e1 : digF (k + 1 + 1) n = if n ≤ 0 then [] else digF (k + 1) (n / 256) ++ [byte (n % 256)] := rfl
    have e2 : digF (k + 1) n = if n ≤ 0 then [] else digF k (n / 256) ++ [byte (n % 256)] := rfl
    rw [e1, e2, ih]
theorem digs_zero {n : Int} (h : n ≤ 0) : digs n = [] := digF_zero h 8
theorem digs_step {n : Int} (h0 : 0 < n) (h1 : n ≤ maxInt) : digs n = digs (n / 256) ++ [byte (n % 256)] := by
  unfold digs
  unfold maxInt at h1
  rw [digF, if_neg (by omega), digF_more 7 (n / 256) (by omega)]
theorem digs_len {n : Int} (h1 : n ≤ maxInt) : (digs n).length ≤ 6 := by
  unfold digs
  unfold maxInt at h1
  rw [digF_more 7 n (by omega), digF_more 6 n (by omega)]
  exact digF_len 6 n
theorem val_app : ∀ (l m : Str) (a : Int), val a (l ++ m) = val (val a l) m
  | [], _, _ => rfl
  | _ :: l, m, _ => val_app l m _
theorem digs_val : ∀ (k : Nat) (n : Int), n.toNat ≤ k → 0 ≤ n → n ≤ maxInt → val 0 (digs n) = n
  | 0, n, hk, h0, h1 => by
    have : n = 0 := by omega
    subst this; rfl
  | k + 1, n, hk, h0, h1 => by
    rcases Int.lt_or_eq_of_le h0 with h | h
    · have hd : n / 256 ≤ maxInt := by unfold maxInt at *; omega
      rw [digs_step h h1, val_app, digs_val k (n / 256) (by omega) (by omega) hd]
      simp only [val]
      rw [byte_nat (by omega) (by omega)]
      omega
    · subst h; rfl
theorem digs_head : ∀ (k : Nat) (n : Int), n.toNat ≤ k → n ≤ maxInt → (digs n).head? ≠ some 0
  | 0, n, hk, h1 => by rw [digs_zero (by omega)]; simp
  | k + 1, n, hk, h1 => by
    by_cases h : 0 < n
    · have hd : n / 256 ≤ maxInt := by unfold maxInt at *; omega
      have ih := digs_head k (n / 256) (by omega) hd
      rw [digs_step h h1]
      cases hc : digs (n / 256) with
      | nil =>
        have hv := digs_val _ (n / 256) (Nat.le_refl _) (by omega) hd
        rw [hc] at hv
        have hv0 : n / 256 = 0 := hv.symm
        simp only [List.nil_append, List.head?_cons, ne_eq, Option.some.injEq]
        intro e
        have := byte_nat (n := n % 256) (by omega) (by omega)
        rw [e] at this
        have z : (((0 : UInt8).toNat : Nat) : Int) = 0 := rfl
        omega
      | cons x l => rw [hc] at ih; simpa using ih
    · rw [digs_zero (by omega)]; simp
theorem digs_mono : ∀ (k : Nat) (n m : Int), m.toNat ≤ k → n ≤ m → m ≤ maxInt → (digs n).length ≤ (digs m).length
  | 0, n, m, hk, h, h1 => by rw [digs_zero (by omega)]; simp
  | k + 1, n, m, hk, h, h1 => by
    by_cases h0 : 0 < n
    · have hd : m / 256 ≤ maxInt := by unfold maxInt at *; omega
      rw [digs_step h0 (by omega), digs_step (by omega) h1, List.length_append, List.length_append]
      have := digs_mono k (n / 256) (m / 256) (by omega) (by omega) hd
      simp; omega
    · rw [digs_zero (by omega)]; simp

theorem takeNum_plain {n : Int} (h0 : 0 ≤ n) (h1 : n ≤ maxInt) (t : Str) : takeNum (plain n ++ t) = (n, t, 0) := by
  have hl := digs_len h1
  have hb := byte_nat (n := ((digs n).length : Int)) (by omega) (by omega)
  have hb' : (byte ((digs n).length : Int)).toNat = (digs n).length := by omega
  have hh := digs_head _ n (Nat.le_refl _) h1
  have hv := digs_val _ n (Nat.le_refl _) h0 h1
  unfold plain
  rw [List.cons_append, takeNum, hb', if_neg (by simp; omega), List.take_left, List.drop_left, hv, if_neg (by omega)]
  have : ((digs n).head? == some 0) = false := by simpa using hh
  rw [this]; rfl
theorem takeText_textB {s : Str} (h : (s.length : Int) ≤ maxBytes) (t : Str) : takeText (textB s ++ t) = (s, t, 0) := by
  unfold textB
  rw [List.append_assoc]
  unfold takeText
  rw [takeNum_plain (by omega) (by unfold maxInt; unfold maxBytes at h; omega)]
  simp only
  rw [if_neg (by simp; omega), Int.toNat_natCast, List.take_left, List.drop_left]
theorem takeTexts_catB : ∀ {l : List Str}, anyLong l = false → ∀ t, takeTexts l.length (catB l ++ t) = (l, t, 0)
  | [], _, t => rfl
  | s :: l, h, t => by
    rw [anyLong, Bool.or_eq_false_iff] at h
    rw [List.length_cons, takeTexts, catB, List.append_assoc, takeText_textB (by have := of_decide_eq_false h.1; omega)]
    simp only
    rw [takeTexts_catB h.2 t]
    simp
theorem takeList_listB {l : List Str} (h1 : l.length ≤ 1000) (h2 : anyLong l = false) (t : Str) : takeList (plain l.length ++ catB l ++ t) = (l, t, 0) := by
  unfold takeList
  rw [List.append_assoc, takeNum_plain (by omega) (by unfold maxInt; omega)]
  simp only
  rw [if_neg (by simp; omega), Int.toNat_natCast, takeTexts_catB h2]

theorem listP_ok {l : List Str} (h : (listP l).2 = 0) : l.length ≤ 1000 ∧ anyLong l = false ∧ (listP l).1 = plain l.length ++ catB l := by
  unfold listP at *
  split at h
  · simp at h
  · rename_i h1
    cases ha : anyLong l with
    | true => rw [ha] at h; simp at h
    | false => rw [if_neg h1]; exact ⟨by omega, rfl, rfl⟩
theorem takeList_listP {l : List Str} (h : (listP l).2 = 0) (t : Str) : takeList ((listP l).1 ++ t) = (l, t, 0) := by
  obtain ⟨h1, h2, h3⟩ := listP_ok h
  rw [h3, takeList_listB h1 h2]

theorem begins_iff {a b : Str} : begins a b = true ↔ ∃ t, a = b ++ t := by
  unfold begins
  rw [Bool.and_eq_true, decide_eq_true_iff, decide_eq_true_iff]
  constructor
  · rintro ⟨_, h⟩
    have := List.take_append_drop b.length a
    rw [h] at this
    exact ⟨_, this.symm⟩
  · rintro ⟨t, rfl⟩; simp
end Sp

namespace Sp
theorem wrap8 (n : Int) : IntKind.u8.wrap n = n % 256 := rfl
theorem bytes1 (n : Int) : bytesOf [IntKind.u8.wrap n] = [byte (n % 256)] := rfl
theorem byte_mod {n : Int} (h0 : 0 ≤ n) (h1 : n < 256) : byte (n % 256) = byte n := by rw [Int.emod_eq_of_lt h0 h1]
theorem bytesOf_ints (s : Str) : bytesOf (ints s) = s := by
  unfold bytesOf ints
  rw [List.map_map]
  conv => rhs; rw [← List.map_id s]
  apply List.map_congr_left
  intro x _
  simp
theorem bytesOf_wr (x : List Int) (s : Str) : bytesOf (wr x s) = bytesOf x ++ s := by
  unfold wr
  have := bytesOf_ints s
  unfold bytesOf at *
  rw [List.map_append, this]
end Sp

theorem strings_Builder_WriteString.ok (R : Int → List Int → Prop) (s : Str) (x : List Int) (h : Sp.wr.pre x s) (hR : R (s.length : Int) (Sp.wr x s)) : strings_Builder_WriteString.vc R s x := by
  unfold Sp.wr.pre at h
  exact ⟨by rw [gr_iff, ints_len]; omega, hR⟩
theorem strings_Builder_String.ok (R : List UInt8 → Prop) (x : List Int) (hR : R (bytesOf x)) : strings_Builder_String.vc R x := ⟨rfl, hR⟩

theorem quill_digits.ok (nn : Nat) (R : List UInt8 → Prop) (n : Int) (h : Sp.digs.pre n ∧ Sp.digm n < nn + 1) (hR : R (Sp.digs n)) : quill_digits.vc R nn n := by
  obtain ⟨⟨h0, h1⟩, h2⟩ := h
  unfold Sp.digm at h2
  unfold quill_digits.vc
  rw [cond_dec]
  split
  · rename_i e; subst e; exact hR
  · rename_i hne
    have e : (2 : Int) ^ 8 = 256 := rfl
    rw [e, Sp.bytes1, ← Sp.digs_step (by omega) h1]
    have hd : n / 256 ≤ Sp.maxInt := by unfold Sp.maxInt at *; omega
    have := Sp.digs_len hd
    exact ⟨⟨by decide, by decide⟩, ⟨⟨by omega, hd⟩, by unfold Sp.digm; omega⟩, by simp; omega, hR⟩

theorem quill_Num.ok (R : List UInt8 → Int → Prop) (n : Int) (hR : R (Sp.numP n).1 (Sp.numP n).2) : quill_Num.vc R n := by
  unfold quill_Num.vc
  unfold Sp.numP Sp.maxInt at hR
  rw [cond_dec, cond_dec]
  split
  · rw [if_pos (by omega)] at hR; exact hR
  split
  · rw [if_pos (by omega)] at hR; exact hR
  rw [if_neg (by omega)] at hR
  have hm : n ≤ Sp.maxInt := by unfold Sp.maxInt; omega
  have hl := Sp.digs_len hm
  rw [Sp.bytes1, Sp.byte_mod (by omega) (by omega)]
  exact ⟨⟨⟨by omega, hm⟩, by unfold Sp.digm; omega⟩, by simp; omega, hR⟩

namespace Sp
theorem numP_len {n : Int} (h0 : 0 ≤ n) (h1 : n ≤ maxInt) : (numP n).1 = plain n := by unfold numP; rw [if_neg (by omega)]
theorem plain_len {n : Int} (h1 : n ≤ maxInt) : (plain n).length ≤ 7 := by have := digs_len h1; unfold plain; simp; omega
theorem catB_len : ∀ {l : List Str}, anyLong l = false → (catB l).length ≤ 65543 * l.length
  | [], _ => Nat.le_refl _
  | s :: l, h => by
    rw [anyLong, Bool.or_eq_false_iff] at h
    have h1 := of_decide_eq_false h.1
    unfold maxBytes at h1
    have := catB_len h.2
    have := plain_len (n := (s.length : Int)) (by unfold maxInt; omega)
    rw [catB, textB]
    simp only [List.length_append, List.length_cons]
    omega
theorem joinedP_eq (l : List Str) : joinedP l = bif anyLong l then ([], 2) else (catB l, 0) := rfl
end Sp

theorem quill_joined.ok (R : List UInt8 → Int → Prop) (l : List Str) (h : Sp.joinedP.pre l) (hR : R (Sp.joinedP l).1 (Sp.joinedP l).2) : quill_joined.vc R l := by
  unfold Sp.joinedP.pre at h
  refine Lp_rule (fun v => ∃ (p : Nat) (x : List Int), v = (l, (l.length : Int), (p : Int), x, ()) ∧ p ≤ l.length ∧ x.length ≤ 65543 * p ∧ Sp.anyLong (l.drop p) = Sp.anyLong l ∧ (Sp.anyLong l = false → bytesOf x ++ Sp.catB (l.drop p) = Sp.catB l))
    (fun v => l.length - v.2.2.1.toNat) ?_ ⟨0, [], rfl, Nat.zero_le _, Nat.zero_le _, rfl, fun _ => rfl⟩
  rintro _ K ⟨p, x, rfl, hp, hx, ha, hc⟩ hK
  simp only [quill_joined.L0, cond_dec, rg64, ix_iff]
  split
  · rename_i c1
    have hp' : p < l.length := by omega
    rw [drop_cons (d := []) hp', Sp.anyLong] at ha
    rw [drop_cons (d := []) hp', Sp.catB] at hc
    refine ⟨by omega, ?_⟩
    generalize nth l (p : Int) [] = s at *
    split
    · rename_i c2
      rw [decide_eq_true (show Sp.maxBytes < (s.length : Int) from c2), Bool.true_or] at ha
      unfold Sp.joinedP at hR
      rw [← ha] at hR
      exact hR
    · rename_i c2
      rw [decide_eq_false (show ¬ Sp.maxBytes < (s.length : Int) from c2), Bool.false_or] at ha
      have hm : (s.length : Int) ≤ Sp.maxInt := by unfold Sp.maxInt; omega
      have hl := Sp.plain_len hm
      rw [Sp.numP_len (by omega) hm]
      have hps : (Sp.plain (s.length : Int) ++ s).length ≤ 65543 := by simp; omega
      refine ⟨by omega, by unfold Sp.wr.pre; omega, by omega, hK _ ⟨p + 1, _, rfl, by omega, ?_, ha, fun hf => ?_⟩ (by simp; omega)⟩
      · unfold Sp.wr
        rw [List.length_append]
        have := ints_len (Sp.plain (s.length : Int) ++ s)
        omega
      · rw [Sp.bytesOf_wr, List.append_assoc]; exact hc hf
  · rw [drop_end (by omega)] at ha hc
    unfold Sp.joinedP at hR
    rw [← ha] at hR hc
    have := hc rfl
    rw [Sp.catB, List.append_nil] at this
    rw [this]
    exact hR

theorem quill_Text.ok (R : List UInt8 → Int → Prop) (s : Str) (hR : R (Sp.textP s).1 (Sp.textP s).2) : quill_Text.vc R s := by
  refine ⟨by unfold Sp.joinedP.pre; simp, ?_⟩
  have : Sp.joinedP [s] = Sp.textP s := by
    unfold Sp.joinedP Sp.textP
    simp only [Sp.anyLong, Bool.or_false, cond_dec, Sp.catB, List.append_nil]
  rw [this]; exact hR

theorem quill_List.ok (R : List UInt8 → Int → Prop) (l : List Str) (_ : Sp.listP.pre l) (hR : R (Sp.listP l).1 (Sp.listP l).2) : quill_List.vc R l := by
  unfold quill_List.vc
  unfold Sp.listP at hR
  rw [cond_dec]
  split
  · rename_i c1; rw [if_pos c1] at hR; exact hR
  rename_i c1
  rw [if_neg c1] at hR
  refine ⟨by unfold Sp.joinedP.pre; omega, ?_⟩
  unfold Sp.joinedP
  have hm : (l.length : Int) ≤ Sp.maxInt := by unfold Sp.maxInt; omega
  cases ha : Sp.anyLong l with
  | true => rw [ha] at hR; exact hR
  | false =>
    rw [ha] at hR
    have hl := Sp.plain_len hm
    have hc := Sp.catB_len ha
    rw [Sp.numP_len (by omega) hm]
    exact ⟨by simp only [cond_false]; omega, hR⟩

namespace Sp
theorem or256 {n x : Int} (h0 : 0 ≤ n) (h1 : n < 1099511627776) (h2 : 0 ≤ x) (h3 : x < 256) : bitsO .or .i64 (n * 256) x = n * 256 + x := by
  obtain ⟨n, rfl⟩ : ∃ m : Nat, n = m := ⟨n.toNat, by omega⟩
  obtain ⟨x, rfl⟩ : ∃ m : Nat, x = m := ⟨x.toNat, by omega⟩
  have e1 : (BitVec.ofInt 64 ((n : Int) * 256)).toNat = n * 256 := by
    rw [BitVec.toNat_ofInt]; omega
  have e2 : (BitVec.ofInt 64 (x : Int)).toNat = x := by
    rw [BitVec.toNat_ofInt]; omega
  have e3 : n * 256 ||| x = n * 256 + x := by
    have := Nat.two_pow_add_eq_or_of_lt (i := 8) (b := x) (by omega) n
    rw [Nat.mul_comm] at this
    exact this.symm
  have e4 : bitsO .or .i64 ((n : Int) * 256) (x : Int) = IntKind.i64.wrap (((BitVec.ofInt 64 ((n : Int) * 256) ||| BitVec.ofInt 64 (x : Int)).toNat : Nat) : Int) := rfl
  rw [e4, BitVec.toNat_or, e1, e2, e3, wrap_in]
  · omega
  · rw [show IntKind.i64.min = -9223372036854775808 from rfl, show IntKind.i64.max = 9223372036854775807 from rfl]
    omega
theorem val_bound : ∀ (l : Str) (a : Int), 0 ≤ a → 0 ≤ val a l ∧ val a l < (a + 1) * ((256 ^ l.length : Nat) : Int)
  | [], a, h => by simp [val]; omega
  | x :: l, a, h => by
    have hx := x.toNat_lt
    obtain ⟨h1, h2⟩ := val_bound l (a * 256 + x.toNat) (by omega)
    refine ⟨h1, Int.lt_of_lt_of_le h2 ?_⟩
    rw [List.length_cons, Nat.pow_succ, Int.natCast_mul, Int.mul_comm (((256 ^ l.length : Nat)) : Int), ← Int.mul_assoc]
    refine Int.mul_le_mul_of_nonneg_right ?_ (Int.natCast_nonneg _)
    omega
theorem val_le {l : Str} (h : l.length ≤ 5) : 0 ≤ val 0 l ∧ val 0 l < 1099511627776 := by
  obtain ⟨h1, h2⟩ := val_bound l 0 (Int.le_refl _)
  have := Nat.pow_le_pow_right (n := 256) (by decide) h
  have e : 256 ^ 5 = 1099511627776 := rfl
  omega
theorem sub_tail (k : UInt8) (t : Str) (m : Nat) : sub (k :: t) 1 (1 + (m : Int)) = t.take m := by
  unfold sub
  rw [show (1 + (m : Int)).toNat = m + 1 from by omega]
  rfl
theorem sub_rest (k : UInt8) (t : Str) (m : Nat) : sub (k :: t) (1 + (m : Int)) ((k :: t).length : Int) = t.drop m := by
  unfold sub
  rw [show (1 + (m : Int)).toNat = m + 1 from by omega, Int.toNat_natCast, List.take_length]
  rfl
theorem u8_zero {x : UInt8} : (x.toNat : Int) = 0 ↔ x = 0 := by
  constructor
  · intro h
    apply UInt8.toNat_inj.1
    have : x.toNat = 0 := by omega
    rw [this]; rfl
  · rintro rfl; rfl
end Sp

theorem quill_TakeNum.ok (R : Int → List UInt8 → Int → Prop) (b : Str) (h : Sp.takeNum.pre b) (hR : R (Sp.takeNum b).1 (Sp.takeNum b).2.1 (Sp.takeNum b).2.2) : quill_TakeNum.vc R b := by
  unfold Sp.takeNum.pre at h
  unfold quill_TakeNum.vc
  cases b with
  | nil => exact hR
  | cons k t =>
    have e0 : nth (k :: t) 0 (0 : UInt8) = k := rfl
    have hk := k.toNat_lt
    rw [e0, Sp.sub_tail, Sp.sub_rest]
    rw [Sp.takeNum] at hR
    rw [cond_dec, if_neg (by simp), cond_dec, cond_dec]
    simp only [rg64, ix_iff, sb_iff, List.length_cons] at h ⊢
    refine ⟨by omega, ?_⟩
    split
    · rw [if_pos (by omega)] at hR; exact hR
    refine ⟨by omega, by omega, ?_⟩
    split
    · rw [if_pos (by omega)] at hR; exact hR
    rw [if_neg (by omega)] at hR
    refine ⟨by omega, by omega, by omega, by omega, by omega, by omega, ?_⟩
    have hdl : (t.take k.toNat).length ≤ 6 := by rw [List.length_take]; omega
    generalize t.take k.toNat = d at *
    generalize t.drop k.toNat = rest at *
    refine Lp_rule (fun v => ∃ i : Nat, v = (d, rest, Sp.val 0 (d.take i), (d.length : Int), (i : Int), ()) ∧ i ≤ d.length ∧ (0 < i → (d.head? == some 0) = false)) (fun v => d.length - v.2.2.2.2.1.toNat) ?_ ⟨0, rfl, Nat.zero_le _, fun h => absurd h (Nat.lt_irrefl _)⟩
    rintro _ K ⟨i, rfl, hi, hh⟩ hK
    simp only [quill_TakeNum.L0, cond_dec, rg64, ix_iff]
    have e8 : (2 : Int) ^ 8 = 256 := rfl
    have sh : Shf 8 .i64 := ⟨by decide, by decide⟩
    rw [e8]
    split
    · rename_i c1
      have hi' : i < d.length := by omega
      have hb := Sp.val_le (l := d.take i) (by rw [List.length_take]; omega)
      have hx := (nth d (i : Int) (0 : UInt8)).toNat_lt
      rw [Sp.or256 hb.1 hb.2 (by omega) (by omega)]
      have hv : Sp.val 0 (d.take i) * 256 + ((nth d (i : Int) (0 : UInt8)).toNat : Int) = Sp.val 0 (d.take (i + 1)) := by
        rw [take_succ (d := (0 : UInt8)) hi', Sp.val_app]; rfl
      have fin (hz : (d.head? == some 0) = false) : K (d, rest, Sp.val 0 (d.take i) * 256 + ((nth d (i : Int) (0 : UInt8)).toNat : Int), (d.length : Int), (i : Int) + 1, ()) :=
        hK _ ⟨i + 1, by rw [hv]; rfl, by omega, fun _ => hz⟩ (by simp; omega)
      split
      · rename_i c2
        have : i = 0 := by omega
        subst this
        refine ⟨by omega, ?_⟩
        have hd : d.head? = some (nth d ((0 : Nat) : Int) (0 : UInt8)) := by
          cases d with
          | nil => simp at hi'
          | cons x l => rfl
        split
        · rename_i c3
          have c3' := Sp.u8_zero.1 c3
          rw [hd, c3'] at hR
          exact hR
        · rename_i c3
          refine ⟨sh, by omega, by omega, by omega, fin ?_⟩
          rw [hd]
          simp only [beq_eq_false_iff_ne, ne_eq, Option.some.injEq]
          exact fun e => c3 (Sp.u8_zero.2 e)
      · exact ⟨sh, by omega, by omega, by omega, fin (hh (by omega))⟩
    · have : i = d.length := by omega
      subst this
      rw [List.take_length]
      have hz : (d.head? == some 0) = false := by
        cases hd : d with
        | nil => rfl
        | cons x l => rw [← hd]; exact hh (by rw [hd]; simp)
      rw [hz, cond_false] at hR
      split
      · rename_i c2
        rw [if_pos (show Sp.maxInt < Sp.val 0 d from c2)] at hR
        exact hR
      · rename_i c2
        rw [if_neg (show ¬ Sp.maxInt < Sp.val 0 d from c2)] at hR
        exact hR

namespace Sp
theorem takeNum_nonneg (b : Str) : 0 ≤ (takeNum b).1 := by
  cases b with
  | nil => exact Int.le_refl _
  | cons k t =>
    rw [takeNum]
    split
    · exact Int.le_refl _
    · cases (t.take k.toNat).head? == some 0 with
      | true => exact Int.le_refl _
      | false =>
        simp only [cond_false]
        split
        · exact Int.le_refl _
        · exact (val_bound _ 0 (Int.le_refl _)).1
theorem takeNum_rest (b : Str) : (takeNum b).2.1.length ≤ b.length := by
  cases b with
  | nil => exact Nat.le_refl _
  | cons k t =>
    rw [takeNum]
    split
    · exact Nat.zero_le _
    · cases (t.take k.toNat).head? == some 0 with
      | true => exact Nat.zero_le _
      | false =>
        simp only [cond_false]
        split
        · exact Nat.zero_le _
        · simp; omega
theorem takeText_rest (b : Str) : (takeText b).2.1.length ≤ b.length := by
  unfold takeText
  have := takeNum_rest b
  split
  · exact Nat.zero_le _
  · simp; omega
theorem takeNum_err (b : Str) : (takeNum b).2.2 = 0 ∨ takeNum b = (0, [], 4) := by
  cases b with
  | nil => exact .inr rfl
  | cons k t =>
    rw [takeNum]
    split
    · exact .inr rfl
    · cases (t.take k.toNat).head? == some 0 with
      | true => exact .inr rfl
      | false =>
        simp only [cond_false]
        split
        · exact .inr rfl
        · exact .inl rfl
end Sp

theorem quill_TakeText.ok (R : List UInt8 → List UInt8 → Int → Prop) (b : Str) (h : Sp.takeText.pre b) (hR : R (Sp.takeText b).1 (Sp.takeText b).2.1 (Sp.takeText b).2.2) : quill_TakeText.vc R b := by
  refine ⟨h, ?_⟩
  have h0 := Sp.takeNum_nonneg b
  unfold Sp.takeText Sp.maxBytes at hR
  rw [cond_ndec, cond_dec, cond_dec]
  split
  · rename_i c1
    split
    · rw [if_pos (by omega)] at hR; exact hR
    split
    · rw [if_pos (by omega)] at hR; exact hR
    rw [if_neg (by omega)] at hR
    refine ⟨⟨by omega, by omega, by omega⟩, ⟨by omega, by omega, by omega⟩, ?_⟩
    unfold sub
    rw [Int.toNat_natCast, List.take_length]
    exact hR
  · rename_i c1
    rw [if_pos (by omega)] at hR; exact hR

theorem quill_TakeList.ok (R : List (List UInt8) → List UInt8 → Int → Prop) (b : Str) (h : Sp.takeList.pre b) (hR : R (Sp.takeList b).1 (Sp.takeList b).2.1 (Sp.takeList b).2.2) : quill_TakeList.vc R b := by
  refine ⟨h, ?_⟩
  unfold Sp.takeList.pre at h
  have h0 := Sp.takeNum_nonneg b
  have hr := Sp.takeNum_rest b
  unfold Sp.takeList at hR
  rw [cond_ndec, cond_dec]
  split
  case isFalse c1 => rw [if_pos (.inl c1)] at hR; exact hR
  rename_i c1
  split
  · rename_i c2; rw [if_pos (.inr c2)] at hR; exact hR
  rename_i c2
  rw [if_neg (by omega)] at hR
  obtain ⟨n, hn⟩ : ∃ n : Nat, (Sp.takeNum b).1 = n := ⟨(Sp.takeNum b).1.toNat, by omega⟩
  rw [hn] at hR c2 ⊢
  rw [Int.toNat_natCast] at hR
  refine Lp_rule (fun v => ∃ (i : Nat) (out : List Str) (r : Str), v = (r, (n : Int), (i : Int), out, ()) ∧ i ≤ n ∧ out.length ≤ i ∧ r.length ≤ b.length ∧
      (((Sp.takeTexts (n - i) r).2.2 ≠ 0 ∧ Sp.takeTexts n (Sp.takeNum b).2.1 = ([], [], 4)) ∨ ((Sp.takeTexts (n - i) r).2.2 = 0 ∧ Sp.takeTexts n (Sp.takeNum b).2.1 = (out ++ (Sp.takeTexts (n - i) r).1, (Sp.takeTexts (n - i) r).2.1, 0))))
    (fun v => n - v.2.2.1.toNat) ?_ ⟨0, [], (Sp.takeNum b).2.1, rfl, Nat.zero_le _, Nat.zero_le _, hr, ?_⟩
  · rintro _ K ⟨i, out, r, rfl, hi, ho, hrl, hI⟩ hK
    simp only [quill_TakeList.L0, cond_dec, cond_ndec, rg64, gr_iff]
    split
    · rename_i c3
      rw [show n - i = (n - (i + 1)) + 1 from by omega, Sp.takeTexts] at hI
      refine ⟨by unfold Sp.takeText.pre; omega, ?_⟩
      have hrr := Sp.takeText_rest r
      split
      · rename_i c4
        rw [if_neg (by omega)] at hI
        refine ⟨by omega, by omega, hK _ ⟨i + 1, _, _, rfl, by omega, by simp; omega, by omega, ?_⟩ (by simp; omega)⟩
        by_cases c5 : (Sp.takeTexts (n - (i + 1)) (Sp.takeText r).2.1).2.2 = 0
        · rw [if_neg (by omega)] at hI
          refine .inr ⟨c5, ?_⟩
          rcases hI with ⟨h1, _⟩ | ⟨_, h2⟩
          · simp at h1
          · rw [h2]; simp
        · rw [if_pos c5] at hI
          refine .inl ⟨c5, ?_⟩
          rcases hI with ⟨_, h2⟩ | ⟨h1, _⟩
          · exact h2
          · simp at h1
      · rename_i c4
        rw [if_pos c4] at hI
        rcases hI with ⟨_, h2⟩ | ⟨h1, _⟩
        · rw [h2] at hR; exact hR
        · simp at h1
    · have : n - i = 0 := by omega
      rw [this] at hI
      rcases hI with ⟨h1, _⟩ | ⟨_, h2⟩
      · exact absurd rfl h1
      · rw [h2] at hR
        simp only [Sp.takeTexts, List.append_nil] at hR
        exact hR
  · rw [Nat.sub_zero]
    by_cases c3 : (Sp.takeTexts n (Sp.takeNum b).2.1).2.2 = 0
    · exact .inr ⟨c3, by rw [List.nil_append, ← c3]⟩
    · refine .inl ⟨c3, ?_⟩
      cases n with
      | zero => exact absurd rfl c3
      | succ n =>
        rw [Sp.takeTexts] at c3 ⊢
        split
        · rfl
        · rename_i c4
          rw [if_neg c4] at c3
          split
          · rfl
          · rename_i c5; rw [if_neg c5] at c3; exact absurd rfl c3

theorem rectoref01_Size.ok (R : Int → Prop) (n : Int) (h : Sp.sizeN.pre n) (hR : R (Sp.sizeN n)) : rectoref01_Size.vc R n := by
  unfold Sp.sizeN.pre at h
  have hl := Sp.digs_len h
  refine Lp_rule (fun v => ∃ (k x : Int), v = (k, x, ()) ∧ x ≤ Sp.maxInt ∧ 0 ≤ k ∧ k + (Sp.digs x).length = (Sp.digs n).length) (fun v => v.2.1.toNat) ?_ ⟨0, n, rfl, h, Int.le_refl _, by omega⟩
  rintro _ K ⟨k, x, rfl, hx, hk, he⟩ hK
  simp only [rectoref01_Size.L0, cond_dec, rg64, dv_iff]
  split
  · rename_i c1
    rw [Sp.digs_step c1 hx, List.length_append, List.length_singleton] at he
    exact ⟨by omega, by omega, hK _ ⟨_, _, rfl, by unfold Sp.maxInt at *; omega, by omega, by omega⟩ (by simp; omega)⟩
  · rename_i c1
    rw [Sp.digs_zero (by omega)] at he
    have : k = Sp.sizeN n := by unfold Sp.sizeN; simp at he; omega
    rw [this]; exact hR

theorem rectoref01_Plain.ok (R : List UInt8 → Prop) (n : Int) (h : Sp.plain.pre n) (hR : R (Sp.plain n)) : rectoref01_Plain.vc R n := by
  obtain ⟨h0, h1⟩ := h
  have hl := Sp.digs_len h1
  refine Lp_rule (fun v => ∃ (out : Str) (x : Int), v = (n, out, x, ()) ∧ x ≤ Sp.maxInt ∧ 0 ≤ x ∧ Sp.digs x ++ out = Sp.digs n) (fun v => v.2.2.1.toNat) ?_ ⟨[], n, rfl, h1, h0, by simp⟩
  rintro _ K ⟨out, x, rfl, hx, hx0, he⟩ hK
  simp only [rectoref01_Plain.L0, dv_iff]
  rw [cond_dec]
  have hlen := congrArg List.length he
  rw [List.length_append] at hlen
  split
  · rename_i c1
    rw [Sp.digs_step c1 hx] at he
    have e2 : Sp.byte (x % 256 % 256) = Sp.byte (x % 256) := by rw [Int.emod_emod_of_dvd x (by decide)]
    rw [Sp.bytes1, e2]
    refine ⟨by omega, by simp; omega, by omega, hK _ ⟨_, _, rfl, by unfold Sp.maxInt at *; omega, by omega, ?_⟩ (by simp; omega)⟩
    rw [← he, List.append_assoc]
  · rename_i c1
    have : x = 0 := by omega
    subst this
    have he : out = Sp.digs n := he
    subst he
    rw [Sp.bytes1]
    unfold Sp.sizeN
    rw [Sp.byte_mod (by omega) (by omega)]
    exact ⟨h1, by simp; omega, hR⟩

theorem rectoref01_Num.ok (R : List UInt8 → Int → Prop) (n : Int) (hR : R (Sp.numP n).1 (Sp.numP n).2) : rectoref01_Num.vc R n := by
  unfold rectoref01_Num.vc
  unfold Sp.numP Sp.maxInt at hR
  rw [cond_dec, cond_dec]
  split
  · rw [if_pos (by omega)] at hR; exact hR
  split
  · rw [if_pos (by omega)] at hR; exact hR
  rw [if_neg (by omega)] at hR
  exact ⟨⟨by omega, by unfold Sp.maxInt; omega⟩, hR⟩

theorem rectoref01_Text.ok (R : List UInt8 → Int → Prop) (s : Str) (hR : R (Sp.textP s).1 (Sp.textP s).2) : rectoref01_Text.vc R s := by
  unfold rectoref01_Text.vc
  unfold Sp.textP at hR
  rw [cond_dec]
  split
  · rename_i c; rw [if_pos (show Sp.maxBytes < _ from c)] at hR; exact hR
  rename_i c
  rw [if_neg (show ¬ Sp.maxBytes < _ from c)] at hR
  have hm : (s.length : Int) ≤ Sp.maxInt := by unfold Sp.maxInt; omega
  have := Sp.plain_len hm
  exact ⟨⟨by omega, hm⟩, by omega, hR⟩

theorem rectoref01_List.ok (R : List UInt8 → Int → Prop) (l : List Str) (_ : Sp.listP.pre l) (hR : R (Sp.listP l).1 (Sp.listP l).2) : rectoref01_List.vc R l := by
  unfold rectoref01_List.vc
  unfold Sp.listP at hR
  rw [cond_dec]
  split
  · rename_i c1; rw [if_pos c1] at hR; exact hR
  rename_i c1
  rw [if_neg c1] at hR
  have hm : (l.length : Int) ≤ Sp.maxInt := by unfold Sp.maxInt; omega
  have hpl := Sp.plain_len hm
  refine ⟨⟨by omega, hm⟩, ?_⟩
  refine Lp_rule (fun v => ∃ (p : Nat) (out : Str), v = (out, l, (l.length : Int), (p : Int), ()) ∧ p ≤ l.length ∧ out.length ≤ 7 + 65543 * p ∧ Sp.anyLong (l.drop p) = Sp.anyLong l ∧ (Sp.anyLong l = false → out ++ Sp.catB (l.drop p) = Sp.plain l.length ++ Sp.catB l))
    (fun v => l.length - v.2.2.2.1.toNat) ?_ ⟨0, _, rfl, Nat.zero_le _, by omega, rfl, fun _ => rfl⟩
  rintro _ K ⟨p, x, rfl, hp, hx, ha, hc⟩ hK
  simp only [rectoref01_List.L0, rg64, ix_iff]
  rw [cond_dec]
  split
  · rename_i c2
    have hp' : p < l.length := by omega
    rw [drop_cons (d := []) hp', Sp.anyLong] at ha
    rw [drop_cons (d := []) hp', Sp.catB] at hc
    generalize nth l (p : Int) [] = s at *
    refine ⟨by omega, ?_⟩
    rw [cond_ndec]
    unfold Sp.textP
    by_cases c3 : Sp.maxBytes < (s.length : Int)
    · rw [decide_eq_true c3, Bool.true_or] at ha
      rw [← ha] at hR
      rw [if_pos c3, if_neg (by simp)]
      exact hR
    · rw [decide_eq_false c3, Bool.false_or] at ha
      rw [if_neg c3, if_pos rfl]
      unfold Sp.maxBytes at c3
      have hm : (s.length : Int) ≤ Sp.maxInt := by unfold Sp.maxInt; omega
      have hpl := Sp.plain_len hm
      have hps : (Sp.textB s).length ≤ 65543 := by unfold Sp.textB; simp; omega
      refine ⟨by simp only; omega, by omega, hK _ ⟨p + 1, _, rfl, by omega, by simp only [List.length_append]; omega, ha, fun hf => ?_⟩ (by simp; omega)⟩
      rw [List.append_assoc]; exact hc hf
  · rw [drop_end (by omega)] at ha hc
    rw [← ha] at hR hc
    have := hc rfl
    rw [Sp.catB, List.append_nil] at this
    rw [this]
    exact hR

namespace Sp
theorem takeNum_drop {b : Str} (h : (takeNum b).2.2 = 0) : b.drop (b.length - (takeNum b).2.1.length) = (takeNum b).2.1 := by
  cases b with
  | nil => rfl
  | cons k t =>
    rw [takeNum] at h ⊢
    split
    · rename_i c; rw [if_pos c] at h; simp at h
    · rename_i c
      rw [if_neg c] at h
      cases hb : (t.take k.toNat).head? == some 0 with
      | true => rw [hb] at h; simp at h
      | false =>
        rw [hb, cond_false] at h
        rw [cond_false]
        split
        · rename_i c2; rw [if_pos c2] at h; simp at h
        · simp only [List.length_cons, List.length_drop]
          rw [show t.length + 1 - (t.length - k.toNat) = k.toNat + 1 from by omega, List.drop_succ_cons]
theorem numAt_zero (b : Str) : numAt b 0 = if (takeNum b).2.2 = 0 then ((takeNum b).1, (b.length : Int) - (takeNum b).2.1.length) else (0, -1) := rfl
theorem numAt_bad {b : Str} (h : takeNum b = (0, [], 4)) : numAt b 0 = (0, -1) := by rw [numAt_zero, h]; rfl
end Sp

theorem num_loop (R : Int × Int → Prop) (k : UInt8) (t : Str) (hl : (k :: t).length ≤ 9223372036854775807) (h6 : k.toNat ≤ 6) (hkt : k.toNat ≤ t.length) (hz : ((t.take k.toNat).head? == some 0) = false) (hR : R (Sp.numAt (k :: t) 0)) :
    Lp (fun v K => rectoref01_num.L0 R v.fst v.snd.fst v.snd.snd.fst v.snd.snd.snd.fst v.snd.snd.snd.snd.fst v.snd.snd.snd.snd.snd.fst v.snd.snd.snd.snd.snd.snd.fst K) (k :: t, 0, (k.toNat : Int), 0, 0, 0, 0, ()) := by
  have ht : Sp.takeNum (k :: t) = if Sp.maxInt < Sp.val 0 (t.take k.toNat) then (0, [], 4) else (Sp.val 0 (t.take k.toNat), t.drop k.toNat, 0) := by
    rw [Sp.takeNum, if_neg (by omega), hz]; rfl
  refine Lp_rule (fun v => ∃ i : Nat, v = (k :: t, 0, (k.toNat : Int), Sp.val 0 (t.take i), (i : Int), 0, 0, ()) ∧ i ≤ k.toNat) (fun v => k.toNat - v.2.2.2.2.1.toNat) ?_ ⟨0, rfl, Nat.zero_le _⟩
  rintro _ K ⟨i, rfl, hi⟩ hK
  simp only [rectoref01_num.L0, cond_dec, rg64, ix_iff]
  split
  · rename_i c1
    have hi' : i < t.length := by omega
    have hb := Sp.val_le (l := t.take i) (by rw [List.length_take]; omega)
    have e : nth (k :: t) (0 + 1 + (i : Int)) (0 : UInt8) = nth t (i : Int) 0 := by
      rw [show (0 + 1 + (i : Int)) = ((i + 1 : Nat) : Int) from by omega]; rfl
    rw [e]
    have hx := (nth t (i : Int) (0 : UInt8)).toNat_lt
    simp only [List.length_cons] at hl ⊢
    refine ⟨by omega, by omega, by omega, by omega, by omega, by omega, hK _ ⟨i + 1, ?_, by omega⟩ (by simp; omega)⟩
    rw [take_succ (d := (0 : UInt8)) hi', Sp.val_app]
    rfl
  · have : i = k.toNat := by omega
    subst this
    split
    · rename_i c2
      rw [if_pos (show Sp.maxInt < _ from c2)] at ht
      rw [Sp.numAt_bad ht] at hR
      exact hR
    · rename_i c2
      rw [if_neg (show ¬ Sp.maxInt < _ from c2)] at ht
      rw [Sp.numAt_zero, ht, if_pos rfl] at hR
      refine ⟨by omega, by omega, ?_⟩
      have e : (((k :: t).length : Nat) : Int) - ((t.drop k.toNat).length : Nat) = 0 + 1 + (k.toNat : Int) := by
        simp only [List.length_cons, List.length_drop]; omega
      rw [← e]; exact hR

theorem rectoref01_num.ok (R : Int × Int → Prop) (b : Str) (i : Int) (h : Sp.numAt.pre b i) (hR : R (Sp.numAt b i)) : rectoref01_num.vc R b i := by
  obtain ⟨rfl, h⟩ := h
  unfold rectoref01_num.vc
  cases b with
  | nil => exact hR
  | cons k t =>
    have e0 : nth (k :: t) 0 (0 : UInt8) = k := rfl
    have e1 : nth (k :: t) (0 + 1) (0 : UInt8) = nth t 0 0 := rfl
    have hk := k.toNat_lt
    rw [e0, e1, cond_dec, if_neg (by simp), cond_dec, cond_dec, cond_dec, cond_dec]
    simp only [rg64, ix_iff]
    have hl := h
    simp only [List.length_cons] at h ⊢
    refine ⟨by omega, ?_⟩
    split
    · rw [Sp.numAt_bad (by rw [Sp.takeNum, if_pos (by omega)])] at hR; exact hR
    refine ⟨by omega, by omega, by omega, ?_⟩
    split
    · rw [Sp.numAt_bad (by rw [Sp.takeNum, if_pos (by omega)])] at hR; exact hR
    split
    · rename_i c1
      refine ⟨by omega, by omega, ?_⟩
      have hd : (t.take k.toNat).head? = some (nth t 0 (0 : UInt8)) := by
        cases t with
        | nil => simp at *; omega
        | cons x l =>
          obtain ⟨m, hm⟩ : ∃ m, k.toNat = m + 1 := ⟨k.toNat - 1, by omega⟩
          rw [hm]; rfl
      split
      · rename_i c2
        rw [Sp.numAt_bad (by rw [Sp.takeNum, if_neg (by omega), hd, Sp.u8_zero.1 c2]; rfl)] at hR
        exact hR
      · rename_i c2
        refine num_loop R k t hl (by omega) (by omega) ?_ hR
        rw [hd]
        simp only [beq_eq_false_iff_ne, ne_eq, Option.some.injEq]
        exact fun e => c2 (Sp.u8_zero.2 e)
    · rename_i c1
      have hk0 : k.toNat = 0 := by omega
      exact num_loop R k t hl (by omega) (by omega) (by rw [hk0]; rfl) hR

theorem rectoref01_TakeNum.ok (R : Int × List UInt8 × List (List UInt8) × List UInt8 × Int → Prop) (b : Str) (h : Sp.takenN.pre b) (hR : R (Sp.takenN b)) : rectoref01_TakeNum.vc R b := by
  refine ⟨⟨rfl, h⟩, ?_⟩
  have hr := Sp.takeNum_rest b
  rw [Sp.numAt_zero, cond_dec]
  unfold Sp.takenN at hR
  rcases Sp.takeNum_err b with e | e
  · rw [if_pos e]
    simp only
    rw [if_neg (by omega)]
    refine ⟨⟨by omega, by omega, by omega⟩, ?_⟩
    have := Sp.takeNum_drop e
    unfold sub
    rw [Int.toNat_natCast, List.take_length, show ((b.length : Int) - ((Sp.takeNum b).2.1.length : Int)).toNat = b.length - (Sp.takeNum b).2.1.length from by omega, this]
    rw [e] at hR
    exact hR
  · rw [e] at hR ⊢
    exact hR

theorem rectoref01_TakeText.ok (R : Int × List UInt8 × List (List UInt8) × List UInt8 × Int → Prop) (b : Str) (h : Sp.takenT.pre b) (hR : R (Sp.takenT b)) : rectoref01_TakeText.vc R b := by
  refine ⟨⟨rfl, h⟩, ?_⟩
  unfold Sp.takenT.pre at h
  have hr := Sp.takeNum_rest b
  have h0 := Sp.takeNum_nonneg b
  rw [Sp.numAt_zero, cond_dec, cond_dec, cond_dec]
  unfold Sp.takenT Sp.takeText Sp.maxBytes at hR
  rcases Sp.takeNum_err b with e | e
  · rw [if_pos e]
    simp only [rg64, sb_iff]
    rw [if_neg (by omega)]
    split
    · rw [if_pos (by omega)] at hR; exact hR
    refine ⟨by omega, ?_⟩
    split
    · rw [if_pos (by omega)] at hR; exact hR
    rw [if_neg (by omega)] at hR
    refine ⟨by omega, ⟨by omega, by omega, by omega⟩, by omega, ⟨by omega, by omega, by omega⟩, ?_⟩
    have hd := Sp.takeNum_drop e
    obtain ⟨n, hn⟩ : ∃ n : Nat, (Sp.takeNum b).1 = n := ⟨(Sp.takeNum b).1.toNat, by omega⟩
    rw [hn] at hR ⊢
    rw [Int.toNat_natCast] at hR
    have e1 : sub b ((b.length : Int) - ((Sp.takeNum b).2.1.length : Int)) ((b.length : Int) - ((Sp.takeNum b).2.1.length : Int) + (n : Int)) = (Sp.takeNum b).2.1.take n := by
      unfold sub
      rw [List.drop_take, show ((b.length : Int) - ((Sp.takeNum b).2.1.length : Int)).toNat = b.length - (Sp.takeNum b).2.1.length from by omega, hd]
      congr 1; omega
    have e2 : sub b ((b.length : Int) - ((Sp.takeNum b).2.1.length : Int) + (n : Int)) (b.length : Int) = (Sp.takeNum b).2.1.drop n := by
      unfold sub
      rw [Int.toNat_natCast, List.take_length, show ((b.length : Int) - ((Sp.takeNum b).2.1.length : Int) + (n : Int)).toNat = (b.length - (Sp.takeNum b).2.1.length) + n from by omega, ← List.drop_drop, hd]
    rw [e1, e2]
    exact hR
  · rw [e] at hR ⊢
    exact hR

theorem rectoref01_TakeList.ok (R : Int × List UInt8 × List (List UInt8) × List UInt8 × Int → Prop) (b : Str) (h : Sp.takenL.pre b) (hR : R (Sp.takenL b)) : rectoref01_TakeList.vc R b := by
  refine ⟨⟨rfl, h⟩, ?_⟩
  unfold Sp.takenL.pre at h
  have hr := Sp.takeNum_rest b
  have h0 := Sp.takeNum_nonneg b
  rw [Sp.numAt_zero, cond_dec, cond_dec]
  unfold Sp.takenL Sp.takeList at hR
  rcases Sp.takeNum_err b with e | e
  case inr => rw [e] at hR ⊢; exact hR
  rw [if_pos e]
  simp only
  rw [if_neg (by omega)]
  split
  · rename_i c2; rw [if_pos (.inr c2)] at hR; exact hR
  rename_i c2
  rw [if_neg (by omega)] at hR
  obtain ⟨n, hn⟩ : ∃ n : Nat, (Sp.takeNum b).1 = n := ⟨(Sp.takeNum b).1.toNat, by omega⟩
  have hd := Sp.takeNum_drop e
  have e2 : sub b ((b.length : Int) - ((Sp.takeNum b).2.1.length : Int)) (b.length : Int) = (Sp.takeNum b).2.1 := by
    unfold sub
    rw [Int.toNat_natCast, List.take_length, show ((b.length : Int) - ((Sp.takeNum b).2.1.length : Int)).toNat = b.length - (Sp.takeNum b).2.1.length from by omega, hd]
  rw [e2]
  refine ⟨⟨by omega, by omega, by omega⟩, ?_⟩
  generalize (b.length : Int) - ((Sp.takeNum b).2.1.length : Int) = ee at *
  rw [hn] at hR c2 ⊢
  rw [Int.toNat_natCast] at hR
  refine Lp_rule (fun v => ∃ (i : Nat) (out : List Str) (r : Str), v = ((i : Int), 0, [], [], 0, [], (n : Int), ee, 0, [], r, 0, out, ()) ∧ i ≤ n ∧ out.length ≤ i ∧ r.length ≤ b.length ∧
      (((Sp.takeTexts (n - i) r).2.2 ≠ 0 ∧ Sp.takeTexts n (Sp.takeNum b).2.1 = ([], [], 4)) ∨ ((Sp.takeTexts (n - i) r).2.2 = 0 ∧ Sp.takeTexts n (Sp.takeNum b).2.1 = (out ++ (Sp.takeTexts (n - i) r).1, (Sp.takeTexts (n - i) r).2.1, 0))))
    (fun v => n - v.1.toNat) ?_ ⟨0, [], (Sp.takeNum b).2.1, rfl, Nat.zero_le _, Nat.zero_le _, hr, ?_⟩
  · rintro _ K ⟨i, out, r, rfl, hi, ho, hrl, hI⟩ hK
    simp only [rectoref01_TakeList.L0, cond_dec, cond_ndec, rg64, gr_iff]
    split
    · rename_i c3
      rw [show n - i = (n - (i + 1)) + 1 from by omega, Sp.takeTexts] at hI
      refine ⟨by unfold Sp.takenT.pre; omega, ?_⟩
      have hrr := Sp.takeText_rest r
      have e5 : (Sp.takenT r).2.2.2.2 = (Sp.takeText r).2.2 := rfl
      rw [e5]
      split
      · rename_i c4
        rw [if_neg (by omega)] at hI
        refine ⟨by omega, by omega, hK _ ⟨i + 1, out ++ [(Sp.takeText r).1], (Sp.takeText r).2.1, rfl, by omega, by simp; omega, by omega, ?_⟩ (by simp; omega)⟩
        by_cases c5 : (Sp.takeTexts (n - (i + 1)) (Sp.takeText r).2.1).2.2 = 0
        · rw [if_neg (by omega)] at hI
          refine .inr ⟨c5, ?_⟩
          rcases hI with ⟨h1, _⟩ | ⟨_, h2⟩
          · simp at h1
          · rw [h2]; simp
        · rw [if_pos c5] at hI
          refine .inl ⟨c5, ?_⟩
          rcases hI with ⟨_, h2⟩ | ⟨h1, _⟩
          · exact h2
          · simp at h1
      · rename_i c4
        rw [if_pos c4] at hI
        rcases hI with ⟨_, h2⟩ | ⟨h1, _⟩
        · rw [h2] at hR; exact hR
        · simp at h1
    · have : n - i = 0 := by omega
      rw [this] at hI
      rcases hI with ⟨h1, _⟩ | ⟨_, h2⟩
      · exact absurd rfl h1
      · rw [h2] at hR
        simp only [Sp.takeTexts, List.append_nil] at hR
        exact hR
  · rw [Nat.sub_zero]
    by_cases c3 : (Sp.takeTexts n (Sp.takeNum b).2.1).2.2 = 0
    · exact .inr ⟨c3, by rw [List.nil_append, ← c3]⟩
    · refine .inl ⟨c3, ?_⟩
      cases n with
      | zero => exact absurd rfl c3
      | succ n =>
        rw [Sp.takeTexts] at c3 ⊢
        split
        · rfl
        · rename_i c4
          rw [if_neg c4] at c3
          split
          · rfl
          · rename_i c5; rw [if_neg c5] at c3; exact absurd rfl c3

theorem rectoplain_Texts.ok (R : Bool → Prop) (a b : List Str) (h : Sp.eqL.pre a b) (hR : R (Sp.eqL a b)) : rectoplain_Texts.vc R a b := by
  unfold Sp.eqL.pre at h
  unfold Sp.eqL at hR
  have ne (hne : a ≠ b) : R false := by rw [decide_eq_false hne] at hR; exact hR
  refine Lp_rule (fun v => ∃ p : Nat, v = (a, b, (a.length : Int), (p : Int), ()) ∧ p ≤ a.length ∧ p ≤ b.length ∧ a.take p = b.take p) (fun v => a.length - v.2.2.2.1.toNat) ?_ ⟨0, rfl, Nat.zero_le _, Nat.zero_le _, rfl⟩
  rintro _ K ⟨p, rfl, hp, hq, ht⟩ hK
  simp only [rectoplain_Texts.L0, cond_dec, cond_ndec, rg64, ix_iff]
  split
  · rename_i h1
    have h1' : p < a.length := by omega
    split
    · rename_i h2; exact ne fun e => by rw [e] at h1'; omega
    have h2' : p < b.length := by omega
    refine ⟨by omega, by omega, ?_⟩
    split
    · rename_i e1
      refine ⟨by omega, hK _ ⟨p + 1, rfl, by omega, by omega, ?_⟩ (by simp; omega)⟩
      rw [take_succ (d := []) h1', take_succ (d := []) h2', ht, e1]
    · rename_i e1; exact ne fun e => e1 (by rw [e])
  · have : p = a.length := by omega
    subst this
    rw [List.take_length] at ht
    have : decide ((a.length : Int) = b.length) = decide (a = b) := by
      apply decide_eq_decide.2
      constructor
      · intro e; rw [ht, List.take_of_length_le (by omega)]
      · intro e; rw [e]
    rw [this]
    exact hR

theorem rectolaw01_ab.ok (R : Bool → Prop) (hR : R Sp.tt) : rectolaw01_ab.vc R := by
  refine ⟨by decide, ?_, hR⟩
  show (List.append (Sp.textP [97, 98]).1 [99]).length ≤ 9223372036854775807
  decide

namespace Sp
theorem takeTexts_len : ∀ (k : Nat) (r : Str), (takeTexts k r).1.length ≤ k
  | 0, _ => Nat.le_refl _
  | k + 1, r => by
    rw [takeTexts]
    have := takeTexts_len k (takeText r).2.1
    split
    · exact Nat.zero_le _
    · split
      · exact Nat.zero_le _
      · simp; omega
theorem takeList_len (b : Str) : (takeList b).1.length ≤ 1000 := by
  unfold takeList
  split
  · exact Nat.zero_le _
  · have := takeTexts_len (takeNum b).1.toNat (takeNum b).2.1
    omega
theorem listP_len (l : List Str) : (listP l).1.length ≤ 7 + 65543 * 1000 := by
  unfold listP
  split
  · exact Nat.zero_le _
  · cases ha : anyLong l with
    | true => exact Nat.zero_le _
    | false =>
      have h1 := plain_len (n := (l.length : Int)) (by unfold maxInt; omega)
      have h2 := catB_len ha
      simp only [cond_false, List.length_append]
      omega
theorem eqL_refl (l : List Str) : eqL l l = true := decide_eq_true rfl
theorem numP_ok {n : Int} (h : (numP n).2 = 0) : 0 ≤ n ∧ n ≤ maxInt ∧ (numP n).1 = plain n := by
  unfold numP at *
  split at h
  · simp at h
  · rename_i c; rw [if_neg c]; exact ⟨by omega, by omega, rfl⟩
theorem numP_bad {n : Int} (h : ¬ (numP n).2 = 0) : n < 0 ∨ maxInt < n := by
  unfold numP at h
  split at h
  · assumption
  · simp at h
end Sp

theorem rectolaw01_long.ok (R : Bool → Prop) (l : List Str) (h : Sp.long.pre l) (hR : R (Sp.long l)) : rectolaw01_long.vc R l := by
  unfold Sp.long.pre at h
  unfold Sp.long at hR
  refine Lp_rule (fun v => ∃ (p : Nat) (n : Int), v = (n, l, (l.length : Int), (p : Int), ()) ∧ p ≤ l.length ∧ 0 ≤ n ∧ n ≤ 200000 ∧ Sp.longF p n (l.drop p) = Sp.longF 0 0 l) (fun v => l.length - v.2.2.2.1.toNat) ?_ ⟨0, 0, rfl, Nat.zero_le _, Int.le_refl _, by decide, rfl⟩
  rintro _ K ⟨p, n, rfl, hp, h0, h1, hl⟩ hK
  simp only [rectolaw01_long.L0, cond_dec, rg64, ix_iff]
  split
  · rename_i c1
    have hp' : p < l.length := by omega
    rw [drop_cons (d := []) hp', Sp.longF] at hl
    generalize nth l (p : Int) [] = s at *
    refine ⟨by omega, ?_⟩
    split
    · rw [if_pos (by omega)] at hl; rw [← hl] at hR; exact hR
    split
    · rw [if_pos (by omega)] at hl; rw [← hl] at hR; exact hR
    rw [if_neg (by omega)] at hl
    refine ⟨by omega, ?_⟩
    split
    · rename_i c; rw [if_pos c] at hl; rw [← hl] at hR; exact hR
    · rename_i c
      rw [if_neg c] at hl
      exact ⟨by omega, hK _ ⟨p + 1, _, rfl, by omega, by omega, by omega, hl⟩ (by simp; omega)⟩
  · rw [drop_end (by omega), Sp.longF] at hl
    rw [← hl] at hR; exact hR

theorem rectolaw01_begins.ok (R : Bool → Prop) (a b : Str) (hR : R (Sp.begins a b)) : rectolaw01_begins.vc R a b := by
  unfold rectolaw01_begins.vc
  unfold Sp.begins at hR
  rw [cond_dec]
  split
  · rename_i c
    rw [decide_eq_true (by omega), Bool.true_and] at hR
    refine ⟨⟨by omega, by omega, by omega⟩, ?_⟩
    unfold sub
    rw [Int.toNat_natCast]
    exact hR
  · rename_i c
    rw [decide_eq_false (by omega), Bool.false_and] at hR
    exact hR

theorem rectolaw01_QuillNums.ok (R : Bool → Prop) (b : Str) (h : Sz .str b) (hR : R Sp.tt) : rectolaw01_QuillNums.vc R b := by
  have := h.str
  refine ⟨this, this, ?_⟩
  unfold Sp.takenN
  simp only [cond_dec, if_true]
  exact hR

theorem rectolaw01_QuillTexts.ok (R : Bool → Prop) (b : Str) (h : Sz .str b) (hR : R Sp.tt) : rectolaw01_QuillTexts.vc R b := by
  have := h.str
  unfold rectolaw01_QuillTexts.vc
  rw [cond_dec]
  split
  · exact hR
  refine ⟨this, this, this, this, ?_⟩
  have hl := Sp.takeList_len b
  unfold Sp.takenT Sp.takenL
  simp only [cond_dec, if_true, Sp.eqL_refl, cond_true]
  exact ⟨by unfold Sp.eqL.pre; omega, hR⟩

theorem rectolaw01_QuillPuts.ok (R : Bool → Prop) (n : Int) (s : Str) (l : List Str) (h : Sz (.int .i64) n ∧ Sz .str s ∧ Sz (.sl .str) l) (hR : R Sp.tt) : rectolaw01_QuillPuts.vc R n s l := by
  have hl : l.length ≤ 9223372036854775807 := h.2.2.sl
  refine ⟨hl, ?_⟩
  refine condP (fun _ => hR) fun _ => ?_
  rw [cond_dec]
  split
  · exact hR
  simp only [cond_dec, if_true]
  exact ⟨hl, hl, hR⟩

theorem rectolaw01_QuillBack.ok (R : Bool → Prop) (n : Int) (l : List Str) (t : Str) (h : Sz (.int .i64) n ∧ Sz (.sl .str) l ∧ Sz .str t) (hR : R Sp.tt) : rectolaw01_QuillBack.vc R n l t := by
  have hl : l.length ≤ 9223372036854775807 := h.2.1.sl
  refine ⟨hl, ?_⟩
  refine condP (fun _ => hR) fun _ => ?_
  rw [cond_dec]
  split
  · exact hR
  rename_i c1
  have two : Sp.listP.pre l ∧
                      bif decide ((Sp.listP l).snd = 0) then
                        (((Sp.listP l).fst.length : Nat) : Int) + ((List.length t : Nat) : Int) ≤ 9223372036854775807 ∧
                          Sp.takeList.pre ((Sp.listP l).fst ++ t) ∧
                            bif !decide ((Sp.takeList ((Sp.listP l).fst ++ t)).snd.snd = 0) then R false
                            else
                              Sp.eqL.pre (Sp.takeList ((Sp.listP l).fst ++ t)).fst l ∧
                                bif !Sp.eqL (Sp.takeList ((Sp.listP l).fst ++ t)).fst l then R false
                                else bif !decide ((Sp.takeList ((Sp.listP l).fst ++ t)).snd.fst = t) then R false else R Sp.tt
                      else R Sp.tt := by
    refine ⟨hl, ?_⟩
    have hll := Sp.listP_len l
    rw [cond_dec]
    split
    · rename_i c2
      rw [Sp.takeList_listP c2 t, Sp.eqL_refl]
      simp only [decide_true, Bool.not_true, cond_false]
      refine ⟨by omega, ?_, hl, hR⟩
      unfold Sp.takeList.pre
      rw [List.length_append]; omega
    · exact hR
  rw [cond_dec]
  split
  · rename_i c2
    obtain ⟨h0, h1, h2⟩ := Sp.numP_ok c2
    have hp := Sp.plain_len h1
    rw [h2, Sp.takeNum_plain h0 h1 t]
    simp only [decide_true, Bool.not_true, cond_false]
    refine ⟨by omega, ?_, two⟩
    unfold Sp.takeNum.pre
    rw [List.length_append]; omega
  · exact two

theorem rectolaw01_QuillApart.ok (R : Bool → Prop) (a b : List Str) (h : Sz (.sl .str) a ∧ Sz (.sl .str) b) (hR : R Sp.tt) : rectolaw01_QuillApart.vc R a b := by
  have ha : a.length ≤ 9223372036854775807 := h.1.sl
  have hb : b.length ≤ 9223372036854775807 := h.2.sl
  refine ⟨ha, ?_⟩
  refine condP (fun _ => hR) fun _ => ?_
  refine ⟨hb, ?_⟩
  refine condP (fun _ => hR) fun _ => ?_
  refine ⟨ha, hb, ?_⟩
  rw [cond_ndec, cond_ndec]
  split
  case isFalse => exact hR
  rename_i c1
  split
  case isFalse => exact hR
  rename_i c2
  have key (x y : List Str) (hx : (Sp.listP x).2 = 0) (hy : (Sp.listP y).2 = 0) (hb : Sp.begins (Sp.listP x).1 (Sp.listP y).1 = true) : x = y := by
    obtain ⟨t, ht⟩ := Sp.begins_iff.1 hb
    have h1 := Sp.takeList_listP hx []
    rw [List.append_nil, ht, Sp.takeList_listP hy t] at h1
    exact (congrArg (·.1) h1).symm
  refine condP (fun hc => ?_) fun hc => ?_
  · have := key a b c1 c2 hc
    subst this
    rw [Sp.eqL_refl]
    exact ⟨ha, hR⟩
  · refine ⟨ha, ?_⟩
    have : Sp.begins (Sp.listP b).1 (Sp.listP a).1 = Sp.eqL a b := by
      cases hd : Sp.begins (Sp.listP b).1 (Sp.listP a).1 with
      | true =>
        have := key b a c2 c1 hd
        subst this
        exact (Sp.eqL_refl _).symm
      | false =>
        symm
        apply decide_eq_false
        rintro rfl
        have : Sp.begins (Sp.listP a).1 (Sp.listP a).1 = true := Sp.begins_iff.2 ⟨[], by simp⟩
        rw [this] at hc; cases hc
    rw [this]
    cases Sp.eqL a b <;> exact hR

namespace Sp
theorem less_val : ∀ (a b : Str), a.length = b.length → ∀ (x y : Int), x < y → val x a < val y b
  | [], [], _, x, y, h => h
  | p :: a, q :: b, hl, x, y, h => by
    have h1 := p.toNat_lt
    have h2 := q.toNat_lt
    exact less_val a b (by simpa using hl) _ _ (by omega)
theorem less_iff : ∀ (a b : Str), a.length = b.length → ∀ (x : Int), Op.bytesLess a b = true ↔ val x a < val x b
  | [], [], _, x => by simp [Op.bytesLess, val]
  | p :: a, q :: b, hl, x => by
    have hl' : a.length = b.length := by simpa using hl
    have e1 : val x (p :: a) = val (x * 256 + p.toNat) a := rfl
    have e2 : val x (q :: b) = val (x * 256 + q.toNat) b := rfl
    have e3 : Op.bytesLess (p :: a) (q :: b) = (decide (p < q) || (p == q && Op.bytesLess a b)) := rfl
    rw [e1, e2, e3]
    by_cases h1 : p < q
    · have := less_val a b hl' (x * 256 + p.toNat) (x * 256 + q.toNat) (by have := UInt8.lt_iff_toNat_lt.1 h1; omega)
      simp [h1, this]
    · by_cases h2 : p = q
      · subst h2
        have := less_iff a b hl' (x * 256 + p.toNat)
        simp only [h1, decide_false, Bool.false_or, beq_self_eq_true, Bool.true_and]
        exact this
      · have h3 : q.toNat < p.toNat := by
          have : ¬ p.toNat = q.toNat := fun e => h2 (UInt8.toNat_inj.1 e)
          have h4 : ¬ p.toNat < q.toNat := fun h => h1 (UInt8.lt_iff_toNat_lt.2 h)
          omega
        have := less_val b a hl'.symm (x * 256 + q.toNat) (x * 256 + p.toNat) (by omega)
        simp only [h1, h2, decide_false, Bool.false_or, beq_eq_false_iff_ne.2 h2, Bool.false_and, Bool.false_eq_true, false_iff]
        exact Int.not_lt.2 (Int.le_of_lt this)
theorem less_plain {n m : Int} (h0 : 0 ≤ n) (h1 : n ≤ maxInt) (h2 : 0 ≤ m) (h3 : m ≤ maxInt) : Op.bytesLess (plain n) (plain m) = decide (n < m) := by
  have l1 := digs_len h1
  have l2 := digs_len h3
  have b1 := byte_nat (n := ((digs n).length : Int)) (by omega) (by omega)
  have b2 := byte_nat (n := ((digs m).length : Int)) (by omega) (by omega)
  unfold plain
  rw [Op.bytesLess]
  by_cases hl : (digs n).length = (digs m).length
  · have hi := less_iff _ _ hl 0
    rw [digs_val _ n (Nat.le_refl _) h0 h1, digs_val _ m (Nat.le_refl _) h2 h3] at hi
    rw [hl]
    have : Op.bytesLess (digs n) (digs m) = decide (n < m) := by
      cases hb : Op.bytesLess (digs n) (digs m) with
      | true => exact (decide_eq_true (hi.1 hb)).symm
      | false => exact (decide_eq_false (fun h => by rw [hi.2 h] at hb; cases hb)).symm
    rw [this]
    simp
  · by_cases hlt : (digs n).length < (digs m).length
    · have : n < m := by
        rcases Int.lt_or_le n m with h | h
        · exact h
        · have := digs_mono _ m n (Nat.le_refl _) h h1; omega
      have hb : byte ((digs n).length : Int) < byte ((digs m).length : Int) := UInt8.lt_iff_toNat_lt.2 (by omega)
      simp [hb, this]
    · have : ¬ n < m := by
        intro h
        have := digs_mono _ n m (Nat.le_refl _) (by omega) h3; omega
      have hb : ¬ byte ((digs n).length : Int) < byte ((digs m).length : Int) := fun h => by have := UInt8.lt_iff_toNat_lt.1 h; omega
      have hne : ¬ byte ((digs n).length : Int) = byte ((digs m).length : Int) := fun h => by rw [h] at b1; omega
      simp [hb, hne, this]
end Sp

theorem rectolaw01_QuillSizes.ok (R : Bool → Prop) (n m : Int) (_ : Sz (.int .i64) n ∧ Sz (.int .i64) m) (hR : R Sp.tt) : rectolaw01_QuillSizes.vc R n m := by
  unfold rectolaw01_QuillSizes.vc
  simp only [cond_dec, cond_ndec]
  by_cases c1 : (Sp.numP n).2 = 0
  · rw [if_pos c1]
    by_cases c2 : (Sp.numP m).2 = 0
    · rw [if_pos c2]
      obtain ⟨a0, a1, a2⟩ := Sp.numP_ok c1
      obtain ⟨b0, b1, b2⟩ := Sp.numP_ok c2
      have la := Sp.digs_len a1
      have pl : (Sp.plain n).length = 1 + (Sp.digs n).length := by unfold Sp.plain; simp; omega
      have pm : (Sp.plain m).length = 1 + (Sp.digs m).length := by unfold Sp.plain; simp; omega
      have eb (x : Bool) : eqB x x = true := by cases x <;> rfl
      rw [a2, b2, if_pos (by omega), Sp.less_plain a0 a1 b0 b1, eb]
      refine ⟨a1, by unfold Sp.sizeN; rw [rg64]; omega, ?_⟩
      rw [if_pos (by unfold Sp.sizeN; omega)]
      split
      · exact hR
      · rename_i c3
        have := Sp.digs_mono _ n m (Nat.le_refl _) (by omega) b1
        rw [if_pos (by omega)]
        exact hR
    · rw [if_neg c2]
      have := Sp.numP_bad c2
      unfold Sp.maxInt at this
      split
      · exact hR
      split
      · exact hR
      split
      · exact hR
      rw [if_pos (by omega)]; exact hR
  · rw [if_neg c1]
    have := Sp.numP_bad c1
    unfold Sp.maxInt at this
    split
    · exact hR
    rw [if_pos (by omega)]; exact hR
