/- Nodes as texts: what is told, shown of the conditions: texts. Plain theorems. -/
import Derived.Test.YtmciagbogdlcoaaDoorVcH
import Derived.Test.YtmciagbogdlcoaaDoorPlP
import Derived.Lib.ReplaceLaws
import Derived.Lib.Repeat
import Derived.Lib.CountLaws
set_option linter.unnecessarySimpa false
set_option linter.unusedVariables false
set_option linter.unusedSectionVars false
set_option linter.unusedSimpArgs false
set_option autoImplicit false
open Go Vi

namespace Sp
/-! ### Every instance of a text, from the left -/
theorem idx_hit {old : Str} {b : UInt8} {t : Str} (h : old.isPrefixOf (b :: t) = true) : Lib.index (b :: t) old = 0 := by
  unfold Lib.index; rw [if_pos h]
theorem repA_ne {s old new : Str} (h : old ≠ new) : repA s old new = Lib.replaceK old new (Lib.count s old) s := by
  unfold repA Lib.replaceAll Lib.replace
  rw [if_neg (by simpa using h)]
  unfold Lib.replaceNum
  rw [if_pos (.inl (by decide))]
theorem repA_nil {old new : Str} (h : old ≠ new) (h0 : old ≠ []) : repA [] old new = [] := by
  rw [repA_ne h, Lib.count_miss (by cases old with | nil => exact absurd rfl h0 | cons x l => rfl)]
  rfl
theorem repA_hit {old new : Str} {b : UInt8} {t : Str} (h : old ≠ new) (h0 : old ≠ []) (hp : old.isPrefixOf (b :: t) = true) : repA (b :: t) old new = new ++ repA ((b :: t).drop old.length) old new := by
  have hi := idx_hit hp
  rw [repA_ne h, repA_ne h, Lib.count_hit (i := 0) h0 hi, Nat.zero_add, Nat.add_comm, Lib.replaceK_hit _ _ _ _ 0 hi, Nat.zero_add]
  rfl
theorem repA_miss {old new : Str} {b : UInt8} {t : Str} (h : old ≠ new) (h0 : old ≠ []) (hp : old.isPrefixOf (b :: t) = false) : repA (b :: t) old new = b :: repA t old new := by
  have hi : Lib.index (b :: t) old = if Lib.index t old == -1 then -1 else Lib.index t old + 1 := by
    rw [Lib.index, hp]; rfl
  have hge := Lib.index_ge t old
  rw [repA_ne h, repA_ne h]
  by_cases hm : Lib.index t old = -1
  · rw [hm] at hi
    have hi : Lib.index (b :: t) old = -1 := hi
    rw [Lib.count_miss hi, Lib.count_miss hm]
    rfl
  · obtain ⟨i, hk⟩ : ∃ i : Nat, Lib.index t old = i := ⟨(Lib.index t old).toNat, by omega⟩
    have hi2 : Lib.index (b :: t) old = (i + 1 : Nat) := by
      rw [hi, hk, if_neg (by intro e; have := beq_iff_eq.1 e; omega)]
      rfl
    rw [Lib.count_hit h0 hi2, Lib.count_hit h0 hk, Nat.add_comm 1, Nat.add_comm 1, Lib.replaceK_hit _ _ _ _ _ hi2, Lib.replaceK_hit _ _ _ _ _ hk]
    rw [show i + 1 + old.length = (i + old.length) + 1 by omega, List.drop_succ_cons]
    rfl
theorem repA_len0 {old new : Str} (h : old ≠ new) (h0 : 1 ≤ old.length) (h1 : new.length ≤ 1000) : ∀ (k : Nat) (s : Str), s.length ≤ k → (repA s old new).length ≤ 1000 * s.length
  | _, [], _ => by rw [repA_nil h (fun e => by subst e; simp at h0)]; exact Nat.zero_le _
  | 0, _ :: _, hk => absurd hk (by simp)
  | k + 1, b :: t, hk => by
    have hne : old ≠ [] := fun e => by subst e; simp at h0
    simp only [List.length_cons] at hk
    cases hp : old.isPrefixOf (b :: t) with
    | true =>
      rw [repA_hit h hne hp, List.length_append]
      have hl : ((b :: t).drop old.length).length ≤ t.length := by rw [List.length_drop, List.length_cons]; omega
      have := repA_len0 h h0 h1 k _ (Nat.le_trans hl (by omega))
      rw [List.length_cons]
      omega
    | false =>
      rw [repA_miss h hne hp, List.length_cons, List.length_cons]
      have := repA_len0 h h0 h1 k t (by omega)
      omega
theorem repA_len {s old new : Str} (h : repA.pre s old new) : (repA s old new).length ≤ maxLen := by
  obtain ⟨h1, h2, h3⟩ := h
  simp only [maxLen]
  by_cases e : old = new
  · subst e
    unfold repA Lib.replaceAll Lib.replace
    rw [if_pos (by simp)]
    omega
  · have := repA_len0 e h2 h3 _ s (Nat.le_refl _)
    omega
/-- One byte for another text. -/
def rep1 (c : UInt8) (new s : Str) : Str := s.flatMap fun b => if b = c then new else [b]
theorem rep1_app (c : UInt8) (new x y : Str) : rep1 c new (x ++ y) = rep1 c new x ++ rep1 c new y := by unfold rep1; rw [List.flatMap_append]
theorem rep1_cons (c : UInt8) (new : Str) (b : UInt8) (t : Str) : rep1 c new (b :: t) = (if b = c then new else [b]) ++ rep1 c new t := by unfold rep1; rw [List.flatMap_cons]
theorem repA_one {c : UInt8} {new : Str} (h : [c] ≠ new) : ∀ s : Str, repA s [c] new = rep1 c new s
  | [] => repA_nil h (by simp)
  | b :: t => by
    rw [rep1_cons, ← repA_one h t]
    by_cases e : b = c
    · subst e
      rw [repA_hit h (by simp) (by simp [List.isPrefixOf]), if_pos rfl]
      rfl
    · rw [repA_miss h (by simp) (by simp [List.isPrefixOf]; exact fun e2 => e e2.symm), if_neg e]
      rfl
theorem rep1_len {c : UInt8} {new : Str} {k : Nat} (h : new.length ≤ k) (h1 : 1 ≤ k) : ∀ s : Str, (rep1 c new s).length ≤ k * s.length
  | [] => Nat.zero_le _
  | b :: t => by
    have := rep1_len (c := c) h h1 t
    rw [rep1_cons, List.length_append, List.length_cons, Nat.mul_succ]
    split
    · omega
    · simp only [List.length_cons, List.length_nil]; omega

abbrev amp : Str := [38, 97, 109, 112, 59]
abbrev nbsp : Str := [38, 110, 98, 115, 112, 59]
abbrev R2 (s : Str) : Str := repA s [194, 160] nbsp
def a1 (b : UInt8) : Str := if b = 38 then amp else [b]
def escA : Str → Str
  | [] => []
  | [b] => a1 b
  | b :: c :: t => if b = 194 ∧ c = 160 then nbsp ++ escA t else a1 b ++ escA (c :: t)
theorem R2_ne {b : UInt8} {t : Str} (h : b ≠ 194) : R2 (b :: t) = b :: R2 t :=
  repA_miss (by decide) (by decide) (by simp [List.isPrefixOf]; exact fun e => absurd e.symm h)
theorem R2_amp (t : Str) : R2 (amp ++ t) = amp ++ R2 t := by
  show R2 (38 :: 97 :: 109 :: 112 :: 59 :: t) = 38 :: 97 :: 109 :: 112 :: 59 :: R2 t
  rw [R2_ne (by decide), R2_ne (by decide), R2_ne (by decide), R2_ne (by decide), R2_ne (by decide)]
theorem head1 (c : UInt8) (t : Str) : ∃ d r, rep1 38 amp (c :: t) = d :: r ∧ (d = 160 ↔ c = 160) := by
  rw [rep1_cons]
  by_cases e : c = 38
  · subst e; exact ⟨38, _, rfl, by decide⟩
  · rw [if_neg e]; exact ⟨c, _, rfl, Iff.rfl⟩
theorem escA_eq : ∀ s : Str, R2 (rep1 38 amp s) = escA s
  | [] => repA_nil (by decide) (by decide)
  | [b] => by
    rw [rep1_cons, escA]
    unfold a1
    by_cases e : b = 38
    · rw [if_pos e, R2_amp]
      show amp ++ R2 [] = amp
      rw [R2, repA_nil (by decide) (by decide), List.append_nil]
    · rw [if_neg e]
      show R2 [b] = [b]
      rw [R2, repA_miss (by decide) (by decide) (by simp [List.isPrefixOf]), repA_nil (by decide) (by decide)]
  | b :: c :: t => by
    rw [escA]
    by_cases e : b = 194 ∧ c = 160
    · rw [if_pos e]
      obtain ⟨rfl, rfl⟩ := e
      rw [rep1_cons, rep1_cons, if_neg (by decide), if_neg (by decide)]
      show R2 (194 :: 160 :: rep1 38 amp t) = _
      rw [R2, repA_hit (by decide) (by decide) (by simp [List.isPrefixOf])]
      show nbsp ++ R2 (rep1 38 amp t) = _
      rw [escA_eq t]
    · rw [if_neg e, ← escA_eq (c :: t), rep1_cons]
      unfold a1
      by_cases e2 : b = 38
      · rw [if_pos e2, R2_amp]
      · rw [if_neg e2]
        show R2 (b :: rep1 38 amp (c :: t)) = b :: R2 (rep1 38 amp (c :: t))
        obtain ⟨d, r, h1, h2⟩ := head1 c t
        rw [h1]
        refine repA_miss (by decide) (by decide) ?_
        simp only [List.isPrefixOf, Bool.and_true, Bool.and_eq_false_iff, beq_eq_false_iff_ne]
        by_cases e3 : b = 194
        · right; intro h; exact e ⟨e3, h2.1 h.symm⟩
        · left; exact fun h => e3 h.symm
abbrev g60 (s : Str) : Str := rep1 60 [38, 108, 116, 59] s
abbrev g62 (s : Str) : Str := rep1 62 [38, 103, 116, 59] s
def gv (v : Bool) (s : Str) : Str := if v = true then rep1 34 [38, 113, 117, 111, 116, 59] s else s
def gA (v : Bool) (s : Str) : Str := gv v (g62 (g60 s))
theorem gA_app (v : Bool) (x y : Str) : gA v (x ++ y) = gA v x ++ gA v y := by
  unfold gA gv g62 g60
  cases v
  · simp only [Bool.false_eq_true, if_false, rep1_app]
  · simp only [if_true, rep1_app]
theorem gA_nbsp (v : Bool) : gA v nbsp = nbsp := by cases v <;> rfl
theorem rep1_self (c b : UInt8) (new : Str) : rep1 c new [b] = if b = c then new else [b] := by rw [rep1_cons]; simp [rep1]
theorem gA_a1 (v : Bool) (b : UInt8) : gA v (a1 b) = e1 v b := by
  unfold a1 e1
  by_cases h1 : b = 38
  · rw [if_pos h1, if_pos h1]; cases v <;> rfl
  rw [if_neg h1, if_neg h1]
  by_cases h2 : b = 60
  · rw [if_pos h2]; subst h2; cases v <;> rfl
  rw [if_neg h2]
  by_cases h3 : b = 62
  · rw [if_pos h3]; subst h3; cases v <;> rfl
  rw [if_neg h3]
  unfold gA gv g62 g60
  rw [rep1_self, if_neg h2, rep1_self, if_neg h3]
  cases v
  · simp
  · rw [if_pos rfl, rep1_self]
    simp
theorem gA_esc (v : Bool) : ∀ s : Str, gA v (escA s) = esc v s
  | [] => by cases v <;> rfl
  | [b] => gA_a1 v b
  | b :: c :: t => by
    rw [escA, esc]
    by_cases e : b = 194 ∧ c = 160
    · rw [if_pos e, if_pos e, gA_app, gA_nbsp, gA_esc v t]
    · rw [if_neg e, if_neg e, gA_app, gA_a1, gA_esc v (c :: t)]
theorem e1_len (v : Bool) (b : UInt8) : (e1 v b).length ≤ 6 := by
  unfold e1
  split
  · decide
  split
  · decide
  split
  · decide
  split
  · decide
  · exact (by decide : 1 ≤ 6)
theorem esc_len (v : Bool) : ∀ s : Str, (esc v s).length ≤ 6 * s.length
  | [] => Nat.zero_le _
  | [b] => by have := e1_len v b; simp only [esc, List.length_cons, List.length_nil]; omega
  | b :: c :: t => by
    rw [esc]
    have h1 := esc_len v t
    have h2 := esc_len v (c :: t)
    have h3 := e1_len v b
    split <;> rw [List.length_append] <;> simp only [List.length_cons, List.length_nil] at * <;> omega
theorem a1_len (b : UInt8) : (a1 b).length ≤ 5 := by
  unfold a1
  split
  · decide
  · exact (by decide : 1 ≤ 5)
theorem escA_len : ∀ s : Str, (escA s).length ≤ 5 * s.length
  | [] => Nat.zero_le _
  | [b] => by
    have : (a1 b).length ≤ 5 := a1_len b
    simp only [escA, List.length_cons, List.length_nil]; omega
  | b :: c :: t => by
    rw [escA]
    have h1 := escA_len t
    have h2 := escA_len (c :: t)
    have h3 := a1_len b
    split <;> rw [List.length_append] <;> simp only [List.length_cons, List.length_nil] at * <;> omega
theorem bytes160 : bytesC 160 = [194, 160] := by decide
theorem escS_len {s : Str} {v : Bool} : (escS s v).length ≤ 6 * s.length := esc_len v s

/-! ### Bits -/
theorem or_add {a j x : Nat} (hx : x < 2 ^ j) (h : 2 ^ j * a + x < 4294967296) : bitsO .or .i64 ((2 ^ j * a : Nat) : Int) (x : Int) = ((2 ^ j * a + x : Nat) : Int) := by
  have h0 : 2 ^ j * a < 4294967296 := by omega
  have h9 : x < 4294967296 := by omega
  have e3 := (Nat.two_pow_add_eq_or_of_lt hx a).symm
  generalize 2 ^ j * a = m at *
  have e1 : (BitVec.ofInt 64 (m : Int)).toNat = m := by rw [BitVec.toNat_ofInt]; omega
  have e2 : (BitVec.ofInt 64 (x : Int)).toNat = x := by rw [BitVec.toNat_ofInt]; omega
  have e4 : bitsO .or .i64 (m : Int) (x : Int) = IntKind.i64.wrap (((BitVec.ofInt 64 (m : Int) ||| BitVec.ofInt 64 (x : Int)).toNat : Nat) : Int) := rfl
  rw [e4, BitVec.toNat_or, e1, e2, e3, wrap_in]
  · rw [show IntKind.i64.min = -9223372036854775808 from rfl, show IntKind.i64.max = 9223372036854775807 from rfl]
    omega
theorem and63 {c : Nat} (h : c < 4294967296) : bitsO .and .i64 (c : Int) 63 = ((c % 64 : Nat) : Int) := by
  have e1 : (BitVec.ofInt 64 (c : Int)).toNat = c := by rw [BitVec.toNat_ofInt]; omega
  have e2 : (BitVec.ofInt 64 (63 : Int)).toNat = 63 := by decide
  have e3 : c &&& 63 = c % 64 := Nat.and_two_pow_sub_one_eq_mod c 6
  have e4 : bitsO .and .i64 (c : Int) 63 = IntKind.i64.wrap (((BitVec.ofInt 64 (c : Int) &&& BitVec.ofInt 64 (63 : Int)).toNat : Nat) : Int) := rfl
  rw [e4, BitVec.toNat_and, e1, e2, e3, wrap_in]
  · rw [show IntKind.i64.min = -9223372036854775808 from rfl, show IntKind.i64.max = 9223372036854775807 from rfl]
    omega
theorem wrap8 {x : Nat} (h : x < 256) : IntKind.u8.wrap (x : Int) = x := by
  rw [wrap_in]
  rw [show IntKind.u8.min = 0 from rfl, show IntKind.u8.max = 255 from rfl]
  omega
/-- A byte that goes on. -/
theorem low_eq {c : Nat} (h : c < 4294967296) : IntKind.u8.wrap (bitsO .or .i64 128 (bitsO .and .i64 (c : Int) 63)) = 128 + (c : Int) % 64 := by
  rw [and63 h]
  have := or_add (a := 2) (j := 6) (x := c % 64) (by omega) (by omega)
  rw [show (2 ^ 6 * 2 : Nat) = 128 from rfl] at this
  rw [show (128 : Int) = ((128 : Nat) : Int) from rfl, this, wrap8 (by omega)]
  omega
theorem top_eq {a j c : Nat} (hx : c < 2 ^ j) (h : 2 ^ j * a + c < 256) : IntKind.u8.wrap (bitsO .or .i64 ((2 ^ j * a : Nat) : Int) (c : Int)) = ((2 ^ j * a + c : Nat) : Int) := by
  rw [or_add hx (by omega), wrap8 h]
end Sp

namespace Sp
theorem isC_eq (c : Int) : isC c = decide (0 ≤ c ∧ c < 1114112 ∧ (c < 55296 ∨ 57343 < c)) := by
  unfold isC
  rw [decide_eq_decide]
  omega
end Sp
theorem utf_is.ok (R : Bool → Prop) (c : Int) (hR : R (Sp.isC c)) : utf_is.vc R c := by
  unfold utf_is.vc
  rw [Sp.isC_eq] at hR
  simp only [cond_dec]
  split
  · split
    · split
      · rwa [decide_eq_true (by omega)] at hR
      · rename_i h1 h2 h3
        have e : decide (0 ≤ c ∧ c < 1114112 ∧ (c < 55296 ∨ 57343 < c)) = decide (57343 < c) := by
          rw [decide_eq_decide]; omega
        rwa [e] at hR
    · rwa [decide_eq_false (by omega)] at hR
  · rwa [decide_eq_false (by omega)] at hR
theorem ixd {i : Int} {n : Nat} (h : decide (0 ≤ i ∧ i < (n : Int)) = true) : Ix i n := of_decide_eq_true (p := 0 ≤ i ∧ i < (n : Int)) h
theorem rgd {z : Int} (h : decide (-9223372036854775808 ≤ z ∧ z ≤ 9223372036854775807) = true) : Rg .i64 z := of_decide_eq_true (p := -9223372036854775808 ≤ z ∧ z ≤ 9223372036854775807) h
theorem mkd {a b : Int} {k : Nat} (h : decide (a = b ∧ 0 ≤ a ∧ a * k ≤ 140737488351232) = true) : Mk a b k := of_decide_eq_true (p := a = b ∧ 0 ≤ a ∧ a * k ≤ 140737488351232) h
theorem utf_size.ok (R : Int → Prop) (c : Int) (h : Sp.sizeC.pre c) (hR : R (Sp.sizeC c)) : utf_size.vc R c := by
  unfold Sp.sizeC.pre at h
  unfold Sp.sizeC at hR
  by_cases c1 : 65536 ≤ c
  · rw [if_neg (by omega), if_neg (by omega), if_neg (by omega)] at hR
    refine ⟨1, ?_⟩
    show utf_size.L0 R c 4 _
    unfold utf_size.L0
    refine ⟨by first | exact ixd rfl | exact rgd rfl | exact mkd rfl | decide, ?_⟩
    rw [cond_dec, if_neg (by show ¬ c < 65536; omega)]
    exact hR
  by_cases c2 : 2048 ≤ c
  · rw [if_neg (by omega), if_neg (by omega), if_pos (by omega)] at hR
    refine ⟨2, ?_⟩
    show utf_size.L0 R c 4 _
    unfold utf_size.L0
    refine ⟨by first | exact ixd rfl | exact rgd rfl | exact mkd rfl | decide, ?_⟩
    rw [cond_dec, if_pos (by show c < 65536; omega)]
    refine ⟨by first | exact ixd rfl | exact rgd rfl | exact mkd rfl | decide, ?_⟩
    show utf_size.L0 R c 3 _
    unfold utf_size.L0
    refine ⟨by first | exact ixd rfl | exact rgd rfl | exact mkd rfl | decide, ?_⟩
    rw [cond_dec, if_neg (by show ¬ c < 2048; omega)]
    exact hR
  by_cases c3 : 128 ≤ c
  · rw [if_neg (by omega), if_pos (by omega)] at hR
    refine ⟨3, ?_⟩
    show utf_size.L0 R c 4 _
    unfold utf_size.L0
    refine ⟨by first | exact ixd rfl | exact rgd rfl | exact mkd rfl | decide, ?_⟩
    rw [cond_dec, if_pos (by show c < 65536; omega)]
    refine ⟨by first | exact ixd rfl | exact rgd rfl | exact mkd rfl | decide, ?_⟩
    show utf_size.L0 R c 3 _
    unfold utf_size.L0
    refine ⟨by first | exact ixd rfl | exact rgd rfl | exact mkd rfl | decide, ?_⟩
    rw [cond_dec, if_pos (by show c < 2048; omega)]
    refine ⟨by first | exact ixd rfl | exact rgd rfl | exact mkd rfl | decide, ?_⟩
    show utf_size.L0 R c 2 _
    unfold utf_size.L0
    refine ⟨by first | exact ixd rfl | exact rgd rfl | exact mkd rfl | decide, ?_⟩
    rw [cond_dec, if_neg (by show ¬ c < 128; omega)]
    exact hR
  · rw [if_pos (by omega)] at hR
    refine ⟨4, ?_⟩
    show utf_size.L0 R c 4 _
    unfold utf_size.L0
    refine ⟨by first | exact ixd rfl | exact rgd rfl | exact mkd rfl | decide, ?_⟩
    rw [cond_dec, if_pos (by show c < 65536; omega)]
    refine ⟨by first | exact ixd rfl | exact rgd rfl | exact mkd rfl | decide, ?_⟩
    show utf_size.L0 R c 3 _
    unfold utf_size.L0
    refine ⟨by first | exact ixd rfl | exact rgd rfl | exact mkd rfl | decide, ?_⟩
    rw [cond_dec, if_pos (by show c < 2048; omega)]
    refine ⟨by first | exact ixd rfl | exact rgd rfl | exact mkd rfl | decide, ?_⟩
    show utf_size.L0 R c 2 _
    unfold utf_size.L0
    refine ⟨by first | exact ixd rfl | exact rgd rfl | exact mkd rfl | decide, ?_⟩
    rw [cond_dec, if_pos (by show c < 128; omega)]
    refine ⟨by first | exact ixd rfl | exact rgd rfl | exact mkd rfl | decide, ?_⟩
    show utf_size.L0 R c 1 _
    unfold utf_size.L0
    refine ⟨by first | exact ixd rfl | exact rgd rfl | exact mkd rfl | decide, ?_⟩
    rw [cond_dec, if_neg (by show ¬ c < 0; omega)]
    exact hR

theorem bytes_core (R : List UInt8 → Prop) (c : Nat) (hc : c < 1114112) (hR : R (Sp.encC c)) :
    Sp.sizeC.pre c ∧ Mk (Sp.sizeC c) (Sp.sizeC c) 1 ∧ Rg IntKind.i64 (Sp.sizeC c - 1) ∧
      Lp (fun v K => utf_Bytes.L0 R v.fst v.snd.fst v.snd.snd.fst v.snd.snd.snd.fst K) ((c : Int), Sp.sizeC c, Sp.sizeC c - 1, rep (Sp.sizeC c) 0, ()) := by
  unfold Sp.encC at hR
  have hlow : ∀ x : Nat, x < 4294967296 → IntKind.u8.wrap (bitsO BinOp.or IntKind.i64 128 (bitsO BinOp.and IntKind.i64 (x : Int) 63)) = 128 + (x : Int) % 64 := fun x hx => Sp.low_eq hx
  have hd : ∀ x : Nat, (x : Int) / 2 ^ 6 = ((x / 64 : Nat) : Int) := fun x => by
    rw [show (2 : Int) ^ 6 = 64 from rfl]; omega
  have sh : Shf 6 .i64 := ⟨by decide, by decide⟩
  by_cases c1 : c < 128
  · have hs : Sp.sizeC c = 1 := by unfold Sp.sizeC; rw [if_pos (by omega)]
    rw [if_pos (by omega)] at hR
    rw [hs]
    refine ⟨by unfold Sp.sizeC.pre; omega, by first | exact ixd rfl | exact rgd rfl | exact mkd rfl | decide, by first | exact ixd rfl | exact rgd rfl | exact mkd rfl | decide, 1, ?_⟩
    show utf_Bytes.L0 R c 1 0 [0] _
    unfold utf_Bytes.L0
    rw [cond_dec, if_neg (by decide)]
    refine ⟨by first | exact ixd rfl | exact rgd rfl | exact mkd rfl | decide, by first | exact ixd rfl | exact rgd rfl | exact mkd rfl | decide, ?_⟩
    have := Sp.top_eq (a := 0) (j := 7) (c := c) (by omega) (by omega)
    rw [show (nth utfRows 1 (0, 0)).fst = ((2 ^ 7 * 0 : Nat) : Int) from rfl, this]
    refine cast (congrArg R ?_) hR
    simp [bytesOf, Sp.b8]
  by_cases c2 : c < 2048
  · have hs : Sp.sizeC c = 2 := by unfold Sp.sizeC; rw [if_neg (by omega), if_pos (by omega)]
    rw [if_neg (by omega), if_pos (by omega)] at hR
    rw [hs]
    refine ⟨by unfold Sp.sizeC.pre; omega, by first | exact ixd rfl | exact rgd rfl | exact mkd rfl | decide, by first | exact ixd rfl | exact rgd rfl | exact mkd rfl | decide, 2, ?_⟩
    show utf_Bytes.L0 R c 2 1 [0, 0] _
    unfold utf_Bytes.L0
    rw [cond_dec, if_pos (by decide)]
    refine ⟨by first | exact ixd rfl | exact rgd rfl | exact mkd rfl | decide, sh, by first | exact ixd rfl | exact rgd rfl | exact mkd rfl | decide, ?_⟩
    rw [hlow c (by omega), hd]
    show utf_Bytes.L0 R ((c / 64 : Nat) : Int) 2 0 [0, 128 + (c : Int) % 64] _
    unfold utf_Bytes.L0
    rw [cond_dec, if_neg (by decide)]
    refine ⟨by first | exact ixd rfl | exact rgd rfl | exact mkd rfl | decide, by first | exact ixd rfl | simp [ix_iff], ?_⟩
    have := Sp.top_eq (a := 6) (j := 5) (c := c / 64) (by omega) (by omega)
    rw [show (nth utfRows 2 (0, 0)).fst = ((2 ^ 5 * 6 : Nat) : Int) from rfl, this]
    refine cast (congrArg R ?_) hR
    simp only [bytesOf, Sp.b8, List.set, List.map]
    rfl
  by_cases c3 : c < 65536
  · have hs : Sp.sizeC c = 3 := by unfold Sp.sizeC; rw [if_neg (by omega), if_neg (by omega), if_pos (by omega)]
    rw [if_neg (by omega), if_neg (by omega), if_pos (by omega)] at hR
    rw [hs]
    refine ⟨by unfold Sp.sizeC.pre; omega, by first | exact ixd rfl | exact rgd rfl | exact mkd rfl | decide, by first | exact ixd rfl | exact rgd rfl | exact mkd rfl | decide, 3, ?_⟩
    show utf_Bytes.L0 R c 3 2 [0, 0, 0] _
    unfold utf_Bytes.L0
    rw [cond_dec, if_pos (by decide)]
    refine ⟨by first | exact ixd rfl | exact rgd rfl | exact mkd rfl | decide, sh, by first | exact ixd rfl | exact rgd rfl | exact mkd rfl | decide, ?_⟩
    rw [hlow c (by omega), hd]
    show utf_Bytes.L0 R ((c / 64 : Nat) : Int) 3 1 [0, 0, 128 + (c : Int) % 64] _
    unfold utf_Bytes.L0
    rw [cond_dec, if_pos (by decide)]
    refine ⟨by first | exact ixd rfl | simp [ix_iff], sh, by first | exact ixd rfl | exact rgd rfl | exact mkd rfl | decide, ?_⟩
    rw [hlow (c / 64) (by omega), hd]
    show utf_Bytes.L0 R ((c / 64 / 64 : Nat) : Int) 3 0 [0, 128 + ((c / 64 : Nat) : Int) % 64, 128 + (c : Int) % 64] _
    unfold utf_Bytes.L0
    rw [cond_dec, if_neg (by decide)]
    refine ⟨by first | exact ixd rfl | exact rgd rfl | exact mkd rfl | decide, by first | exact ixd rfl | simp [ix_iff], ?_⟩
    have := Sp.top_eq (a := 14) (j := 4) (c := c / 64 / 64) (by omega) (by omega)
    rw [show (nth utfRows 3 (0, 0)).fst = ((2 ^ 4 * 14 : Nat) : Int) from rfl, this]
    refine cast (congrArg R ?_) hR
    have e1 : (224 : Int) + (c : Int) / 4096 = ((2 ^ 4 * 14 + c / 64 / 64 : Nat) : Int) := by omega
    have e2 : (128 : Int) + (c : Int) / 64 % 64 = 128 + ((c / 64 : Nat) : Int) % 64 := by omega
    rw [e1, e2]
    rfl
  · have hs : Sp.sizeC c = 4 := by unfold Sp.sizeC; rw [if_neg (by omega), if_neg (by omega), if_neg (by omega)]
    rw [if_neg (by omega), if_neg (by omega), if_neg (by omega)] at hR
    rw [hs]
    refine ⟨by unfold Sp.sizeC.pre; omega, by first | exact ixd rfl | exact rgd rfl | exact mkd rfl | decide, by first | exact ixd rfl | exact rgd rfl | exact mkd rfl | decide, 4, ?_⟩
    show utf_Bytes.L0 R c 4 3 [0, 0, 0, 0] _
    unfold utf_Bytes.L0
    rw [cond_dec, if_pos (by decide)]
    refine ⟨by first | exact ixd rfl | exact rgd rfl | exact mkd rfl | decide, sh, by first | exact ixd rfl | exact rgd rfl | exact mkd rfl | decide, ?_⟩
    rw [hlow c (by omega), hd]
    show utf_Bytes.L0 R ((c / 64 : Nat) : Int) 4 2 [0, 0, 0, 128 + (c : Int) % 64] _
    unfold utf_Bytes.L0
    rw [cond_dec, if_pos (by decide)]
    refine ⟨by first | exact ixd rfl | simp [ix_iff], sh, by first | exact ixd rfl | exact rgd rfl | exact mkd rfl | decide, ?_⟩
    rw [hlow (c / 64) (by omega), hd]
    show utf_Bytes.L0 R ((c / 64 / 64 : Nat) : Int) 4 1 [0, 0, 128 + ((c / 64 : Nat) : Int) % 64, 128 + (c : Int) % 64] _
    unfold utf_Bytes.L0
    rw [cond_dec, if_pos (by decide)]
    refine ⟨by first | exact ixd rfl | simp [ix_iff], sh, by first | exact ixd rfl | exact rgd rfl | exact mkd rfl | decide, ?_⟩
    rw [hlow (c / 64 / 64) (by omega), hd]
    show utf_Bytes.L0 R ((c / 64 / 64 / 64 : Nat) : Int) 4 0 [0, 128 + ((c / 64 / 64 : Nat) : Int) % 64, 128 + ((c / 64 : Nat) : Int) % 64, 128 + (c : Int) % 64] _
    unfold utf_Bytes.L0
    rw [cond_dec, if_neg (by decide)]
    refine ⟨by first | exact ixd rfl | exact rgd rfl | exact mkd rfl | decide, by first | exact ixd rfl | simp [ix_iff], ?_⟩
    have := Sp.top_eq (a := 30) (j := 3) (c := c / 64 / 64 / 64) (by omega) (by omega)
    rw [show (nth utfRows 4 (0, 0)).fst = ((2 ^ 3 * 30 : Nat) : Int) from rfl, this]
    refine cast (congrArg R ?_) hR
    have e1 : (240 : Int) + (c : Int) / 262144 = ((2 ^ 3 * 30 + c / 64 / 64 / 64 : Nat) : Int) := by omega
    have e2 : (128 : Int) + (c : Int) / 4096 % 64 = 128 + ((c / 64 / 64 : Nat) : Int) % 64 := by omega
    have e3 : (128 : Int) + (c : Int) / 64 % 64 = 128 + ((c / 64 : Nat) : Int) % 64 := by omega
    rw [e1, e2, e3]
    rfl
theorem utf_Bytes.ok (R : List UInt8 → Prop) (c : Int) (hR : R (Sp.bytesC c)) : utf_Bytes.vc R c := by
  unfold utf_Bytes.vc
  unfold Sp.bytesC at hR
  cases h : Sp.isC c with
  | false =>
    rw [h] at hR
    exact bytes_core R 65533 (by decide) hR
  | true =>
    rw [h, if_pos rfl] at hR
    rw [Sp.isC_eq] at h
    have h := of_decide_eq_true h
    obtain ⟨n, rfl⟩ : ∃ n : Nat, c = n := ⟨c.toNat, by omega⟩
    exact bytes_core R n (by omega) hR

theorem strings_Builder_WriteString.ok (R : Int → List Int → Prop) (s : Str) (x : List Int) (h : Sp.wr.pre x s) (hR : R (s.length : Int) (Sp.wr x s)) : strings_Builder_WriteString.vc R s x := by
  unfold Sp.wr.pre at h
  exact ⟨by rw [gr_iff, List.length_map]; omega, hR⟩
theorem writer_WriteString.ok (R : Int → List Int → Prop) (s : Str) (x : List Int) (h : Sp.wr.pre x s) (hR : R (s.length : Int) (Sp.wr x s)) : writer_WriteString.vc R s x := by
  unfold Sp.wr.pre at h
  exact ⟨by rw [gr_iff, List.length_map]; omega, hR⟩
theorem writer_String.ok (R : List UInt8 → Prop) (x : List Int) (hR : R (bytesOf x)) : writer_String.vc R x := ⟨rfl, hR⟩

theorem refs_Escape.ok (R : List UInt8 → Prop) (s : Str) (value : Bool) (h : Sp.escS.pre s value) (hR : R (Sp.escS s value)) : refs_Escape.vc R s value := by
  unfold Sp.escS.pre at h
  have hR : R (Sp.gA value (Sp.escA s)) := by rw [Sp.gA_esc]; exact hR
  unfold refs_Escape.vc
  rw [Sp.bytes160, Sp.repA_one (by decide), show Sp.repA (Sp.rep1 38 [38, 97, 109, 112, 59] s) [194, 160] [38, 110, 98, 115, 112, 59] = Sp.escA s from Sp.escA_eq s, Sp.repA_one (c := 60) (by decide), Sp.repA_one (c := 62) (by decide), Sp.repA_one (c := 34) (by decide)]
  have l1 : (Sp.rep1 38 [38, 97, 109, 112, 59] s).length ≤ 5 * s.length := Sp.rep1_len (by decide) (by decide) s
  have l2 := Sp.escA_len s
  have l3 := Sp.rep1_len (c := 60) (new := [38, 108, 116, 59]) (k := 4) (by decide) (by decide) (Sp.escA s)
  have l4 := Sp.rep1_len (c := 62) (new := [38, 103, 116, 59]) (k := 4) (by decide) (by decide) (Sp.rep1 60 [38, 108, 116, 59] (Sp.escA s))
  unfold Sp.repA.pre
  refine ⟨⟨by omega, by decide, by decide⟩, ⟨by omega, by decide, by decide⟩, ⟨by omega, by decide, by decide⟩, ⟨by omega, by decide, by decide⟩, ?_⟩
  cases value with
  | true => exact ⟨⟨by omega, by decide, by decide⟩, hR⟩
  | false => exact hR

/- Nodes as texts: what is told, shown of the conditions: nodes. Plain theorems. -/

namespace Sp
theorem h_ints_len (s : Str) : (ints s).length = s.length := by simp [ints]
theorem wr_wr (x : List Int) (a b : Str) : wr (wr x a) b = wr x (a ++ b) := by unfold wr; rw [ints_app, List.append_assoc]
theorem wr_len (x : List Int) (s : Str) : (wr x s).length = x.length + s.length := by unfold wr; rw [List.length_append, h_ints_len]
theorem wr_zero (s : Str) : wr [] s = ints s := by unfold wr; rfl
theorem pkL_mem : ∀ {l : List Vi.Node} {n : Vi.Node}, pkL l → n ∈ l → pkN n
  | m :: l, n, h, hm => by
    rw [pkL] at h
    rcases List.mem_cons.1 hm with rfl | hm
    · exact h.1
    · exact pkL_mem h.2 hm
theorem pkN_eq {n : Vi.Node} (h : pkN n) : n.name.length ≤ 1000 ∧ okA n.attrs ∧ n.text.length ≤ 100000 ∧ n.kids.length ≤ 1000000 ∧ pkL n.kids := by
  cases n; rw [pkN] at h; exact h
theorem pk_open {n : Vi.Node} (h : pkN n) : openP.pre n := ⟨(pkN_eq h).1, (pkN_eq h).2.1⟩
theorem pk_shown {n : Vi.Node} (h : pkN n) : shownN.pre n := ⟨pk_open h, (pkN_eq h).2.2.1⟩
theorem attrT_len {a : Str × Str} (h : a.1.length ≤ 1000 ∧ a.2.length ≤ 10000) : (attrT a).length ≤ 61010 := by
  have := esc_len true a.2
  unfold attrT
  simp only [List.length_append, List.length_cons, List.length_nil]
  omega
theorem attrs_len {a : List (Str × Str)} (h : ∀ x, x ∈ a → x.1.length ≤ 1000 ∧ x.2.length ≤ 10000) : (a.flatMap attrT).length ≤ 61010 * a.length := by
  induction a with
  | nil => simp
  | cons x a ih =>
    have h1 := attrT_len (h x (List.mem_cons_self ..))
    have h2 := ih fun y hy => h y (List.mem_cons_of_mem _ hy)
    rw [List.flatMap_cons, List.length_append, List.length_cons]
    omega
theorem openT_len {n : Str} {a : List (Str × Str)} (h1 : n.length ≤ 1000) (h2 : okA a) : (openT n a).length ≤ 6200000 := by
  have := attrs_len h2.2
  have := h2.1
  unfold openT
  simp only [List.length_append, List.length_cons, List.length_nil]
  omega
theorem openP_len {n : Vi.Node} (h : openP.pre n) : (openP n).length ≤ 6200000 := by
  unfold openP
  split
  · exact openT_len h.1 h.2
  · exact Nat.zero_le _
mutual
theorem inN_len : ∀ (raw : Bool) (n : Vi.Node), pkN n → (inN raw n).length ≤ 10000000 * szN n
  | raw, .mk k s n a t c, h => by
    rw [pkN] at h
    obtain ⟨h1, h2, h3, _, h5⟩ := h
    have ho := openT_len h1 h2
    have he := esc_len false t
    have hk := inL_len (rawNd (.mk k s n a t c)) c h5
    rw [inN, szN]
    split
    · split
      · omega
      · simp only [List.length_append, List.length_cons, List.length_nil]; omega
    split
    · split <;> omega
    split
    · simp only [List.length_append, List.length_cons, List.length_nil]; omega
    · exact Nat.zero_le _
theorem inL_len : ∀ (raw : Bool) (l : List Vi.Node), pkL l → (inL raw l).length ≤ 10000000 * szL l
  | _, [], _ => Nat.zero_le _
  | raw, n :: l, h => by
    rw [pkL] at h
    have h1 := inN_len raw n h.1
    have h2 := inL_len raw l h.2
    rw [inL, szL, List.length_append]
    omega
end
theorem lnN_eq (ahead : Str) (n : Vi.Node) : lnN ahead n = (ahead ++ shownN n) :: lnL (ahead ++ [32]) n.kids := by cases n; rw [lnN]; rfl
mutual
theorem lnN_len : ∀ (ahead : Str) (n : Vi.Node), (lnN ahead n).length = cntN n
  | ahead, .mk k s n a t c => by rw [lnN, cntN, List.length_cons, lnL_len]
theorem lnL_len : ∀ (ahead : Str) (l : List Vi.Node), (lnL ahead l).length = cntL l
  | _, [] => rfl
  | ahead, n :: l => by rw [lnL, cntL, List.length_append, lnN_len, lnL_len]
end
mutual
theorem cntN_sz : ∀ n : Vi.Node, cntN n ≤ szN n
  | .mk _ _ _ _ _ c => by have := cntL_sz c; rw [cntN, szN]; omega
theorem cntL_sz : ∀ l : List Vi.Node, cntL l ≤ szL l
  | [] => Nat.le_refl _
  | n :: l => by have := cntN_sz n; have := cntL_sz l; rw [cntL, szL]; omega
end
theorem szL_drop (l : List Vi.Node) (q : Nat) (hq : q < l.length) : szL (l.drop q) = szN (nth l (q : Int) (Vi.Node.mk 0 0 [] [] [] [])) + szL (l.drop (q + 1)) + 1 := by
  rw [drop_cons (d := Vi.Node.mk 0 0 [] [] [] []) hq, szL]
theorem rep1_map (s : Str) : rep1 10 [32] s = flatT s := by
  unfold rep1 flatT
  induction s with
  | nil => rfl
  | cons b t ih =>
    rw [List.flatMap_cons, List.map_cons, ih]
    split <;> rfl
theorem flat_eq (s : Str) : repA s [10] [32] = flatT s := by rw [repA_one (by decide), rep1_map]
theorem flat_len (s : Str) : (flatT s).length = s.length := by unfold flatT; rw [List.length_map]
theorem shown_len {n : Vi.Node} (h : shownN.pre n) : (shownN n).length ≤ 6200000 := by
  unfold shownN
  have := h.2
  split
  · exact openT_len h.1.1 h.1.2
  split
  · rw [flat_len]; omega
  · exact Nat.zero_le _
theorem repS_lib (s : Str) (k : Nat) : Lib.repeatL s k = repS s k := by
  unfold repS
  rw [Int.toNat_natCast]
  induction k with
  | zero => rfl
  | succ k ih => simp [Lib.repeatL, List.replicate_succ, ih]
theorem repS_len (s : Str) (k : Nat) : (repS s k).length = s.length * k := by
  unfold repS
  rw [Int.toNat_natCast]
  induction k with
  | zero => simp
  | succ k ih => rw [List.replicate_succ, List.flatten_cons, List.length_append, ih, Nat.mul_succ]; omega
theorem sp_len {d : Int} (h : 0 ≤ d) : (sp d).length = d.toNat := by
  obtain ⟨k, rfl⟩ : ∃ k : Nat, d = k := ⟨d.toNat, by omega⟩
  unfold sp; rw [repS_len]; simp
theorem sp_succ {d : Int} (h : 0 ≤ d) : sp (d + 1) = sp d ++ [32] := by
  obtain ⟨k, rfl⟩ : ∃ k : Nat, d = k := ⟨d.toNat, by omega⟩
  unfold sp repS
  rw [show ((k : Int) + 1).toNat = k + 1 by omega, Int.toNat_natCast, List.replicate_succ', List.flatten_append]
  rfl
end Sp

theorem rectoref04_at.ok (R : Int → Prop) (s : Str) (i : Int) (hR : R (Sp.atRef s i)) : rectoref04_at.vc R s i := by
  unfold rectoref04_at.vc
  unfold Sp.atRef at hR
  simp only [cond_dec]
  split
  · rwa [if_pos (by omega)] at hR
  split
  · rwa [if_pos (by omega)] at hR
  · rw [if_neg (by omega)] at hR
    exact ⟨by rw [ix_iff]; omega, hR⟩

namespace Sp
theorem esc_nbsp (v : Bool) (t : Str) : esc v (194 :: 160 :: t) = [38, 110, 98, 115, 112, 59] ++ esc v t := by rw [esc, if_pos ⟨rfl, rfl⟩]
theorem esc_other (v : Bool) (b : UInt8) (t : Str) (h : b = 194 → ∀ r, t ≠ 160 :: r) : esc v (b :: t) = e1 v b ++ esc v t := by
  cases t with
  | nil => rw [esc, esc, List.append_nil]
  | cons c t => rw [esc, if_neg (fun e => h e.1 t (by rw [e.2]))]
theorem nat_of {b : UInt8} {k : Nat} (hk : k < 256) : ((b.toNat : Int) = (k : Int)) ↔ b = UInt8.ofNat k := by
  constructor
  · intro h
    have h : b.toNat = k := by omega
    rw [← h]; simp
  · rintro rfl
    simp
    omega
end Sp
theorem rectoref04_Escape.ok (R : List UInt8 → Prop) (s : Str) (inValue : Bool) (h : Sp.escS.pre s inValue) (hR : R (Sp.escS s inValue)) : rectoref04_Escape.vc R s inValue := by
  unfold Sp.escS.pre at h
  unfold Sp.escS at hR
  unfold rectoref04_Escape.vc
  refine Lp_rule (fun v => ∃ (p : Nat) (out : Str), v = (s, inValue, out, (p : Int), ()) ∧ p ≤ s.length ∧ out.length ≤ 6 * p ∧ out ++ Sp.esc inValue (s.drop p) = Sp.esc inValue s) (fun v => s.length - v.2.2.2.1.toNat) ?_ ⟨0, [], rfl, Nat.zero_le _, Nat.zero_le _, rfl⟩
  rintro _ K ⟨p, out, rfl, hp, hl, he⟩ hK
  simp only [rectoref04_Escape.L0, cond_dec]
  split
  · rename_i c0
    have hp' : p < s.length := by omega
    rw [drop_cons (d := (0 : UInt8)) hp'] at he
    have ix : Ix (p : Int) s.length := by rw [ix_iff]; omega
    have hsub : sub s (p : Int) ((p : Int) + 1) = [nth s (p : Int) 0] := by
      unfold sub
      rw [show ((p : Int) + 1).toNat = p + 1 by omega, Int.toNat_natCast, take_succ (d := (0 : UInt8)) hp', List.drop_append_of_le_length (by rw [List.length_take]; omega)]
      simp
    have hrg : Rg .i64 ((p : Int) + 1) := by rw [rg64]; omega
    have hsb : Sb (p : Int) ((p : Int) + 1) s.length := by rw [sb_iff]; omega
    rw [hsub]
    have h160 : (Sp.atRef s ((p : Int) + 1) = 160) ↔ ∃ r, s.drop (p + 1) = 160 :: r := by
      unfold Sp.atRef
      split
      · rename_i c
        have : s.length ≤ p + 1 := by omega
        rw [drop_end this]
        simp
      · rename_i c
        have hp2 : p + 1 < s.length := by omega
        rw [drop_cons (d := (0 : UInt8)) hp2, show ((p : Int) + 1).toNat = p + 1 by omega]
        have := Sp.nat_of (b := s.getD (p + 1) 0) (k := 160) (by decide)
        rw [show ((160 : Nat) : Int) = 160 from rfl] at this
        rw [this]
        constructor
        · intro e; exact ⟨_, by rw [nth_nat, e]; rfl⟩
        · rintro ⟨r, e⟩
          have := (List.cons.inj e).1
          rw [nth_nat] at this; rw [this]; rfl
    generalize nth s (p : Int) 0 = b at *
    have go (x : Str) (hx : x.length ≤ 6) (hne : b = 194 → ∀ r, s.drop (p + 1) ≠ 160 :: r) (hv : Sp.e1 inValue b = x) : K (s, inValue, out ++ x, (p : Int) + 1, ()) := by
      refine hK _ ⟨p + 1, out ++ x, rfl, by omega, by rw [List.length_append]; omega, ?_⟩ (by simp only; omega)
      rw [Sp.esc_other _ _ _ hne, hv] at he
      rw [List.append_assoc]; exact he
    have k38 := Sp.nat_of (b := b) (k := 38) (by decide)
    have k60 := Sp.nat_of (b := b) (k := 60) (by decide)
    have k62 := Sp.nat_of (b := b) (k := 62) (by decide)
    have k34 := Sp.nat_of (b := b) (k := 34) (by decide)
    have k194 := Sp.nat_of (b := b) (k := 194) (by decide)
    refine ⟨ix, ?_⟩
    split
    · rename_i c
      obtain rfl := k38.1 c
      exact ⟨by first | omega | (simp only [List.length_cons, List.length_nil]; omega), hrg, go _ (by decide) (fun e => absurd e (by decide)) rfl⟩
    rename_i n1
    split
    · rename_i c
      obtain rfl := k60.1 c
      exact ⟨by first | omega | (simp only [List.length_cons, List.length_nil]; omega), hrg, go _ (by decide) (fun e => absurd e (by decide)) rfl⟩
    rename_i n2
    split
    · rename_i c
      obtain rfl := k62.1 c
      exact ⟨by first | omega | (simp only [List.length_cons, List.length_nil]; omega), hrg, go _ (by decide) (fun e => absurd e (by decide)) rfl⟩
    rename_i n3
    split
    · rename_i c
      obtain rfl := k34.1 c
      cases inValue with
      | true => exact ⟨by first | omega | (simp only [List.length_cons, List.length_nil]; omega), hrg, go _ (by decide) (fun e => absurd e (by decide)) rfl⟩
      | false => exact ⟨by first | omega | (simp only [List.length_cons, List.length_nil]; omega), hrg, go _ (by decide) (fun e => absurd e (by decide)) rfl⟩
    rename_i n4
    have hself : Sp.e1 inValue b = [b] := by
      unfold Sp.e1
      rw [if_neg (show ¬ b = 38 from fun e => n1 (k38.2 e)), if_neg (show ¬ b = 60 from fun e => n2 (k60.2 e)), if_neg (show ¬ b = 62 from fun e => n3 (k62.2 e)), if_neg (show ¬ (b = 34 ∧ inValue = true) from fun e => n4 (k34.2 e.1))]
    have last (hne : b = 194 → ∀ r, s.drop (p + 1) ≠ 160 :: r) : Rg .i64 ((p : Int) + 1) ∧ Sb (p : Int) ((p : Int) + 1) s.length ∧ (out.length : Int) + (([b] : Str).length : Int) ≤ 9223372036854775807 ∧ Rg .i64 ((p : Int) + 1) ∧ K (s, inValue, out ++ [b], (p : Int) + 1, ()) :=
      ⟨hrg, hsb, by first | omega | (simp only [List.length_cons, List.length_nil]; omega), hrg, go _ (show 1 ≤ 6 by decide) hne hself⟩
    split
    · rename_i c
      obtain rfl := k194.1 c
      refine ⟨hrg, ?_⟩
      split
      · rename_i c2
        obtain ⟨r, hr⟩ := h160.1 c2
        have hp2 : p + 1 < s.length := by
          have := congrArg List.length hr
          simp only [List.length_drop, List.length_cons] at this
          omega
        refine ⟨by first | omega | (simp only [List.length_cons, List.length_nil]; omega), hrg, by rw [rg64]; omega, hK _ ⟨p + 2, _, by rw [Int.add_assoc]; rfl, by omega, by rw [List.length_append]; simp only [List.length_cons, List.length_nil]; omega, ?_⟩ (by simp only; omega)⟩
        rw [hr] at he
        rw [show (UInt8.ofNat 194) = 194 from rfl, Sp.esc_nbsp] at he
        have hr2 : s.drop (p + 2) = r := by
          rw [show p + 2 = (p + 1) + 1 from rfl, ← List.drop_drop, hr]; rfl
        rw [hr2, List.append_assoc]; exact he
      · rename_i c2
        exact last (fun _ r e => c2 (h160.2 ⟨r, e⟩))
    · rename_i c
      exact last (fun e => absurd (k194.2 e) c)
  · have : p = s.length := by omega
    subst this
    rw [List.drop_length, Sp.esc, List.append_nil] at he
    rw [he]; exact hR

/- Nodes as texts: what is told, shown of the conditions: printing. Plain theorems. -/

namespace Sp
theorem node_eta (n : Vi.Node) : Vi.Node.mk n.kind n.space n.name n.attrs n.text n.kids = n := by cases n; rfl
end Sp
theorem print_Open.ok (R : List UInt8 → Prop) (n : Vi.Node) (h : Sp.openP.pre n) (hR : R (Sp.openP n)) : print_Open.vc R n := by
  obtain ⟨hn, ha⟩ := h
  unfold print_Open.vc
  unfold Sp.openP at hR
  rw [cond_ndec]
  split
  · rename_i c
    rw [if_pos c] at hR
    unfold Sp.openT at hR
    refine ⟨by omega, by unfold Sp.wr.pre; simp only [List.length_cons, List.length_nil]; omega, ?_⟩
    refine Lp_rule (fun v => ∃ (p : Nat) (x : Str), v = (n.attrs, (n.attrs.length : Int), (p : Int), Sp.wr [] x, ()) ∧ p ≤ n.attrs.length ∧ x.length ≤ 1001 + 61010 * p ∧ x ++ (n.attrs.drop p).flatMap Sp.attrT ++ [62] = [60] ++ n.name ++ n.attrs.flatMap Sp.attrT ++ [62]) (fun v => n.attrs.length - v.2.2.1.toNat) ?_ ⟨0, 60 :: n.name, rfl, Nat.zero_le _, by simp only [List.length_cons]; omega, rfl⟩
    rintro _ K ⟨p, x, rfl, hp, hl, he⟩ hK
    have hal := ha.1
    simp only [print_Open.L0, cond_dec]
    split
    · rename_i c0
      have hp' : p < n.attrs.length := by omega
      have hm := Sp.nth_mem (d := (([], []) : Str × Str)) hp'
      rw [drop_cons (d := (([], []) : Str × Str)) hp', List.flatMap_cons] at he
      have hx := ha.2 _ hm
      generalize nth n.attrs (p : Int) (([], []) : Str × Str) = a at *
      obtain ⟨h1, h2⟩ := hx
      have hq := Sp.escS_len (s := a.2) (v := true)
      have hat := Sp.attrT_len ⟨h1, h2⟩
      have e : (32 :: a.1 ++ [61, 34] ++ Sp.escS a.2 true ++ [34]) = Sp.attrT a := rfl
      refine ⟨by rw [ix_iff]; omega, by omega, by simp only [List.length_cons]; omega, by unfold Sp.escS.pre; omega, by simp only [List.length_cons, List.length_nil, List.length_append]; omega, by simp only [List.length_cons, List.length_nil, List.length_append]; omega, ?_, by rw [rg64]; omega, ?_⟩
      · rw [e]; unfold Sp.wr.pre; rw [Sp.wr_len]; simp only [List.length_nil]; omega
      · rw [e, Sp.wr_wr]
        exact hK _ ⟨p + 1, x ++ Sp.attrT a, rfl, by omega, by rw [List.length_append]; omega, by rw [List.append_assoc x]; exact he⟩ (by simp only; omega)
    · have : p = n.attrs.length := by omega
      subst this
      rw [List.drop_length, List.flatMap_nil, List.append_nil] at he
      refine ⟨by unfold Sp.wb.pre; rw [Sp.wr_len]; simp only [List.length_nil]; omega, ?_⟩
      rw [Sp.wr_zero, show (62 : Int) = ((62 : UInt8).toNat : Int) from rfl, Sp.wb_ints, Sp.bytesOf_ints, he]
      exact hR
  · rename_i c
    rw [if_neg c] at hR; exact hR
theorem rectoref13_Open.ok (R : List UInt8 → Prop) (n : Vi.Node) (h : Sp.openP.pre n) (hR : R (Sp.openP n)) : rectoref13_Open.vc R n := by
  obtain ⟨hn, ha⟩ := h
  unfold rectoref13_Open.vc
  unfold Sp.openP at hR
  rw [cond_ndec]
  split
  · rename_i c
    rw [if_pos c] at hR
    unfold Sp.openT at hR
    refine ⟨by omega, ?_⟩
    refine Lp_rule (fun v => ∃ (p : Nat) (x : Str), v = (x, n.attrs, (n.attrs.length : Int), (p : Int), ()) ∧ p ≤ n.attrs.length ∧ x.length ≤ 1001 + 61010 * p ∧ x ++ (n.attrs.drop p).flatMap Sp.attrT ++ [62] = [60] ++ n.name ++ n.attrs.flatMap Sp.attrT ++ [62]) (fun v => n.attrs.length - v.2.2.2.1.toNat) ?_ ⟨0, 60 :: n.name, rfl, Nat.zero_le _, by simp only [List.length_cons]; omega, rfl⟩
    rintro _ K ⟨p, x, rfl, hp, hl, he⟩ hK
    have hal := ha.1
    simp only [rectoref13_Open.L0, cond_dec]
    split
    · rename_i c0
      have hp' : p < n.attrs.length := by omega
      have hm := Sp.nth_mem (d := (([], []) : Str × Str)) hp'
      rw [drop_cons (d := (([], []) : Str × Str)) hp', List.flatMap_cons] at he
      have hx := ha.2 _ hm
      generalize nth n.attrs (p : Int) (([], []) : Str × Str) = a at *
      obtain ⟨h1, h2⟩ := hx
      have hq := Sp.escS_len (s := a.2) (v := true)
      have hat := Sp.attrT_len ⟨h1, h2⟩
      have e : x ++ [32] ++ a.1 ++ [61, 34] ++ Sp.escS a.2 true ++ [34] = x ++ Sp.attrT a := by
        unfold Sp.attrT; simp only [List.append_assoc]; rfl
      refine ⟨by rw [ix_iff]; omega, by omega, by simp only [List.length_cons, List.length_nil, List.length_append]; omega, by simp only [List.length_cons, List.length_nil, List.length_append]; omega, by unfold Sp.escS.pre; omega, by simp only [List.length_cons, List.length_nil, List.length_append]; omega, by simp only [List.length_cons, List.length_nil, List.length_append]; omega, by rw [rg64]; omega, ?_⟩
      rw [e]
      exact hK _ ⟨p + 1, x ++ Sp.attrT a, rfl, by omega, by rw [List.length_append]; omega, by rw [List.append_assoc x]; exact he⟩ (by simp only; omega)
    · have : p = n.attrs.length := by omega
      subst this
      rw [List.drop_length, List.flatMap_nil, List.append_nil] at he
      refine ⟨by omega, ?_⟩
      rw [he]; exact hR
  · rename_i c
    rw [if_neg c] at hR; exact hR

namespace Sp
end Sp
/- Nodes as texts: what is told, shown of the conditions: lines; laws. Plain theorems. -/

theorem rectoref13_flat.ok (R : List UInt8 → Prop) (s : Str) (h : Sp.flatT.pre s) (hR : R (Sp.flatT s)) : rectoref13_flat.vc R s := by
  unfold Sp.flatT.pre at h
  unfold Sp.flatT at hR
  unfold rectoref13_flat.vc
  refine Lp_rule (fun v => ∃ (p : Nat) (out : Str), v = (s, out, (p : Int), ()) ∧ p ≤ s.length ∧ out.length = p ∧ out ++ (s.drop p).map (fun b => if b = 10 then 32 else b) = s.map fun b => if b = 10 then 32 else b) (fun v => s.length - v.2.2.1.toNat) ?_ ⟨0, [], rfl, Nat.zero_le _, rfl, rfl⟩
  rintro _ K ⟨p, out, rfl, hp, hl, he⟩ hK
  simp only [rectoref13_flat.L0, cond_dec]
  split
  · have hp' : p < s.length := by omega
    rw [drop_cons (d := (0 : UInt8)) hp', List.map_cons] at he
    have hsub : sub s (p : Int) ((p : Int) + 1) = [nth s (p : Int) 0] := by
      unfold sub
      rw [show ((p : Int) + 1).toNat = p + 1 by omega, Int.toNat_natCast, take_succ (d := (0 : UInt8)) hp', List.drop_append_of_le_length (by rw [List.length_take]; omega)]
      simp
    rw [hsub]
    generalize nth s (p : Int) 0 = b at *
    have k10 := Sp.nat_of (b := b) (k := 10) (by decide)
    have hrg : Rg .i64 ((p : Int) + 1) := by rw [rg64]; omega
    have go (x : UInt8) (hx : (if b = 10 then 32 else b) = x) : K (s, out ++ [x], (p : Int) + 1, ()) := by
      rw [hx] at he
      exact hK _ ⟨p + 1, _, rfl, by omega, by rw [List.length_append, hl]; rfl, by rw [List.append_assoc]; exact he⟩ (by simp only; omega)
    refine ⟨by rw [ix_iff]; omega, ?_⟩
    split
    · rename_i c
      exact ⟨by omega, hrg, go 32 (if_pos (k10.1 c))⟩
    · rename_i c
      exact ⟨hrg, by rw [sb_iff]; omega, by first | omega | (simp only [List.length_cons, List.length_nil]; omega), hrg, go b (if_neg (fun e => c (k10.2 e)))⟩
  · have : p = s.length := by omega
    subst this
    rw [List.drop_length, List.map_nil, List.append_nil] at he
    rw [he]; exact hR
theorem print_shown.ok (R : List UInt8 → Prop) (n : Vi.Node) (h : Sp.shownN.pre n) (hR : R (Sp.shownN n)) : print_shown.vc R n := by
  obtain ⟨h1, h2⟩ := h
  unfold print_shown.vc
  unfold Sp.shownN at hR
  simp only [Sp.node_eta, cond_dec]
  have hrp : Sp.repA.pre n.text [10] [32] := ⟨by omega, by decide, by decide⟩
  rw [Sp.flat_eq]
  split
  · rename_i c
    rw [if_pos c] at hR
    exact ⟨h1, by unfold Sp.openP; rw [if_pos c]; exact hR⟩
  rename_i c
  rw [if_neg c] at hR
  split
  · rename_i c2
    rw [if_pos (.inl c2)] at hR
    exact ⟨hrp, hR⟩
  rename_i c2
  split
  · rename_i c3
    rw [if_pos (.inr c3)] at hR
    exact ⟨hrp, hR⟩
  · rename_i c3
    rw [if_neg (by omega)] at hR
    exact hR
theorem print_Lines_1.ok (nn : Nat) (R : List (List UInt8) → Prop) (l : List Vi.Node) (depth : Int) (out : List Str) (h : Sp.linesD.pre l depth out ∧ Sp.mLn l depth out < nn + 1) (hR : R (Sp.linesD l depth out)) : print_Lines_1.vc R nn l depth out := by
  obtain ⟨⟨⟨h1, h2, h3⟩, h4, h6, h7⟩, h5⟩ := h
  unfold Sp.mLn at h5
  unfold Sp.linesD at hR
  unfold print_Lines_1.vc
  refine Lp_rule (fun v => ∃ (q : Nat) (y : List Str), v = (depth, l, (l.length : Int), (q : Int), y, ()) ∧ q ≤ l.length ∧ y.length + Sp.szL (l.drop q) ≤ 100000000 ∧ y ++ Sp.lnL (Sp.sp depth) (l.drop q) = out ++ Sp.lnL (Sp.sp depth) l) (fun v => l.length - v.2.2.2.1.toNat) ?_ ⟨0, out, rfl, Nat.zero_le _, h7, rfl⟩
  rintro _ K ⟨q, y, rfl, hq, hy, he⟩ hK
  simp only [print_Lines_1.L0, cond_dec]
  split
  · have hq' : q < l.length := by omega
    have hm := Sp.nth_mem (d := Vi.Node.mk 0 0 [] [] [] []) hq'
    rw [Sp.szL_drop l q hq'] at hy
    rw [drop_cons (d := Vi.Node.mk 0 0 [] [] [] []) hq', Sp.lnL] at he
    have hz := Sp.szL_lt hm
    have hp := Sp.pkL_mem h2 hm
    simp only [Sp.node_eta]
    generalize nth l (q : Int) (Vi.Node.mk 0 0 [] [] [] []) = n at *
    obtain ⟨k1, k2, k3, k4, k5⟩ := Sp.pkN_eq hp
    have hsh := Sp.shown_len (Sp.pk_shown hp)
    rw [Sp.lnN_eq, ← Sp.sp_succ h4] at he
    rw [Sp.szN_eq] at hy hz
    have hsp := Sp.sp_len h4
    have hln := Sp.lnL_len (Sp.sp (depth + 1)) n.kids
    have hct := Sp.cntL_sz n.kids
    have hdn : (depth + 1).toNat = depth.toNat + 1 := by omega
    show Ix _ _ ∧ Sp.repS.pre [32] depth ∧ Sp.shownN.pre n ∧ ((Sp.sp depth).length : Int) + _ ≤ _ ∧ Gr y.length 1 16 ∧ Rg .i64 (depth + 1) ∧ (Sp.linesD.pre n.kids (depth + 1) (y ++ [Sp.sp depth ++ Sp.shownN n]) ∧ Sp.mLn n.kids (depth + 1) (y ++ [Sp.sp depth ++ Sp.shownN n]) < nn) ∧ Rg .i64 ((q : Int) + 1) ∧ K (depth, l, (l.length : Int), (q : Int) + 1, Sp.linesD n.kids (depth + 1) (y ++ [Sp.sp depth ++ Sp.shownN n]), ())
    refine ⟨by rw [ix_iff]; omega, ⟨h4, by omega, by decide⟩, Sp.pk_shown hp, by omega, by rw [gr_iff]; omega, by rw [rg64]; omega, ⟨⟨⟨k4, k5, by omega⟩, by omega, by omega, by rw [List.length_append]; simp only [List.length_cons, List.length_nil]; omega⟩, by unfold Sp.mLn; omega⟩, by rw [rg64]; omega, ?_⟩
    unfold Sp.linesD
    refine hK _ ⟨q + 1, _, rfl, by omega, ?_, ?_⟩ (by simp only; omega)
    · rw [List.length_append, hln, List.length_append]; simp only [List.length_cons, List.length_nil]; omega
    · rw [← he]; simp only [List.append_assoc, List.cons_append, List.nil_append]
  · have : q = l.length := by omega
    subst this
    rw [List.drop_length, Sp.lnL, List.append_nil] at he
    rw [he]; exact hR
theorem print_Lines.ok (R : List (List UInt8) → Prop) (l : List Vi.Node) (h : Sp.prOk l ∧ Sp.szL l ≤ 900000) (hR : R (Sp.linesP l)) : print_Lines.vc R l :=
  ⟨⟨h.1, by decide, by have := h.2; show 0 + _ ≤ _; omega, by have := h.2; show 0 + _ ≤ _; omega⟩, hR⟩
theorem rectoref13_Lines.ok (nn : Nat) (R : List (List UInt8) → Prop) (l : List Vi.Node) (ahead : Str) (h : Sp.linesR.pre l ahead ∧ Sp.mLr l ahead < nn + 1) (hR : R (Sp.linesR l ahead)) : rectoref13_Lines.vc R nn l ahead := by
  obtain ⟨⟨⟨h1, h2, h3⟩, h4⟩, h5⟩ := h
  unfold Sp.mLr at h5
  unfold Sp.linesR at hR
  unfold rectoref13_Lines.vc
  refine Lp_rule (fun v => ∃ (q : Nat) (y : List Str), v = (ahead, l, (l.length : Int), (q : Int), y, ()) ∧ q ≤ l.length ∧ y.length + Sp.szL (l.drop q) ≤ 100000000 ∧ y ++ Sp.lnL ahead (l.drop q) = Sp.lnL ahead l) (fun v => l.length - v.2.2.2.1.toNat) ?_ ⟨0, [], rfl, Nat.zero_le _, by simp only [List.length_nil, List.drop_zero]; omega, rfl⟩
  rintro _ K ⟨q, y, rfl, hq, hy, he⟩ hK
  simp only [rectoref13_Lines.L0, cond_dec]
  split
  · have hq' : q < l.length := by omega
    have hm := Sp.nth_mem (d := Vi.Node.mk 0 0 [] [] [] []) hq'
    rw [Sp.szL_drop l q hq'] at hy
    rw [drop_cons (d := Vi.Node.mk 0 0 [] [] [] []) hq', Sp.lnL] at he
    have hz := Sp.szL_lt hm
    have hp := Sp.pkL_mem h2 hm
    simp only [Sp.node_eta]
    generalize nth l (q : Int) (Vi.Node.mk 0 0 [] [] [] []) = n at *
    obtain ⟨k1, k2, k3, k4, k5⟩ := Sp.pkN_eq hp
    have ho := Sp.openP_len (Sp.pk_open hp)
    rw [Sp.lnN_eq] at he
    rw [Sp.szN_eq] at hy hz
    have hln := Sp.lnL_len (ahead ++ [32]) n.kids
    have hct := Sp.cntL_sz n.kids
    have hfl := Sp.flat_len n.text
    have rest (z : Str) (hz : Sp.shownN n = z) : Gr y.length 1 16 ∧ (ahead.length : Int) + ((1 : Nat) : Int) ≤ 9223372036854775807 ∧ (Sp.linesR.pre n.kids (ahead ++ [32]) ∧ Sp.mLr n.kids (ahead ++ [32]) < nn) ∧
        Gr (y ++ [ahead ++ z]).length (Sp.linesR n.kids (ahead ++ [32])).length 16 ∧ Rg .i64 ((q : Int) + 1) ∧ K (ahead, l, (l.length : Int), (q : Int) + 1, y ++ [ahead ++ z] ++ Sp.linesR n.kids (ahead ++ [32]), ()) := by
      subst hz
      unfold Sp.linesR
      have hl1 : (y ++ [ahead ++ Sp.shownN n]).length = y.length + 1 := by rw [List.length_append]; rfl
      refine ⟨by rw [gr_iff]; omega, by omega, ⟨⟨⟨k4, k5, by omega⟩, by rw [List.length_append]; simp only [List.length_cons, List.length_nil]; omega⟩, by unfold Sp.mLr; omega⟩, by rw [gr_iff, hl1, hln]; omega, by rw [rg64]; omega, ?_⟩
      refine hK _ ⟨q + 1, _, rfl, by omega, by rw [List.length_append, hl1, hln]; omega, ?_⟩ (by simp only; omega)
      rw [← he]; simp only [List.append_assoc, List.cons_append, List.nil_append]
    refine ⟨by rw [ix_iff]; omega, Sp.pk_open hp, by omega, ?_⟩
    have sh : Sp.shownN n = if n.kind = 1 then Sp.openT n.name n.attrs else if n.kind = 2 ∨ n.kind = 3 then Sp.flatT n.text else [] := rfl
    have fp : Sp.flatT.pre n.text := by unfold Sp.flatT.pre; omega
    split
    · rename_i c
      rw [if_neg (by omega), if_pos (.inl c)] at sh
      exact ⟨fp, by omega, rest _ sh⟩
    rename_i c
    split
    · rename_i c3
      rw [if_neg (by omega), if_pos (.inr c3)] at sh
      exact ⟨fp, by omega, rest _ sh⟩
    · rename_i c3
      refine rest _ ?_
      unfold Sp.openP
      rw [sh]
      split
      · rfl
      · rw [if_neg (by omega)]
  · have : q = l.length := by omega
    subst this
    rw [List.drop_length, Sp.lnL, List.append_nil] at he
    rw [he]; exact hR
namespace Sp
mutual
theorem lgN_pk : ∀ (n : Vi.Node) (r d : Int), (lgN n r d).1 = false → pkN n ∧ (szN n : Int) + 1 ≤ 2 * (r - (lgN n r d).2)
  | .mk k s nm a t c, r, d, h => by
    rw [lgN] at h ⊢
    split at h
    · cases h
    rename_i c1
    rw [if_neg c1]
    split at h
    · cases h
    rename_i c2
    rw [if_neg c2]
    split at h
    · cases h
    rename_i c3
    rw [if_neg c3]
    have hc : (lgL c (r - 1 - (t.length : Int) / 16 - a.length) (d + 1)).1 = false := by
      cases e : (lgL c (r - 1 - (t.length : Int) / 16 - a.length) (d + 1)).1 with
      | false => rfl
      | true => exact absurd (.inl e) c3
    obtain ⟨g1, g2⟩ := lgL_pk c _ _ hc
    rw [pkN, szN]
    refine ⟨⟨by omega, ⟨by omega, fun x hx => ?_⟩, by omega, by omega, g1⟩, by simp only; omega⟩
    have h1 : a.any (fun x => decide (100 < (x.1.length : Int) ∨ 2000 < (x.2.length : Int))) = false := by
      cases e : a.any (fun x => decide (100 < (x.1.length : Int) ∨ 2000 < (x.2.length : Int))) with
      | false => rfl
      | true => exact absurd (.inl e) c2
    have := List.any_eq_false.1 h1 x hx
    simp only [decide_eq_true_eq] at this
    omega
theorem lgL_pk : ∀ (l : List Vi.Node) (r d : Int), (lgL l r d).1 = false → pkL l ∧ (szL l : Int) ≤ 2 * (r - (lgL l r d).2)
  | [], r, _, _ => by rw [pkL, lgL, szL]; exact ⟨trivial, by simp⟩
  | n :: l, r, d, h => by
    rw [lgL] at h ⊢
    split at h
    · rename_i c; rw [c] at h; cases h
    · rename_i c
      rw [if_neg c, pkL, szL]
      obtain ⟨g1, g2⟩ := lgN_pk n r d (by cases e : (lgN n r d).1 with | false => rfl | true => exact absurd e c)
      obtain ⟨g3, g4⟩ := lgL_pk l _ _ h
      exact ⟨⟨g1, g3⟩, by omega⟩
end
theorem lg_pk {l : List Vi.Node} {r : Int} (h : (lg l 1 r).1 = false) (hr : r ≤ 100000) : prOk l ∧ (szL l : Int) ≤ 2 * r := by
  have h0 := lg_nonneg h
  unfold lg at h h0
  split at h
  · cases h
  rename_i c
  rw [if_neg c] at h0
  split at h
  · rename_i c2; rw [c2] at h; cases h
  · rename_i c2
    rw [if_neg c2] at h0
    obtain ⟨g1, g2⟩ := lgL_pk l r 1 (by cases e : (lgL l r 1).1 with | false => rfl | true => exact absurd e c2)
    exact ⟨⟨by omega, g1, by simp only at h0; omega⟩, by simp only at h0; omega⟩
end Sp
namespace Sp
end Sp
namespace Sp
end Sp