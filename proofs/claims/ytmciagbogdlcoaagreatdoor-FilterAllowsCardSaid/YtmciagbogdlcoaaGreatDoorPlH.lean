/- Nodes as texts: what is told, shown of the conditions: texts. Plain theorems. -/
import Derived.Test.YtmciagbogdlcoaaGreatDoorVcH
import Derived.Test.YtmciagbogdlcoaaGreatDoorPlP
import Derived.Lib.ReplaceLaws
import Derived.Lib.Repeat
import Derived.Lib.CountLaws
set_option linter.unnecessarySimpa false
set_option linter.unusedVariables false
set_option linter.unusedSectionVars false
set_option linter.unusedSimpArgs false
set_option autoImplicit false
open Go Vi

namespace Sp
/-! ### Every instance of a text, from the left -/
theorem idx_hit {old : Str} {b : UInt8} {t : Str} (h : old.isPrefixOf (b :: t) = true) : Lib.index (b :: t) old = 0 := by
  unfold Lib.index; rw [if_pos h]
theorem repA_ne {s old new : Str} (h : old ≠ new) : repA s old new = Lib.replaceK old new (Lib.count s old) s := by
  unfold repA Lib.replaceAll Lib.replace
  rw [if_neg (by simpa using h)]
  unfold Lib.replaceNum
  rw [if_pos (.inl (by decide))]
theorem repA_nil {old new : Str} (h : old ≠ new) (h0 : old ≠ []) : repA [] old new = [] := by
  rw [repA_ne h, Lib.count_miss (by cases old with | nil => exact absurd rfl h0 | cons x l => rfl)]
  rfl
theorem repA_hit {old new : Str} {b : UInt8} {t : Str} (h : old ≠ new) (h0 : old ≠ []) (hp : old.isPrefixOf (b :: t) = true) : repA (b :: t) old new = new ++ repA ((b :: t).drop old.length) old new := by
  have hi := idx_hit hp
  rw [repA_ne h, repA_ne h, Lib.count_hit (i := 0) h0 hi, Nat.zero_add, Nat.add_comm, Lib.replaceK_hit _ _ _ _ 0 hi, Nat.zero_add]
  rfl
theorem repA_miss {old new : Str} {b : UInt8} {t : Str} (h : old ≠ new) (h0 : old ≠ []) (hp : old.isPrefixOf (b :: t) = false) : repA (b :: t) old new = b :: repA t old new := by
  have hi : Lib.index (b :: t) old = if Lib.index t old == -1 then -1 else Lib.index t old + 1 := by
    rw [Lib.index, hp]; rfl
  have hge := Lib.index_ge t old
  rw [repA_ne h, repA_ne h]
  by_cases hm : Lib.index t old = -1
  · rw [hm] at hi
    have hi : Lib.index (b :: t) old = -1 := hi
    rw [Lib.count_miss hi, Lib.count_miss hm]
    rfl
  · obtain ⟨i, hk⟩ : ∃ i : Nat, Lib.index t old = i := ⟨(Lib.index t old).toNat, by omega⟩
    have hi2 : Lib.index (b :: t) old = (i + 1 : Nat) := by
      rw [hi, hk, if_neg (by intro e; have := beq_iff_eq.1 e; omega)]
      rfl
    rw [Lib.count_hit h0 hi2, Lib.count_hit h0 hk, Nat.add_comm 1, Nat.add_comm 1, Lib.replaceK_hit _ _ _ _ _ hi2, Lib.replaceK_hit _ _ _ _ _ hk]
    rw [show i + 1 + old.length = (i + old.length) + 1 by omega, List.drop_succ_cons]
    rfl
theorem repA_len0 {old new : Str} (h : old ≠ new) (h0 : 1 ≤ old.length) (h1 : new.length ≤ 1000) : ∀ (k : Nat) (s : Str), s.length ≤ k → (repA s old new).length ≤ 1000 * s.length
  | _, [], _ => by rw [repA_nil h (fun e => by subst e; simp at h0)]; exact Nat.zero_le _
  | 0, _ :: _, hk => absurd hk (by simp)
  | k + 1, b :: t, hk => by
    have hne : old ≠ [] := fun e => by subst e; simp at h0
    simp only [List.length_cons] at hk
    cases hp : old.isPrefixOf (b :: t) with
    | true =>
      rw [repA_hit h hne hp, List.length_append]
      have hl : ((b :: t).drop old.length).length ≤ t.length := by rw [List.length_drop, List.length_cons]; omega
      have := repA_len0 h h0 h1 k _ (Nat.le_trans hl (by omega))
      rw [List.length_cons]
      omega
    | false =>
      rw [repA_miss h hne hp, List.length_cons, List.length_cons]
      have := repA_len0 h h0 h1 k t (by omega)
      omega
theorem repA_len {s old new : Str} (h : repA.pre s old new) : (repA s old new).length ≤ maxLen := by
  obtain ⟨h1, h2, h3⟩ := h
  simp only [maxLen]
  by_cases e : old = new
  · subst e
    unfold repA Lib.replaceAll Lib.replace
    rw [if_pos (by simp)]
    omega
  · have := repA_len0 e h2 h3 _ s (Nat.le_refl _)
    omega
/-- One byte for another text. -/
def rep1 (c : UInt8) (new s : Str) : Str := s.flatMap fun b => if b = c then new else [b]
theorem rep1_cons (c : UInt8) (new : Str) (b : UInt8) (t : Str) : rep1 c new (b :: t) = (if b = c then new else [b]) ++ rep1 c new t := by unfold rep1; rw [List.flatMap_cons]
theorem repA_one {c : UInt8} {new : Str} (h : [c] ≠ new) : ∀ s : Str, repA s [c] new = rep1 c new s
  | [] => repA_nil h (by simp)
  | b :: t => by
    rw [rep1_cons, ← repA_one h t]
    by_cases e : b = c
    · subst e
      rw [repA_hit h (by simp) (by simp [List.isPrefixOf]), if_pos rfl]
      rfl
    · rw [repA_miss h (by simp) (by simp [List.isPrefixOf]; exact fun e2 => e e2.symm), if_neg e]
      rfl
theorem rep1_len {c : UInt8} {new : Str} {k : Nat} (h : new.length ≤ k) (h1 : 1 ≤ k) : ∀ s : Str, (rep1 c new s).length ≤ k * s.length
  | [] => Nat.zero_le _
  | b :: t => by
    have := rep1_len (c := c) h h1 t
    rw [rep1_cons, List.length_append, List.length_cons, Nat.mul_succ]
    split
    · omega
    · simp only [List.length_cons, List.length_nil]; omega

abbrev amp : Str := [38, 97, 109, 112, 59]
abbrev nbsp : Str := [38, 110, 98, 115, 112, 59]
abbrev R2 (s : Str) : Str := repA s [194, 160] nbsp
def a1 (b : UInt8) : Str := if b = 38 then amp else [b]
theorem e1_len (v : Bool) (b : UInt8) : (e1 v b).length ≤ 6 := by
  unfold e1
  split
  · decide
  split
  · decide
  split
  · decide
  split
  · decide
  · exact (by decide : 1 ≤ 6)
theorem esc_len (v : Bool) : ∀ s : Str, (esc v s).length ≤ 6 * s.length
  | [] => Nat.zero_le _
  | [b] => by have := e1_len v b; simp only [esc, List.length_cons, List.length_nil]; omega
  | b :: c :: t => by
    rw [esc]
    have h1 := esc_len v t
    have h2 := esc_len v (c :: t)
    have h3 := e1_len v b
    split <;> rw [List.length_append] <;> simp only [List.length_cons, List.length_nil] at * <;> omega
/-! ### Bits -/
theorem or_add {a j x : Nat} (hx : x < 2 ^ j) (h : 2 ^ j * a + x < 4294967296) : bitsO .or .i64 ((2 ^ j * a : Nat) : Int) (x : Int) = ((2 ^ j * a + x : Nat) : Int) := by
  have h0 : 2 ^ j * a < 4294967296 := by omega
  have h9 : x < 4294967296 := by omega
  have e3 := (Nat.two_pow_add_eq_or_of_lt hx a).symm
  generalize 2 ^ j * a = m at *
  have e1 : (BitVec.ofInt 64 (m : Int)).toNat = m := by rw [BitVec.toNat_ofInt]; omega
  have e2 : (BitVec.ofInt 64 (x : Int)).toNat = x := by rw [BitVec.toNat_ofInt]; omega
  have e4 : bitsO .or .i64 (m : Int) (x : Int) = IntKind.i64.wrap (((BitVec.ofInt 64 (m : Int) ||| BitVec.ofInt 64 (x : Int)).toNat : Nat) : Int) := rfl
  rw [e4, BitVec.toNat_or, e1, e2, e3, wrap_in]
  · rw [show IntKind.i64.min = -9223372036854775808 from rfl, show IntKind.i64.max = 9223372036854775807 from rfl]
    omega
theorem and63 {c : Nat} (h : c < 4294967296) : bitsO .and .i64 (c : Int) 63 = ((c % 64 : Nat) : Int) := by
  have e1 : (BitVec.ofInt 64 (c : Int)).toNat = c := by rw [BitVec.toNat_ofInt]; omega
  have e2 : (BitVec.ofInt 64 (63 : Int)).toNat = 63 := by decide
  have e3 : c &&& 63 = c % 64 := Nat.and_two_pow_sub_one_eq_mod c 6
  have e4 : bitsO .and .i64 (c : Int) 63 = IntKind.i64.wrap (((BitVec.ofInt 64 (c : Int) &&& BitVec.ofInt 64 (63 : Int)).toNat : Nat) : Int) := rfl
  rw [e4, BitVec.toNat_and, e1, e2, e3, wrap_in]
  · rw [show IntKind.i64.min = -9223372036854775808 from rfl, show IntKind.i64.max = 9223372036854775807 from rfl]
    omega
theorem wrap8 {x : Nat} (h : x < 256) : IntKind.u8.wrap (x : Int) = x := by
  rw [wrap_in]
  rw [show IntKind.u8.min = 0 from rfl, show IntKind.u8.max = 255 from rfl]
  omega
/-- A byte that goes on. -/
theorem low_eq {c : Nat} (h : c < 4294967296) : IntKind.u8.wrap (bitsO .or .i64 128 (bitsO .and .i64 (c : Int) 63)) = 128 + (c : Int) % 64 := by
  rw [and63 h]
  have := or_add (a := 2) (j := 6) (x := c % 64) (by omega) (by omega)
  rw [show (2 ^ 6 * 2 : Nat) = 128 from rfl] at this
  rw [show (128 : Int) = ((128 : Nat) : Int) from rfl, this, wrap8 (by omega)]
  omega
theorem top_eq {a j c : Nat} (hx : c < 2 ^ j) (h : 2 ^ j * a + c < 256) : IntKind.u8.wrap (bitsO .or .i64 ((2 ^ j * a : Nat) : Int) (c : Int)) = ((2 ^ j * a + c : Nat) : Int) := by
  rw [or_add hx (by omega), wrap8 h]
end Sp

namespace Sp
theorem isC_eq (c : Int) : isC c = decide (0 ≤ c ∧ c < 1114112 ∧ (c < 55296 ∨ 57343 < c)) := by
  unfold isC
  rw [decide_eq_decide]
  omega
end Sp
theorem utf_is.ok (R : Bool → Prop) (c : Int) (hR : R (Sp.isC c)) : utf_is.vc R c := by
  unfold utf_is.vc
  rw [Sp.isC_eq] at hR
  simp only [cond_dec]
  split
  · split
    · split
      · rwa [decide_eq_true (by omega)] at hR
      · rename_i h1 h2 h3
        have e : decide (0 ≤ c ∧ c < 1114112 ∧ (c < 55296 ∨ 57343 < c)) = decide (57343 < c) := by
          rw [decide_eq_decide]; omega
        rwa [e] at hR
    · rwa [decide_eq_false (by omega)] at hR
  · rwa [decide_eq_false (by omega)] at hR
theorem ixd {i : Int} {n : Nat} (h : decide (0 ≤ i ∧ i < (n : Int)) = true) : Ix i n := of_decide_eq_true (p := 0 ≤ i ∧ i < (n : Int)) h
theorem rgd {z : Int} (h : decide (-9223372036854775808 ≤ z ∧ z ≤ 9223372036854775807) = true) : Rg .i64 z := of_decide_eq_true (p := -9223372036854775808 ≤ z ∧ z ≤ 9223372036854775807) h
theorem mkd {a b : Int} {k : Nat} (h : decide (a = b ∧ 0 ≤ a ∧ a * k ≤ 140737488351232) = true) : Mk a b k := of_decide_eq_true (p := a = b ∧ 0 ≤ a ∧ a * k ≤ 140737488351232) h
theorem utf_size.ok (R : Int → Prop) (c : Int) (h : Sp.sizeC.pre c) (hR : R (Sp.sizeC c)) : utf_size.vc R c := by
  unfold Sp.sizeC.pre at h
  unfold Sp.sizeC at hR
  by_cases c1 : 65536 ≤ c
  · rw [if_neg (by omega), if_neg (by omega), if_neg (by omega)] at hR
    refine ⟨1, ?_⟩
    show utf_size.L0 R c 4 _
    unfold utf_size.L0
    refine ⟨by first | exact ixd rfl | exact rgd rfl | exact mkd rfl | decide, ?_⟩
    rw [cond_dec, if_neg (by show ¬ c < 65536; omega)]
    exact hR
  by_cases c2 : 2048 ≤ c
  · rw [if_neg (by omega), if_neg (by omega), if_pos (by omega)] at hR
    refine ⟨2, ?_⟩
    show utf_size.L0 R c 4 _
    unfold utf_size.L0
    refine ⟨by first | exact ixd rfl | exact rgd rfl | exact mkd rfl | decide, ?_⟩
    rw [cond_dec, if_pos (by show c < 65536; omega)]
    refine ⟨by first | exact ixd rfl | exact rgd rfl | exact mkd rfl | decide, ?_⟩
    show utf_size.L0 R c 3 _
    unfold utf_size.L0
    refine ⟨by first | exact ixd rfl | exact rgd rfl | exact mkd rfl | decide, ?_⟩
    rw [cond_dec, if_neg (by show ¬ c < 2048; omega)]
    exact hR
  by_cases c3 : 128 ≤ c
  · rw [if_neg (by omega), if_pos (by omega)] at hR
    refine ⟨3, ?_⟩
    show utf_size.L0 R c 4 _
    unfold utf_size.L0
    refine ⟨by first | exact ixd rfl | exact rgd rfl | exact mkd rfl | decide, ?_⟩
    rw [cond_dec, if_pos (by show c < 65536; omega)]
    refine ⟨by first | exact ixd rfl | exact rgd rfl | exact mkd rfl | decide, ?_⟩
    show utf_size.L0 R c 3 _
    unfold utf_size.L0
    refine ⟨by first | exact ixd rfl | exact rgd rfl | exact mkd rfl | decide, ?_⟩
    rw [cond_dec, if_pos (by show c < 2048; omega)]
    refine ⟨by first | exact ixd rfl | exact rgd rfl | exact mkd rfl | decide, ?_⟩
    show utf_size.L0 R c 2 _
    unfold utf_size.L0
    refine ⟨by first | exact ixd rfl | exact rgd rfl | exact mkd rfl | decide, ?_⟩
    rw [cond_dec, if_neg (by show ¬ c < 128; omega)]
    exact hR
  · rw [if_pos (by omega)] at hR
    refine ⟨4, ?_⟩
    show utf_size.L0 R c 4 _
    unfold utf_size.L0
    refine ⟨by first | exact ixd rfl | exact rgd rfl | exact mkd rfl | decide, ?_⟩
    rw [cond_dec, if_pos (by show c < 65536; omega)]
    refine ⟨by first | exact ixd rfl | exact rgd rfl | exact mkd rfl | decide, ?_⟩
    show utf_size.L0 R c 3 _
    unfold utf_size.L0
    refine ⟨by first | exact ixd rfl | exact rgd rfl | exact mkd rfl | decide, ?_⟩
    rw [cond_dec, if_pos (by show c < 2048; omega)]
    refine ⟨by first | exact ixd rfl | exact rgd rfl | exact mkd rfl | decide, ?_⟩
    show utf_size.L0 R c 2 _
    unfold utf_size.L0
    refine ⟨by first | exact ixd rfl | exact rgd rfl | exact mkd rfl | decide, ?_⟩
    rw [cond_dec, if_pos (by show c < 128; omega)]
    refine ⟨by first | exact ixd rfl | exact rgd rfl | exact mkd rfl | decide, ?_⟩
    show utf_size.L0 R c 1 _
    unfold utf_size.L0
    refine ⟨by first | exact ixd rfl | exact rgd rfl | exact mkd rfl | decide, ?_⟩
    rw [cond_dec, if_neg (by show ¬ c < 0; omega)]
    exact hR

theorem bytes_core (R : List UInt8 → Prop) (c : Nat) (hc : c < 1114112) (hR : R (Sp.encC c)) :
    Sp.sizeC.pre c ∧ Mk (Sp.sizeC c) (Sp.sizeC c) 1 ∧ Rg IntKind.i64 (Sp.sizeC c - 1) ∧
      Lp (fun v K => utf_Bytes.L0 R v.fst v.snd.fst v.snd.snd.fst v.snd.snd.snd.fst K) ((c : Int), Sp.sizeC c, Sp.sizeC c - 1, rep (Sp.sizeC c) 0, ()) := by
  unfold Sp.encC at hR
  have hlow : ∀ x : Nat, x < 4294967296 → IntKind.u8.wrap (bitsO BinOp.or IntKind.i64 128 (bitsO BinOp.and IntKind.i64 (x : Int) 63)) = 128 + (x : Int) % 64 := fun x hx => Sp.low_eq hx
  have hd : ∀ x : Nat, (x : Int) / 2 ^ 6 = ((x / 64 : Nat) : Int) := fun x => by
    rw [show (2 : Int) ^ 6 = 64 from rfl]; omega
  have sh : Shf 6 .i64 := ⟨by decide, by decide⟩
  by_cases c1 : c < 128
  · have hs : Sp.sizeC c = 1 := by unfold Sp.sizeC; rw [if_pos (by omega)]
    rw [if_pos (by omega)] at hR
    rw [hs]
    refine ⟨by unfold Sp.sizeC.pre; omega, by first | exact ixd rfl | exact rgd rfl | exact mkd rfl | decide, by first | exact ixd rfl | exact rgd rfl | exact mkd rfl | decide, 1, ?_⟩
    show utf_Bytes.L0 R c 1 0 [0] _
    unfold utf_Bytes.L0
    rw [cond_dec, if_neg (by decide)]
    refine ⟨by first | exact ixd rfl | exact rgd rfl | exact mkd rfl | decide, by first | exact ixd rfl | exact rgd rfl | exact mkd rfl | decide, ?_⟩
    have := Sp.top_eq (a := 0) (j := 7) (c := c) (by omega) (by omega)
    rw [show (nth utfRows 1 (0, 0)).fst = ((2 ^ 7 * 0 : Nat) : Int) from rfl, this]
    refine cast (congrArg R ?_) hR
    simp [bytesOf, Sp.b8]
  by_cases c2 : c < 2048
  · have hs : Sp.sizeC c = 2 := by unfold Sp.sizeC; rw [if_neg (by omega), if_pos (by omega)]
    rw [if_neg (by omega), if_pos (by omega)] at hR
    rw [hs]
    refine ⟨by unfold Sp.sizeC.pre; omega, by first | exact ixd rfl | exact rgd rfl | exact mkd rfl | decide, by first | exact ixd rfl | exact rgd rfl | exact mkd rfl | decide, 2, ?_⟩
    show utf_Bytes.L0 R c 2 1 [0, 0] _
    unfold utf_Bytes.L0
    rw [cond_dec, if_pos (by decide)]
    refine ⟨by first | exact ixd rfl | exact rgd rfl | exact mkd rfl | decide, sh, by first | exact ixd rfl | exact rgd rfl | exact mkd rfl | decide, ?_⟩
    rw [hlow c (by omega), hd]
    show utf_Bytes.L0 R ((c / 64 : Nat) : Int) 2 0 [0, 128 + (c : Int) % 64] _
    unfold utf_Bytes.L0
    rw [cond_dec, if_neg (by decide)]
    refine ⟨by first | exact ixd rfl | exact rgd rfl | exact mkd rfl | decide, by first | exact ixd rfl | simp [ix_iff], ?_⟩
    have := Sp.top_eq (a := 6) (j := 5) (c := c / 64) (by omega) (by omega)
    rw [show (nth utfRows 2 (0, 0)).fst = ((2 ^ 5 * 6 : Nat) : Int) from rfl, this]
    refine cast (congrArg R ?_) hR
    simp only [bytesOf, Sp.b8, List.set, List.map]
    rfl
  by_cases c3 : c < 65536
  · have hs : Sp.sizeC c = 3 := by unfold Sp.sizeC; rw [if_neg (by omega), if_neg (by omega), if_pos (by omega)]
    rw [if_neg (by omega), if_neg (by omega), if_pos (by omega)] at hR
    rw [hs]
    refine ⟨by unfold Sp.sizeC.pre; omega, by first | exact ixd rfl | exact rgd rfl | exact mkd rfl | decide, by first | exact ixd rfl | exact rgd rfl | exact mkd rfl | decide, 3, ?_⟩
    show utf_Bytes.L0 R c 3 2 [0, 0, 0] _
    unfold utf_Bytes.L0
    rw [cond_dec, if_pos (by decide)]
    refine ⟨by first | exact ixd rfl | exact rgd rfl | exact mkd rfl | decide, sh, by first | exact ixd rfl | exact rgd rfl | exact mkd rfl | decide, ?_⟩
    rw [hlow c (by omega), hd]
    show utf_Bytes.L0 R ((c / 64 : Nat) : Int) 3 1 [0, 0, 128 + (c : Int) % 64] _
    unfold utf_Bytes.L0
    rw [cond_dec, if_pos (by decide)]
    refine ⟨by first | exact ixd rfl | simp [ix_iff], sh, by first | exact ixd rfl | exact rgd rfl | exact mkd rfl | decide, ?_⟩
    rw [hlow (c / 64) (by omega), hd]
    show utf_Bytes.L0 R ((c / 64 / 64 : Nat) : Int) 3 0 [0, 128 + ((c / 64 : Nat) : Int) % 64, 128 + (c : Int) % 64] _
    unfold utf_Bytes.L0
    rw [cond_dec, if_neg (by decide)]
    refine ⟨by first | exact ixd rfl | exact rgd rfl | exact mkd rfl | decide, by first | exact ixd rfl | simp [ix_iff], ?_⟩
    have := Sp.top_eq (a := 14) (j := 4) (c := c / 64 / 64) (by omega) (by omega)
    rw [show (nth utfRows 3 (0, 0)).fst = ((2 ^ 4 * 14 : Nat) : Int) from rfl, this]
    refine cast (congrArg R ?_) hR
    have e1 : (224 : Int) + (c : Int) / 4096 = ((2 ^ 4 * 14 + c / 64 / 64 : Nat) : Int) := by omega
    have e2 : (128 : Int) + (c : Int) / 64 % 64 = 128 + ((c / 64 : Nat) : Int) % 64 := by omega
    rw [e1, e2]
    rfl
  · have hs : Sp.sizeC c = 4 := by unfold Sp.sizeC; rw [if_neg (by omega), if_neg (by omega), if_neg (by omega)]
    rw [if_neg (by omega), if_neg (by omega), if_neg (by omega)] at hR
    rw [hs]
    refine ⟨by unfold Sp.sizeC.pre; omega, by first | exact ixd rfl | exact rgd rfl | exact mkd rfl | decide, by first | exact ixd rfl | exact rgd rfl | exact mkd rfl | decide, 4, ?_⟩
    show utf_Bytes.L0 R c 4 3 [0, 0, 0, 0] _
    unfold utf_Bytes.L0
    rw [cond_dec, if_pos (by decide)]
    refine ⟨by first | exact ixd rfl | exact rgd rfl | exact mkd rfl | decide, sh, by first | exact ixd rfl | exact rgd rfl | exact mkd rfl | decide, ?_⟩
    rw [hlow c (by omega), hd]
    show utf_Bytes.L0 R ((c / 64 : Nat) : Int) 4 2 [0, 0, 0, 128 + (c : Int) % 64] _
    unfold utf_Bytes.L0
    rw [cond_dec, if_pos (by decide)]
    refine ⟨by first | exact ixd rfl | simp [ix_iff], sh, by first | exact ixd rfl | exact rgd rfl | exact mkd rfl | decide, ?_⟩
    rw [hlow (c / 64) (by omega), hd]
    show utf_Bytes.L0 R ((c / 64 / 64 : Nat) : Int) 4 1 [0, 0, 128 + ((c / 64 : Nat) : Int) % 64, 128 + (c : Int) % 64] _
    unfold utf_Bytes.L0
    rw [cond_dec, if_pos (by decide)]
    refine ⟨by first | exact ixd rfl | simp [ix_iff], sh, by first | exact ixd rfl | exact rgd rfl | exact mkd rfl | decide, ?_⟩
    rw [hlow (c / 64 / 64) (by omega), hd]
    show utf_Bytes.L0 R ((c / 64 / 64 / 64 : Nat) : Int) 4 0 [0, 128 + ((c / 64 / 64 : Nat) : Int) % 64, 128 + ((c / 64 : Nat) : Int) % 64, 128 + (c : Int) % 64] _
    unfold utf_Bytes.L0
    rw [cond_dec, if_neg (by decide)]
    refine ⟨by first | exact ixd rfl | exact rgd rfl | exact mkd rfl | decide, by first | exact ixd rfl | simp [ix_iff], ?_⟩
    have := Sp.top_eq (a := 30) (j := 3) (c := c / 64 / 64 / 64) (by omega) (by omega)
    rw [show (nth utfRows 4 (0, 0)).fst = ((2 ^ 3 * 30 : Nat) : Int) from rfl, this]
    refine cast (congrArg R ?_) hR
    have e1 : (240 : Int) + (c : Int) / 262144 = ((2 ^ 3 * 30 + c / 64 / 64 / 64 : Nat) : Int) := by omega
    have e2 : (128 : Int) + (c : Int) / 4096 % 64 = 128 + ((c / 64 / 64 : Nat) : Int) % 64 := by omega
    have e3 : (128 : Int) + (c : Int) / 64 % 64 = 128 + ((c / 64 : Nat) : Int) % 64 := by omega
    rw [e1, e2, e3]
    rfl
theorem utf_Bytes.ok (R : List UInt8 → Prop) (c : Int) (hR : R (Sp.bytesC c)) : utf_Bytes.vc R c := by
  unfold utf_Bytes.vc
  unfold Sp.bytesC at hR
  cases h : Sp.isC c with
  | false =>
    rw [h] at hR
    exact bytes_core R 65533 (by decide) hR
  | true =>
    rw [h, if_pos rfl] at hR
    rw [Sp.isC_eq] at h
    have h := of_decide_eq_true h
    obtain ⟨n, rfl⟩ : ∃ n : Nat, c = n := ⟨c.toNat, by omega⟩
    exact bytes_core R n (by omega) hR

theorem strings_Builder_WriteString.ok (R : Int → List Int → Prop) (s : Str) (x : List Int) (h : Sp.wr.pre x s) (hR : R (s.length : Int) (Sp.wr x s)) : strings_Builder_WriteString.vc R s x := by
  unfold Sp.wr.pre at h
  exact ⟨by rw [gr_iff, List.length_map]; omega, hR⟩
/- Nodes as texts: what is told, shown of the conditions: nodes. Plain theorems. -/

namespace Sp
theorem h_ints_len (s : Str) : (ints s).length = s.length := by simp [ints]
theorem wr_wr (x : List Int) (a b : Str) : wr (wr x a) b = wr x (a ++ b) := by unfold wr; rw [ints_app, List.append_assoc]
theorem wr_nil (x : List Int) : wr x [] = x := by unfold wr; simp [ints]
theorem wr_len (x : List Int) (s : Str) : (wr x s).length = x.length + s.length := by unfold wr; rw [List.length_append, h_ints_len]
theorem wr_zero (s : Str) : wr [] s = ints s := by unfold wr; rfl
theorem pkL_mem : ∀ {l : List Vi.Node} {n : Vi.Node}, pkL l → n ∈ l → pkN n
  | m :: l, n, h, hm => by
    rw [pkL] at h
    rcases List.mem_cons.1 hm with rfl | hm
    · exact h.1
    · exact pkL_mem h.2 hm
theorem pkN_eq {n : Vi.Node} (h : pkN n) : n.name.length ≤ 1000 ∧ okA n.attrs ∧ n.text.length ≤ 100000 ∧ n.kids.length ≤ 1000000 ∧ pkL n.kids := by
  cases n; rw [pkN] at h; exact h
theorem attrT_len {a : Str × Str} (h : a.1.length ≤ 1000 ∧ a.2.length ≤ 10000) : (attrT a).length ≤ 61010 := by
  have := esc_len true a.2
  unfold attrT
  simp only [List.length_append, List.length_cons, List.length_nil]
  omega
theorem attrs_len {a : List (Str × Str)} (h : ∀ x, x ∈ a → x.1.length ≤ 1000 ∧ x.2.length ≤ 10000) : (a.flatMap attrT).length ≤ 61010 * a.length := by
  induction a with
  | nil => simp
  | cons x a ih =>
    have h1 := attrT_len (h x (List.mem_cons_self ..))
    have h2 := ih fun y hy => h y (List.mem_cons_of_mem _ hy)
    rw [List.flatMap_cons, List.length_append, List.length_cons]
    omega
theorem openT_len {n : Str} {a : List (Str × Str)} (h1 : n.length ≤ 1000) (h2 : okA a) : (openT n a).length ≤ 6200000 := by
  have := attrs_len h2.2
  have := h2.1
  unfold openT
  simp only [List.length_append, List.length_cons, List.length_nil]
  omega
mutual
theorem inN_len : ∀ (raw : Bool) (n : Vi.Node), pkN n → (inN raw n).length ≤ 10000000 * szN n
  | raw, .mk k s n a t c, h => by
    rw [pkN] at h
    obtain ⟨h1, h2, h3, _, h5⟩ := h
    have ho := openT_len h1 h2
    have he := esc_len false t
    have hk := inL_len (rawNd (.mk k s n a t c)) c h5
    rw [inN, szN]
    split
    · split
      · omega
      · simp only [List.length_append, List.length_cons, List.length_nil]; omega
    split
    · split <;> omega
    split
    · simp only [List.length_append, List.length_cons, List.length_nil]; omega
    · exact Nat.zero_le _
theorem inL_len : ∀ (raw : Bool) (l : List Vi.Node), pkL l → (inL raw l).length ≤ 10000000 * szL l
  | _, [], _ => Nat.zero_le _
  | raw, n :: l, h => by
    rw [pkL] at h
    have h1 := inN_len raw n h.1
    have h2 := inL_len raw l h.2
    rw [inL, szL, List.length_append]
    omega
end
theorem cntN_eq (n : Vi.Node) : cntN n = cntL n.kids + 1 := by cases n; rw [cntN]; rfl
mutual
theorem lnN_len : ∀ (ahead : Str) (n : Vi.Node), (lnN ahead n).length = cntN n
  | ahead, .mk k s n a t c => by rw [lnN, cntN, List.length_cons, lnL_len]
theorem lnL_len : ∀ (ahead : Str) (l : List Vi.Node), (lnL ahead l).length = cntL l
  | _, [] => rfl
  | ahead, n :: l => by rw [lnL, cntL, List.length_append, lnN_len, lnL_len]
end
mutual
theorem cntN_sz : ∀ n : Vi.Node, cntN n ≤ szN n
  | .mk _ _ _ _ _ c => by have := cntL_sz c; rw [cntN, szN]; omega
theorem cntL_sz : ∀ l : List Vi.Node, cntL l ≤ szL l
  | [] => Nat.le_refl _
  | n :: l => by have := cntN_sz n; have := cntL_sz l; rw [cntL, szL]; omega
end
theorem szL_drop (l : List Vi.Node) (q : Nat) (hq : q < l.length) : szL (l.drop q) = szN (nth l (q : Int) (Vi.Node.mk 0 0 [] [] [] [])) + szL (l.drop (q + 1)) + 1 := by
  rw [drop_cons (d := Vi.Node.mk 0 0 [] [] [] []) hq, szL]
end Sp

namespace Sp
theorem nat_of {b : UInt8} {k : Nat} (hk : k < 256) : ((b.toNat : Int) = (k : Int)) ↔ b = UInt8.ofNat k := by
  constructor
  · intro h
    have h : b.toNat = k := by omega
    rw [← h]; simp
  · rintro rfl
    simp
    omega
end Sp
theorem tags_Void.ok (R : Bool → Prop) (name : Str) (hR : R (Sp.voidN name)) : tags_Void.vc R name := by
  unfold tags_Void.vc
  unfold Sp.voidN at hR
  cases h : decide (Sp.groupN name = 11) with
  | true => rw [h] at hR; exact hR
  | false => rw [h] at hR; exact hR
/- Nodes as texts: what is told, shown of the conditions: printing. Plain theorems. -/

namespace Sp
theorem node_eta (n : Vi.Node) : Vi.Node.mk n.kind n.space n.name n.attrs n.text n.kids = n := by cases n; rfl
end Sp
namespace Sp
end Sp
/- Nodes as texts: what is told, shown of the conditions: lines; laws. Plain theorems. -/

theorem rectoref08_Count.ok (nn : Nat) (R : Int → Prop) (l : List Vi.Node) (h : Sp.prOk l ∧ Sp.mCt l < nn + 1) (hR : R (Sp.countP l)) : rectoref08_Count.vc R nn l := by
  obtain ⟨⟨h1, h2, h3⟩, h5⟩ := h
  unfold Sp.mCt at h5
  unfold Sp.countP at hR
  unfold rectoref08_Count.vc
  refine Lp_rule (fun v => ∃ (q k : Nat), v = ((k : Int), l, (l.length : Int), (q : Int), ()) ∧ q ≤ l.length ∧ k + Sp.cntL (l.drop q) = Sp.cntL l) (fun v => l.length - v.2.2.2.1.toNat) ?_ ⟨0, 0, rfl, Nat.zero_le _, by rw [List.drop_zero]; omega⟩
  rintro _ K ⟨q, k, rfl, hq, he⟩ hK
  have hall := Sp.cntL_sz l
  simp only [rectoref08_Count.L0, cond_dec]
  split
  · have hq' : q < l.length := by omega
    have hm := Sp.nth_mem (d := Vi.Node.mk 0 0 [] [] [] []) hq'
    rw [drop_cons (d := Vi.Node.mk 0 0 [] [] [] []) hq', Sp.cntL] at he
    have hz := Sp.szL_lt hm
    have hp := Sp.pkL_mem h2 hm
    generalize nth l (q : Int) (Vi.Node.mk 0 0 [] [] [] []) = n at *
    obtain ⟨k1, k2, k3, k4, k5⟩ := Sp.pkN_eq hp
    rw [Sp.cntN_eq] at he
    rw [Sp.szN_eq] at hz
    unfold Sp.countP
    refine ⟨by rw [ix_iff]; omega, by rw [rg64]; omega, ⟨⟨k4, k5, by omega⟩, by unfold Sp.mCt; omega⟩, by rw [rg64]; omega, by rw [rg64]; omega, ?_⟩
    exact hK _ ⟨q + 1, k + 1 + Sp.cntL n.kids, by simp, by omega, by omega⟩ (by simp only; omega)
  · have : q = l.length := by omega
    subst this
    rw [List.drop_length, Sp.cntL, Nat.add_zero] at he
    rw [he]; exact hR

namespace Sp
mutual
theorem lgN_pk : ∀ (n : Vi.Node) (r d : Int), (lgN n r d).1 = false → pkN n ∧ (szN n : Int) + 1 ≤ 2 * (r - (lgN n r d).2)
  | .mk k s nm a t c, r, d, h => by
    rw [lgN] at h ⊢
    split at h
    · cases h
    rename_i c1
    rw [if_neg c1]
    split at h
    · cases h
    rename_i c2
    rw [if_neg c2]
    split at h
    · cases h
    rename_i c3
    rw [if_neg c3]
    have hc : (lgL c (r - 1 - (t.length : Int) / 16 - a.length) (d + 1)).1 = false := by
      cases e : (lgL c (r - 1 - (t.length : Int) / 16 - a.length) (d + 1)).1 with
      | false => rfl
      | true => exact absurd (.inl e) c3
    obtain ⟨g1, g2⟩ := lgL_pk c _ _ hc
    rw [pkN, szN]
    refine ⟨⟨by omega, ⟨by omega, fun x hx => ?_⟩, by omega, by omega, g1⟩, by simp only; omega⟩
    have h1 : a.any (fun x => decide (100 < (x.1.length : Int) ∨ 2000 < (x.2.length : Int))) = false := by
      cases e : a.any (fun x => decide (100 < (x.1.length : Int) ∨ 2000 < (x.2.length : Int))) with
      | false => rfl
      | true => exact absurd (.inl e) c2
    have := List.any_eq_false.1 h1 x hx
    simp only [decide_eq_true_eq] at this
    omega
theorem lgL_pk : ∀ (l : List Vi.Node) (r d : Int), (lgL l r d).1 = false → pkL l ∧ (szL l : Int) ≤ 2 * (r - (lgL l r d).2)
  | [], r, _, _ => by rw [pkL, lgL, szL]; exact ⟨trivial, by simp⟩
  | n :: l, r, d, h => by
    rw [lgL] at h ⊢
    split at h
    · rename_i c; rw [c] at h; cases h
    · rename_i c
      rw [if_neg c, pkL, szL]
      obtain ⟨g1, g2⟩ := lgN_pk n r d (by cases e : (lgN n r d).1 with | false => rfl | true => exact absurd e c)
      obtain ⟨g3, g4⟩ := lgL_pk l _ _ h
      exact ⟨⟨g1, g3⟩, by omega⟩
end
theorem lg_pk {l : List Vi.Node} {r : Int} (h : (lg l 1 r).1 = false) (hr : r ≤ 100000) : prOk l ∧ (szL l : Int) ≤ 2 * r := by
  have h0 := lg_nonneg h
  unfold lg at h h0
  split at h
  · cases h
  rename_i c
  rw [if_neg c] at h0
  split at h
  · rename_i c2; rw [c2] at h; cases h
  · rename_i c2
    rw [if_neg c2] at h0
    obtain ⟨g1, g2⟩ := lgL_pk l r 1 (by cases e : (lgL l r 1).1 with | false => rfl | true => exact absurd e c2)
    exact ⟨⟨by omega, g1, by simp only at h0; omega⟩, by simp only at h0; omega⟩
theorem prOk_app {a b : List Vi.Node} (ha : prOk a ∧ szL a ≤ 1600) (hb : prOk b ∧ szL b ≤ 1600) : prOk (a ++ b) ∧ szL (a ++ b) ≤ 3200 := by
  have hs : ∀ (a b : List Vi.Node), szL (a ++ b) = szL a + szL b := fun a b => by
    induction a with
    | nil => simp [szL]
    | cons x a ih => rw [List.cons_append, szL, szL, ih]; omega
  have hp : ∀ (a b : List Vi.Node), pkL a → pkL b → pkL (a ++ b) := fun a b h1 h2 => by
    induction a with
    | nil => exact h2
    | cons x a ih => rw [List.cons_append, pkL]; rw [pkL] at h1; exact ⟨h1.1, ih h1.2⟩
  have hl : ∀ a : List Vi.Node, a.length ≤ szL a := fun a => by
    induction a with
    | nil => simp
    | cons x a ih => rw [szL, List.length_cons]; omega
  have h1 := hl a
  have h2 := hl b
  refine ⟨⟨by rw [List.length_append]; omega, hp a b ha.1.2.1 hb.1.2.1, by rw [hs]; omega⟩, by rw [hs]; omega⟩
end Sp
namespace Sp
end Sp
namespace Sp
end Sp