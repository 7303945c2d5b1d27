/- Records in a row of a disk's blocks: what is told, shown of the conditions. Plain theorems. -/
import Derived.Test.YtpgodffogmgnhaaVcL
import Derived.Test.YtpgodffogmgnhaaPlD
import Derived.Test.YtpgodffogmgnhaaPlN
set_option linter.unnecessarySimpa false
set_option linter.unusedVariables false
set_option linter.unusedSectionVars false
set_option linter.unusedSimpArgs false
set_option autoImplicit false
open Go Vi

namespace Sp
theorem takeText_less {b : Str} (h : (takeText b).2.2 = 0) : (takeText b).2.1.length < b.length := by
  unfold takeText at h ⊢
  split at h
  · simp at h
  · rename_i c
    rw [if_neg c]
    have hn : (takeNum b).2.2 = 0 := by
      rcases Int.decEq (takeNum b).2.2 0 with q | q
      · exact absurd (.inl q) c
      · exact q
    have : (takeNum b).2.1.length < b.length := by
      cases b with
      | nil => simp [takeNum] at hn
      | cons k t =>
        have e : takeNum (k :: t) = if 6 < k.toNat ∨ t.length < k.toNat then (0, [], 4) else bif (t.take k.toNat).head? == some 0 then (0, [], 4) else if maxInt < val 0 (t.take k.toNat) then (0, [], 4) else (val 0 (t.take k.toNat), t.drop k.toNat, 0) := rfl
        rw [e] at hn ⊢
        clear e
        split at hn
        · simp at hn
        rename_i c1
        rw [if_neg c1]
        cases hz : ((t.take k.toNat).head? == some 0) with
        | true => rw [hz] at hn; simp at hn
        | false =>
          rw [hz] at hn
          simp only [cond_false] at hn ⊢
          split at hn
          · simp at hn
          · rename_i c2
            rw [if_neg c2]
            simp only [List.length_drop, List.length_cons]; omega
    simp only [List.length_drop]; omega
theorem takeText_fst (b : Str) : (takeText b).1.length ≤ b.length := by
  have := takeNum_rest b
  unfold takeText
  split
  · simp
  · simp only [List.length_take]; omega
theorem eachF_enough : ∀ (k m : Nat) (b : Str), b.length ≤ k → b.length ≤ m → eachF k b = eachF m b
  | 0, m, b, h, h2 => by
    have : b = [] := List.eq_nil_of_length_eq_zero (by omega)
    subst this
    cases m with
    | zero => rfl
    | succ m => rfl
  | k + 1, 0, b, h, h2 => by
    have : b = [] := List.eq_nil_of_length_eq_zero (by omega)
    subst this; rfl
  | k + 1, m + 1, b, h, h2 => by
    rw [eachF, eachF]
    by_cases hb : b = []
    · rw [if_pos hb, if_pos hb]
    · rw [if_neg hb, if_neg hb]
      by_cases ht : (takeText b).2.2 = 0
      · rw [if_pos ht, if_pos ht]
        have := takeText_less ht
        rw [eachF_enough k m _ (by omega) (by omega)]
      · rw [if_neg ht, if_neg ht]
theorem eachL_nil : eachL [] = [] := rfl
theorem eachL_bad {b : Str} (h : ¬ (takeText b).2.2 = 0) : eachL b = [] := by
  unfold eachL
  cases hl : b.length with
  | zero => rfl
  | succ k =>
    rw [eachF]
    split
    · rfl
    · rfl
theorem eachL_cons {b : Str} (hb : b ≠ []) (h : (takeText b).2.2 = 0) : eachL b = ((takeText b).1, (takeText b).2.1) :: eachL (takeText b).2.1 := by
  have h2 := takeText_less h
  unfold eachL
  cases hl : b.length with
  | zero => exact absurd (List.eq_nil_of_length_eq_zero hl) hb
  | succ k =>
    rw [eachF, if_neg hb, if_pos h, eachF_enough k _ _ (by omega) (Nat.le_refl _)]
theorem eachF_len : ∀ (k : Nat) (b : Str), (eachF k b).length ≤ b.length
  | 0, b => Nat.zero_le _
  | k + 1, b => by
    rw [eachF]
    split
    · exact Nat.zero_le _
    split
    · rename_i h
      have := takeText_less h
      have := eachF_len k (takeText b).2.1
      rw [List.length_cons]; omega
    · exact Nat.zero_le _
theorem eachL_len (b : Str) : (eachL b).length ≤ b.length := eachF_len _ _
theorem leftP_snoc (b : Str) (pre : List (Str × Str)) (x : Str × Str) : leftP b (pre ++ [x]) = x.2 := by
  unfold leftP
  rw [List.getLast?_append]
  rfl
theorem eachF_mem : ∀ (k : Nat) (b : Str) (x : Str × Str), x ∈ eachF k b → x.1.length ≤ b.length
  | 0, b, x, h => absurd h List.not_mem_nil
  | k + 1, b, x, h => by
    rw [eachF] at h
    split at h
    · exact absurd h List.not_mem_nil
    split at h
    · rename_i ht
      rcases List.mem_cons.1 h with rfl | h
      · exact takeText_fst b
      · have := eachF_mem k _ x h
        have := takeText_less ht
        omega
    · exact absurd h List.not_mem_nil
theorem recsB_mem {b s : Str} (h : s ∈ recsB b) : s.length ≤ b.length := by
  unfold recsB at h
  obtain ⟨x, hx, rfl⟩ := List.mem_map.1 h
  exact eachF_mem _ _ _ hx
theorem recsB_len (b : Str) : (recsB b).length ≤ b.length := by unfold recsB; rw [List.length_map]; exact eachL_len b
theorem dPre_up9 {d : DSt} (h : dOk 90000 d) : dPre d := dOk_up h (by omega)
theorem textP_len {s : Str} (h : (textP s).2 = 0) : (s.length : Int) ≤ 65536 ∧ (textP s).1 = plain s.length ++ s := by
  unfold textP at h ⊢
  split at h
  · simp at h
  · rename_i c
    rw [if_neg c]
    unfold maxBytes at c
    exact ⟨by omega, rfl⟩
theorem textP_size {s : Str} (h : (textP s).2 = 0) : (textP s).1.length ≤ s.length + 7 := by
  obtain ⟨h1, h2⟩ := textP_len h
  rw [h2, List.length_append]
  have := plain_len (n := (s.length : Int)) (by unfold maxInt; omega)
  omega
theorem blocksOf_nat {n : Int} (h : 0 ≤ n) : 0 ≤ blocksOf n ∧ n ≤ 256 * blocksOf n ∧ 256 * blocksOf n ≤ n + 255 := by unfold blocksOf; omega
theorem page_len (b : Str) (i : Int) : (pageB b i).length = 256 := by
  unfold pageB
  rw [List.length_append, List.length_replicate]
  have : ((b.drop (256 * i.toNat)).take 256).length ≤ 256 := by rw [List.length_take]; omega
  omega
theorem repS_zero (n : Nat) : repS [0] (n : Int) = List.replicate n 0 := by
  unfold repS
  rw [Int.toNat_natCast]
  induction n with
  | zero => rfl
  | succ k ih => rw [List.replicate_succ, List.flatten_cons, ih]; rfl
theorem page_eq {b : Str} {p : Nat} (h : 256 * p < b.length) : sub b ((p : Int) * 256) (mn (b.length : Int) (((p : Int) + 1) * 256)) = (b.drop (256 * p)).take 256 := by
  unfold sub mn
  rw [show ((p : Int) * 256).toNat = 256 * p by omega]
  rw [List.drop_take]
  by_cases c : b.length ≤ 256 * (p + 1)
  · rw [List.take_of_length_le (by rw [List.length_drop]; omega), List.take_of_length_le (by rw [List.length_drop]; omega)]
  · congr 1; omega
end Sp

theorem log_blocksOf.ok (R : Int → Prop) (n : Int) (h : Sp.blocksOf.pre n) (hR : R (Sp.blocksOf n)) : log_blocksOf.vc R n := by
  obtain ⟨h1, h2⟩ := h
  unfold log_blocksOf.vc
  rw [rg64, rg64, dv_iff, show n + 256 - 1 = n + 255 by omega]
  exact ⟨by omega, by omega, by omega, hR⟩

abbrev RL := Int → Int → List UInt8 → Int → Bool → Bool → Int → Bool → List Int → List (List (List UInt8)) → List (Int × List (List UInt8)) → Prop
theorem log_Log_Bytes.ok (R : Int → RL) (from_ blocks : Int) (b : Str) (sealed : Int) (down armed : Bool) (after : Int) (acut : Bool) (keep : List Int) (bs : List (List Str)) (ws : List (Int × List Str)) (hR : R (Sp.lBytes (from_, blocks, b, sealed)) from_ blocks b sealed down armed after acut keep bs ws) : log_Log_Bytes.vc R from_ blocks b sealed down armed after acut keep bs ws := hR
theorem log_Bytes_nil.ok (R : Int → Prop) (hR : R 0) : log_Bytes_nil.vc R := hR
theorem log_Log_Sealed.ok (R : Int → RL) (from_ blocks : Int) (b : Str) (sealed : Int) (down armed : Bool) (after : Int) (acut : Bool) (keep : List Int) (bs : List (List Str)) (ws : List (Int × List Str)) (hR : R (Sp.lSealed (from_, blocks, b, sealed)) from_ blocks b sealed down armed after acut keep bs ws) : log_Log_Sealed.vc R from_ blocks b sealed down armed after acut keep bs ws := hR
theorem log_Sealed_nil.ok (R : Int → Prop) (hR : R 0) : log_Sealed_nil.vc R := hR
theorem log_Log_Room.ok (R : Int → RL) (from_ blocks : Int) (b : Str) (sealed : Int) (down armed : Bool) (after : Int) (acut : Bool) (keep : List Int) (bs : List (List Str)) (ws : List (Int × List Str)) (h : Sp.lOk (from_, blocks, b, sealed)) (hR : R (Sp.lRoom (from_, blocks, b, sealed)) from_ blocks b sealed down armed after acut keep bs ws) : log_Log_Room.vc R from_ blocks b sealed down armed after acut keep bs ws := by
  obtain ⟨h1, h2, h3, h4, h5, h6, h7⟩ := h
  simp only [Sp.LSt.frm, Sp.LSt.blocks, Sp.LSt.b, Sp.LSt.sealed] at h1 h2 h3 h4 h5 h6 h7
  unfold log_Log_Room.vc
  rw [rg64, rg64]
  exact ⟨by omega, by omega, hR⟩
theorem log_Room_nil.ok (R : Int → Prop) (hR : R 0) : log_Room_nil.vc R := hR
theorem log_Log_Add.ok (R : Int → RL) (s : Str) (from_ blocks : Int) (b : Str) (sealed : Int) (down armed : Bool) (after : Int) (acut : Bool) (keep : List Int) (bs : List (List Str)) (ws : List (Int × List Str)) (h : Sp.lOk (from_, blocks, b, sealed))
    (hR : R (Sp.lAdd s (from_, blocks, b, sealed)).2 (Sp.lAdd s (from_, blocks, b, sealed)).1.1 (Sp.lAdd s (from_, blocks, b, sealed)).1.2.1 (Sp.lAdd s (from_, blocks, b, sealed)).1.2.2.1 (Sp.lAdd s (from_, blocks, b, sealed)).1.2.2.2 down armed after acut keep bs ws) : log_Log_Add.vc R s from_ blocks b sealed down armed after acut keep bs ws := by
  unfold log_Log_Add.vc
  unfold Sp.lAdd at hR
  rw [cond_ndec]
  split
  · rename_i c1
    rw [if_neg (fun q => q c1)] at hR
    refine ⟨h, ?_⟩
    rw [cond_dec]
    split
    · rename_i c2; rw [if_pos c2] at hR; exact hR
    · rename_i c2
      rw [if_neg c2] at hR
      have h7 := h.2.2.2.2.2.2
      have h4 := h.2.2.2.1
      have h8 := Sp.textP_size c1
      have h9 := (Sp.textP_len c1).1
      simp only [Sp.LSt.blocks, Sp.LSt.b] at h7 h4
      exact ⟨by omega, hR⟩
  · rename_i c1; rw [if_pos c1] at hR; exact hR
theorem log_Add_nil.ok (R : Int → Prop) (s : Str) (hR : R 7) : log_Add_nil.vc R s := hR
theorem log_Log_Seal.ok (R : RL) (from_ blocks : Int) (b : Str) (sealed : Int) (down armed : Bool) (after : Int) (acut : Bool) (keep : List Int) (bs : List (List Str)) (ws : List (Int × List Str)) (hR : R from_ blocks b (b.length : Int) down armed after acut keep bs ws) : log_Log_Seal.vc R from_ blocks b sealed down armed after acut keep bs ws := hR
theorem log_Seal_nil.ok (R : Prop) (hR : R) : log_Seal_nil.vc R := hR
theorem log_Log_Drop.ok (R : RL) (from_ blocks : Int) (b : Str) (sealed : Int) (down armed : Bool) (after : Int) (acut : Bool) (keep : List Int) (bs : List (List Str)) (ws : List (Int × List Str)) (h : Sp.lOk (from_, blocks, b, sealed)) (hR : R from_ blocks (b.take sealed.toNat) sealed down armed after acut keep bs ws) : log_Log_Drop.vc R from_ blocks b sealed down armed after acut keep bs ws := by
  obtain ⟨h1, h2, h3, h4, h5, h6, h7⟩ := h
  simp only [Sp.LSt.frm, Sp.LSt.blocks, Sp.LSt.b, Sp.LSt.sealed] at h1 h2 h3 h4 h5 h6 h7
  unfold log_Log_Drop.vc
  rw [sb_iff]
  exact ⟨by omega, hR⟩
theorem log_Drop_nil.ok (R : Prop) (hR : R) : log_Drop_nil.vc R := hR
theorem log_Records_nil.ok (R : List (List UInt8) → Prop) (hR : R []) : log_Records_nil.vc R := hR
theorem log_Write_nil.ok (R : Int → Prop) (hR : R 7) : log_Write_nil.vc R := hR

theorem log_Log_Write.ok (R : Int → RL) (from_ blocks : Int) (b : Str) (sealed : Int) (down armed : Bool) (after : Int) (acut : Bool) (keep : List Int) (bs : List (List Str)) (ws : List (Int × List Str)) (h : Sp.lPre (from_, blocks, b, sealed) (down, armed, after, acut, keep, bs, ws))
    (hR : Sp.ap (R (Sp.lWrite (from_, blocks, b, sealed) (down, armed, after, acut, keep, bs, ws)).2 from_ blocks b sealed) (Sp.lWrite (from_, blocks, b, sealed) (down, armed, after, acut, keep, bs, ws)).1) : log_Log_Write.vc R from_ blocks b sealed down armed after acut keep bs ws := by
  obtain ⟨⟨h1, h2, h3, h4, h5, h6, h7⟩, hd⟩ := h
  simp only [Sp.LSt.frm, Sp.LSt.blocks, Sp.LSt.b, Sp.LSt.sealed] at h1 h2 h3 h4 h5 h6 h7
  have hbl := Sp.blocksOf_nat (n := (b.length : Int)) (by omega)
  refine ⟨⟨by omega, by omega⟩, ?_⟩
  unfold Sp.lWrite at hR
  simp only [Sp.LSt.b, Sp.LSt.sealed] at hR
  by_cases c : sealed < (b.length : Int)
  · rw [if_pos c] at hR
    obtain ⟨i0, hi0⟩ : ∃ i0 : Nat, sealed / 256 = i0 := ⟨(sealed / 256).toNat, by omega⟩
    obtain ⟨k0, hk0⟩ : ∃ k0 : Nat, (Sp.blocksOf (b.length : Int) - sealed / 256).toNat = k0 := ⟨_, rfl⟩
    rw [hk0, hi0] at hR
    rw [hi0]
    have hik : (i0 : Int) + k0 = Sp.blocksOf (b.length : Int) := by unfold Sp.blocksOf at *; omega
    refine Lp_rule (fun v => ∃ (i k : Nat) (d : Sp.DSt), v = ((i : Int), from_, blocks, b, sealed, Sp.q7 d ()) ∧ (i : Int) + k = Sp.blocksOf (b.length : Int) ∧ i0 ≤ i ∧ Sp.dOk (90000 + (i - i0)) d ∧ Sp.wrF (from_, blocks, b, sealed) k (i : Int) d = Sp.wrF (from_, blocks, b, sealed) k0 (i0 : Int) (down, armed, after, acut, keep, bs, ws))
      (fun v => (Sp.blocksOf (b.length : Int) - v.1).toNat) ?_ ⟨i0, k0, _, rfl, hik, Nat.le_refl _, by rw [Nat.sub_self]; exact hd, rfl⟩
    rintro _ K ⟨i, k, d, rfl, hk, hi, hdo, he⟩ hK
    show log_Log_Write.L0 R (i : Int) from_ blocks b sealed d.1 d.2.1 d.2.2.1 d.2.2.2.1 d.2.2.2.2.1 d.2.2.2.2.2.1 d.2.2.2.2.2.2 K
    unfold log_Log_Write.L0
    simp only [Sp.mk_eta]
    refine ⟨⟨by omega, by omega⟩, ?_⟩
    rw [cond_dec]
    split
    · rename_i c1
      obtain ⟨k, rfl⟩ : ∃ m, k = m + 1 := ⟨k - 1, by omega⟩
      have hip : 256 * i < b.length := by omega
      rw [Sp.page_eq hip]
      have hpl : ((b.drop (256 * i)).take 256).length ≤ 256 := by rw [List.length_take]; omega
      have hpe : (b.drop (256 * i)).take 256 ++ Sp.repS [0] (256 - (((b.drop (256 * i)).take 256).length : Int)) = Sp.pageB b (i : Int) := by
        unfold Sp.pageB
        rw [Int.toNat_natCast, show (256 : Int) - (((b.drop (256 * i)).take 256).length : Int) = ((256 - ((b.drop (256 * i)).take 256).length : Nat) : Int) by omega, Sp.repS_zero]
      have hrl : (Sp.repS [0] (256 - (((b.drop (256 * i)).take 256).length : Int))).length ≤ 256 := by
        have := congrArg List.length hpe
        rw [List.length_append, Sp.page_len] at this
        omega
      rw [hpe, cond_dec, if_pos c, rg64, rg64, rg64, rg64, rg64, sb_iff]
      rw [Sp.wrF] at he
      have hpw : Sp.dWrite.pre (from_ + (i : Int)) (Sp.pageB b (i : Int)) d := ⟨Sp.dOk_up hdo (by omega), by rw [Sp.page_len]; omega⟩
      have hwo := Sp.write_ok (i := from_ + (i : Int)) hdo (by omega) (Sp.page_len b (i : Int))
      simp only [Sp.LSt.frm, Sp.LSt.b] at he
      refine ⟨by omega, by omega, by omega, by unfold mn; omega, by omega, by omega, ⟨by omega, by omega, by simp⟩, by omega, hpw, ?_⟩
      rw [cond_ndec]
      split
      · rename_i c2
        rw [if_neg (fun q => q c2)] at he
        exact ⟨by omega, hK _ ⟨i + 1, k, _, rfl, by omega, by omega, by rw [show i + 1 - i0 = (i - i0) + 1 by omega]; exact hwo, he⟩ (by simp only; omega)⟩
      · rename_i c2
        rw [if_pos c2] at he
        rw [← he] at hR
        exact hR
    · rename_i c1
      have : k = 0 := by omega
      subst this
      rw [Sp.wrF] at he
      rw [← he] at hR
      exact hR
  · rw [if_neg c] at hR
    refine Lp_rule (fun v => v = (sealed / 256, from_, blocks, b, sealed, down, armed, after, acut, keep, bs, ws, ())) (fun _ => 0) ?_ rfl
    rintro _ K rfl hK
    simp only [log_Log_Write.L0, cond_dec]
    refine ⟨⟨by omega, by omega⟩, ?_⟩
    split
    · exact hR
    · exact hR


namespace Sp
theorem read_256 {n : Nat} {d : DSt} (h : dOk n d) (i : Int) (he : (dRead i d).2 = 0) : (dRead i d).1.length = 256 := by
  unfold dRead at he ⊢
  cases hi : inD i d with
  | false => rw [hi] at he; simp at he
  | true =>
    rw [hi] at he
    rw [if_neg (by simp)] at he ⊢
    split at he
    · simp at he
    · rename_i c
      rw [if_neg c]
      have hi' := in_iff.1 hi
      exact bOk_len (lastW_ok (h.2.1 _ (nth_get hi'.1 hi'.2)) (fun w hw => (h.2.2.2.1 w hw).2.2))
theorem rd_len {n : Nat} {d : DSt} (h : dOk n d) : ∀ (k : Nat) (i : Int), (rdF d k i).2 = 0 → (rdF d k i).1.length = 256 * k
  | 0, i, _ => rfl
  | k + 1, i, he => by
    rw [rdF] at he ⊢
    split at he
    · rename_i c; exact absurd he c
    split at he
    · rename_i c1 c2; exact absurd he c2
    · rename_i c1 c2
      have e1 : (dRead i d).2 = 0 := by rcases Int.decEq (dRead i d).2 0 with q | q; exact absurd q c1; exact q
      have e2 : (rdF d k (i + 1)).2 = 0 := by rcases Int.decEq (rdF d k (i + 1)).2 0 with q | q; exact absurd q c2; exact q
      rw [if_neg c1, if_neg c2]
      have := rd_len h k (i + 1) e2
      simp only [List.length_append]
      rw [read_256 h i e1, this]; omega
theorem bytesOf_len (l : List Int) : (bytesOf l).length = l.length := by unfold bytesOf; rw [List.length_map]
end Sp

theorem log_Open.ok (R0 : Int → Bool → Bool → Int → Bool → List Int → List (List (List UInt8)) → List (Int × List (List UInt8)) → Prop) (R1 : Int → Bool → Bool → Int → Bool → List Int → List (List (List UInt8)) → List (Int × List (List UInt8)) → Int → Int → List UInt8 → Int → Prop) (f n s : Int) (down armed : Bool) (after : Int) (acut : Bool) (keep : List Int) (bs : List (List Str)) (ws : List (Int × List Str))
    (h : Sp.dPre9 (down, armed, after, acut, keep, bs, ws)) (h0 : Sp.opNil f n s (down, armed, after, acut, keep, bs, ws) = true → R0 (Sp.opErr f n s (down, armed, after, acut, keep, bs, ws)) down armed after acut keep bs ws)
    (h1 : Sp.opNil f n s (down, armed, after, acut, keep, bs, ws) = false → R1 0 down armed after acut keep bs ws f n (Sp.opS f s (down, armed, after, acut, keep, bs, ws)) s) : log_Open.vc R0 R1 f n s down armed after acut keep bs ws := by
  have h : Sp.dOk 90000 (down, armed, after, acut, keep, bs, ws) := h
  have hp := Sp.dPre_up9 h
  have hbsl : (bs.length : Nat) ≤ 1000 := h.1
  unfold log_Open.vc
  unfold Sp.opNil at h0 h1
  have bad (hb : f < 0 ∨ n < 1 ∨ (bs.length : Int) < n ∨ (bs.length : Int) - n < f ∨ s < 0 ∨ n * 256 < s) : R0 1 down armed after acut keep bs ws := by
    have e : Sp.opErr f n s (down, armed, after, acut, keep, bs, ws) = 1 := by
      unfold Sp.opErr Sp.opBad
      rw [if_pos (decide_eq_true hb)]
    rw [e] at h0
    exact h0 rfl
  rw [cond_dec]
  split
  · rename_i c; exact bad (.inl c)
  rename_i c1
  rw [cond_dec]
  split
  · rename_i c; exact bad (.inr (.inl c))
  rename_i c2
  refine ⟨hp, ?_⟩
  rw [cond_dec]
  split
  · rename_i c; exact bad (.inr (.inr (.inl c)))
  rename_i c3
  have c3 : ¬ (bs.length : Int) < n := c3
  refine ⟨hp, by rw [rg64]; show -9223372036854775808 ≤ (bs.length : Int) - n ∧ (bs.length : Int) - n ≤ 9223372036854775807; omega, ?_⟩
  rw [cond_dec]
  split
  · rename_i c; exact bad (.inr (.inr (.inr (.inl c))))
  rename_i c4
  have c4 : ¬ (bs.length : Int) - n < f := c4
  rw [cond_dec]
  split
  · rename_i c; exact bad (.inr (.inr (.inr (.inr (.inl c)))))
  rename_i c5
  refine ⟨by rw [rg64]; omega, ?_⟩
  rw [cond_dec]
  split
  · rename_i c; exact bad (.inr (.inr (.inr (.inr (.inr c)))))
  rename_i c6
  refine ⟨⟨by omega, by omega⟩, ?_⟩
  have hbl := Sp.blocksOf_nat (n := s) (by omega)
  obtain ⟨m, hm⟩ : ∃ m : Nat, Sp.blocksOf s = m := ⟨(Sp.blocksOf s).toNat, by omega⟩
  have hgood : Sp.opErr f n s (down, armed, after, acut, keep, bs, ws) = if (Sp.opRd f s (down, armed, after, acut, keep, bs, ws)).2 ≠ 0 then (Sp.opRd f s (down, armed, after, acut, keep, bs, ws)).2 else if Sp.wholeB ((Sp.opRd f s (down, armed, after, acut, keep, bs, ws)).1.take s.toNat) = false then 290 else 0 := by
    unfold Sp.opErr Sp.opBad
    rw [if_neg]
    intro hb
    have hb := of_decide_eq_true hb
    simp only [Sp.DSt.bs] at hb
    omega
  have hrd : Sp.opRd f s (down, armed, after, acut, keep, bs, ws) = Sp.rdF (down, armed, after, acut, keep, bs, ws) m f := by unfold Sp.opRd; rw [hm]; rfl
  unfold Sp.opS at h1
  rw [hgood] at h0 h1
  rw [hrd] at h0 h1
  clear hgood hrd bad
  rw [hm]
  refine Lp_rule (fun v => ∃ (p : Nat) (buf : List Int), v = (f, n, s, (m : Int), (p : Int), Sp.q7 (down, armed, after, acut, keep, bs, ws) (buf, ())) ∧ p ≤ m ∧ buf.length = 256 * p ∧
      Sp.rdF (down, armed, after, acut, keep, bs, ws) m f = if (Sp.rdF (down, armed, after, acut, keep, bs, ws) (m - p) (f + p)).2 ≠ 0 then ([], (Sp.rdF (down, armed, after, acut, keep, bs, ws) (m - p) (f + p)).2) else (bytesOf buf ++ (Sp.rdF (down, armed, after, acut, keep, bs, ws) (m - p) (f + p)).1, 0))
    (fun v => m - v.2.2.2.2.1.toNat) ?_ ⟨0, [], rfl, Nat.zero_le _, rfl, ?_⟩
  · rintro _ K ⟨p, buf, rfl, hpm, hbuf, he⟩ hK
    show log_Open.L0 R0 R1 f n s (m : Int) (p : Int) down armed after acut keep bs ws buf K
    unfold log_Open.L0
    generalize hd : ((down, armed, after, acut, keep, bs, ws) : Sp.DSt) = d at *
    rw [cond_dec]
    split
    · rename_i c7
      obtain ⟨k, hk⟩ : ∃ k, m - p = k + 1 := ⟨m - p - 1, by omega⟩
      rw [hk] at he
      refine ⟨by rw [rg64]; omega, hp, ?_⟩
      rw [cond_ndec]
      split
      · rename_i c8
        have h256 := Sp.read_256 h _ c8
        have e1 : Sp.rdF d (k + 1) (f + (p : Int)) = if (Sp.rdF d k (f + (p : Int) + 1)).2 ≠ 0 then ([], (Sp.rdF d k (f + (p : Int) + 1)).2) else ((Sp.dRead (f + (p : Int)) d).1 ++ (Sp.rdF d k (f + (p : Int) + 1)).1, 0) := by rw [Sp.rdF, if_neg (fun q => q c8)]
        rw [e1] at he
        refine ⟨by unfold Sp.wr.pre; omega, by rw [rg64]; omega, hK _ ⟨p + 1, Sp.wr buf (Sp.dRead (f + (p : Int)) d).1, by subst hd; rfl, by omega, ?_, ?_⟩ (by simp; omega)⟩
        · unfold Sp.wr; rw [List.length_append]; unfold ints; rw [List.length_map, h256]; omega
        · rw [he, show m - (p + 1) = k by omega, show f + ((p + 1 : Nat) : Int) = f + (p : Int) + 1 by omega, Sp.bytesOf_wr]
          by_cases c9 : (Sp.rdF d k (f + (p : Int) + 1)).2 = 0
          · simp only [c9, ne_eq, not_true_eq_false, if_false, List.append_assoc]
          · simp only [c9, ne_eq, not_false_eq_true, if_true]
      · rename_i c8
        have e1 : Sp.rdF d (k + 1) (f + (p : Int)) = ([], (Sp.dRead (f + (p : Int)) d).2) := by rw [Sp.rdF, if_pos c8]
        rw [e1] at he
        simp only [c8, ne_eq, not_false_eq_true, if_true] at he
        rw [he] at h0
        simp only [c8, ne_eq, not_false_eq_true, if_true, decide_false, Bool.not_false] at h0
        have h0 := h0 trivial
        subst hd
        exact h0
    · rename_i c7
      have hpe : p = m := by omega
      subst hpe
      rw [Nat.sub_self, Sp.rdF] at he
      simp only [ne_eq, not_true_eq_false, if_false, List.append_nil] at he
      rw [he] at h0 h1
      have hbl2 : (bytesOf buf).length = 256 * p := by rw [Sp.bytesOf_len, hbuf]
      have es : sub (bytesOf buf) 0 s = (bytesOf buf).take s.toNat := by unfold sub; rfl
      rw [es, sb_iff, hbl2]
      simp only [ne_eq, not_true_eq_false, if_false] at h0 h1
      refine ⟨by omega, by unfold Sp.wholeB.pre; rw [List.length_take]; omega, ?_⟩
      cases hw : Sp.wholeB ((bytesOf buf).take s.toNat) with
      | false =>
        rw [hw] at h0
        exact h0 rfl
      | true =>
        rw [hw] at h1
        exact h1 rfl
  · rw [Nat.sub_zero, show f + ((0 : Nat) : Int) = f by omega]
    by_cases c9 : (Sp.rdF (down, armed, after, acut, keep, bs, ws) m f).2 = 0
    · rw [if_neg (fun q => q c9)]
      rw [← c9]; rfl
    · rw [if_pos c9]
      have key : ∀ (d : Sp.DSt) (k : Nat) (i : Int), (Sp.rdF d k i).2 ≠ 0 → Sp.rdF d k i = ([], (Sp.rdF d k i).2) := by
        intro d k i hne
        cases k with
        | zero => exact absurd rfl hne
        | succ k =>
          rw [Sp.rdF] at hne ⊢
          split at hne
          · rename_i c; rw [if_pos c]
          rename_i c
          rw [if_neg c]
          split at hne
          · rename_i c2; rw [if_pos c2]
          · exact absurd rfl hne
      exact key _ _ _ c9
theorem log_Open_nil.ok (R : Int → Prop) (f n s : Int) (hR : R 1) : log_Open_nil.vc R f n s := by
  unfold log_Open_nil.vc
  rw [cond_dec]
  split
  · exact hR
  rw [cond_dec]
  split
  · exact hR
  rename_i c1 c2
  rw [cond_dec, if_pos (by omega)]
  exact hR


namespace Sp
def abB : Str := [1, 2, 97, 98]
theorem ab_add : lAdd [97, 98] (2, 2, [], 0) = ((2, 2, abB, 0), 0) := by decide +kernel
theorem ab_rd (n : Int) (h : 0 ≤ n) (f : Int) : opS f 0 (dNew n) = [] := rfl
theorem lAdd_ok {s : Str} {l : LSt} (h : lOk l) : lOk (lAdd s l).1 := by
  unfold lAdd
  split
  · exact h
  split
  · exact h
  · rename_i c1 c2
    obtain ⟨h1, h2, h3, h4, h5, h6, h7⟩ := h
    unfold lRoom at c2
    simp only [LSt.frm, LSt.blocks, LSt.b, LSt.sealed] at *
    refine ⟨h1, h2, h3, h4, h5, ?_, ?_⟩
    · simp only [LSt.b, LSt.sealed, List.length_append]; omega
    · simp only [LSt.b, LSt.blocks, List.length_append]; omega
end Sp

theorem rectolaw29_ab.ok (R : Bool → Prop) (hR : R Sp.tt) : rectolaw29_ab.vc R := by
  have h0 := Sp.t0
  have hpg := Sp.page_len Sp.abB 0
  have e2 : ∀ pg : Str, pg.length = 256 → Sp.dWrite 2 pg (Sp.dNew 4) = ((false, false, 0, false, [], List.replicate 4 Sp.zeroB, [(2, Sp.cutB pg)]), 0) := fun pg h => Sp.new_write (n := 4) (by omega) (by omega) h
  have e2 := e2 _ hpg
  have h1 := Sp.write_ok (i := 2) h0 (by omega) hpg
  rw [e2] at h1
  have e3 : Sp.lWrite (2, 2, Sp.abB, 0) (Sp.dNew 4) = ((false, false, 0, false, [], List.replicate 4 Sp.zeroB, [(2, Sp.cutB (Sp.pageB Sp.abB 0))]), 0) := by
    have : ∀ d : Sp.DSt, Sp.lWrite (2, 2, Sp.abB, 0) d = Sp.wrF (2, 2, Sp.abB, 0) 1 0 d := fun d => by unfold Sp.lWrite; rw [if_pos (by decide)]; rfl
    rw [this, Sp.wrF, show (Sp.LSt.frm (2, 2, Sp.abB, 0) : Int) + 0 = 2 from rfl, show Sp.LSt.b (2, 2, Sp.abB, 0) = Sp.abB from rfl, e2, if_neg (by simp)]
    rfl
  have h2 := Sp.flush_ok h1
  have e4 : Sp.dFlush (false, false, 0, false, [], List.replicate 4 Sp.zeroB, [(2, Sp.cutB (Sp.pageB Sp.abB 0))]) = ((false, false, 0, false, [], (List.replicate 4 Sp.zeroB).set 2 (Sp.cutB (Sp.pageB Sp.abB 0)), []), 0) := rfl
  rw [e4] at h2
  have e5 : Sp.opS 2 4 (false, false, 0, false, [], (List.replicate 4 Sp.zeroB).set 2 (Sp.cutB (Sp.pageB Sp.abB 0)), []) = Sp.abB := by decide +kernel
  unfold rectolaw29_ab.vc
  rw [show ((false, false, (Sp.dNew 4).2.2.1, false, (Sp.dNew 4).2.2.2.2) : Sp.DSt) = Sp.dNew 4 from rfl, Sp.ab_rd 4 (by omega), Sp.ab_add]
  simp only
  rw [e3]
  simp only
  rw [e4]
  simp only
  rw [e5]
  have ok1 : Sp.lOk (2, 2, [], 0) := by unfold Sp.lOk; decide
  have ok2 : Sp.lOk (2, 2, Sp.abB, 0) := by unfold Sp.lOk; decide
  have ok3 : Sp.lOk (Sp.lSeal (2, 2, Sp.abB, 0)) := by unfold Sp.lOk; decide
  have ok4 : Sp.lOk (2, 2, Sp.abB, 4) := by unfold Sp.lOk; decide
  exact ⟨Sp.dOk_le h0 (by omega), ok1, ⟨ok2, Sp.dOk_le h0 (by omega)⟩, Sp.dOk_up h1 (by omega), Sp.dOk_le h2 (by omega), ok3, ok4, Nat.le_trans (Sp.recsB_len _) (by decide), hR⟩

namespace Sp
end Sp
