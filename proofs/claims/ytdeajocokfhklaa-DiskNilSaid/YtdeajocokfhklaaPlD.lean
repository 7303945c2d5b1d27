/- A disk of blocks: what is told, shown of the conditions. Plain theorems. -/
import Derived.Test.YtdeajocokfhklaaVcD
import Derived.Test.YtdeajocokfhklaaViThree
import Derived.Lib.Repeat
import Derived.Lib.Join
set_option linter.unnecessarySimpa false
set_option linter.unusedVariables false
set_option linter.unusedSectionVars false
set_option linter.unusedSimpArgs false
set_option autoImplicit false
open Go Vi

namespace Sp
theorem repS_lib (s : Str) (k : Nat) : Lib.repeatL s k = repS s k := by
  unfold repS
  rw [Int.toNat_natCast]
  induction k with
  | zero => rfl
  | succ k ih => simp [Lib.repeatL, List.replicate_succ, ih]
theorem repS_len (s : Str) (k : Nat) : (repS s k).length = s.length * k := by
  unfold repS
  rw [Int.toNat_natCast]
  induction k with
  | zero => simp
  | succ k ih => rw [List.replicate_succ, List.flatten_cons, List.length_append, ih, Nat.mul_succ]; omega
theorem join_lib (l : List Str) : Lib.join l [] = l.flatten := by
  induction l with
  | nil => rfl
  | cons x l ih =>
    cases l with
    | nil => simp [Lib.join]
    | cons y l => simp [Lib.join] at ih ⊢; exact ih

abbrev ap {α β : Type} (R : Bool → Bool → Int → Bool → List Int → List α → List β → Prop) (d : Bool × Bool × Int × Bool × List Int × List α × List β) : Prop :=
  R d.1 d.2.1 d.2.2.1 d.2.2.2.1 d.2.2.2.2.1 d.2.2.2.2.2.1 d.2.2.2.2.2.2

theorem sub_all {α : Type} (s : List α) (p : Nat) : sub s (p : Int) (s.length : Int) = s.drop p := by
  unfold sub
  rw [Int.toNat_natCast, Int.toNat_natCast, List.take_length]
theorem sub_to {α : Type} (s : List α) (p : Nat) : sub s 0 (p : Int) = s.take p := by
  unfold sub
  rw [Int.toNat_natCast]; rfl
theorem nth_get {α : Type} {l : List α} {i : Int} {d : α} (h0 : 0 ≤ i) (h1 : i < l.length) : nth l i d ∈ l := by
  obtain ⟨p, rfl⟩ : ∃ p : Nat, i = p := ⟨i.toNat, by omega⟩
  rw [nth_lt (by omega)]
  exact List.getElem_mem _
theorem nth_def {α : Type} {l : List α} {i : Int} (d e : α) (h0 : 0 ≤ i) (h1 : i < l.length) : nth l i d = nth l i e := by
  obtain ⟨p, rfl⟩ : ∃ p : Nat, i = p := ⟨i.toNat, by omega⟩
  rw [nth_lt (by omega), nth_lt (by omega)]
end Sp

theorem slices_Repeat_disk_block_disk_block.ok (R : List (List (List UInt8)) → Prop) (x : List (List Str)) (n : Int) (h : Sp.repL.pre x n) (hR : R (Sp.repL x n)) : slices_Repeat_disk_block_disk_block.vc R x n := by
  obtain ⟨h1, h2, h3⟩ := h
  match x, h1 with
  | [b], _ =>
  obtain ⟨m, rfl⟩ : ∃ m : Nat, n = m := ⟨n.toNat, by omega⟩
  have e1 : IntKind.u64.wrap ((List.length [b] : Nat) : Int) = 1 := rfl
  have e2 : IntKind.u64.wrap (m : Int) = m := wrap_in ⟨by rw [show IntKind.u64.min = 0 from rfl]; omega, by rw [show IntKind.u64.max = 18446744073709551615 from rfl]; omega⟩
  have e3 : IntKind.i64.wrap (m : Int) = m := wrap_in ⟨by rw [show IntKind.i64.min = -9223372036854775808 from rfl]; omega, by rw [show IntKind.i64.max = 9223372036854775807 from rfl]; omega⟩
  have e4 : Sp.mulU 1 (m : Int) = (0, (m : Int)) := by
    unfold Sp.mulU
    rw [Int.one_mul, Int.ediv_eq_zero_of_lt (by omega) (by omega), Int.emod_eq_of_lt (by omega) (by omega)]
  unfold slices_Repeat_disk_block_disk_block.vc
  rw [e1, e2, e4]
  simp only [e3, cond_dec]
  rw [if_neg (by omega), if_neg (by omega), if_neg (by omega), mk_iff]
  have hrl : (rep (m : Int) (List.replicate 4 ([] : Str))).length = m := by simp [rep]
  rw [hrl]
  refine ⟨⟨rfl, by omega, by omega⟩, ?_⟩
  have hr0 : Sp.repL [b] (m : Int) = List.replicate m b := by
    unfold Sp.repL
    rw [Int.toNat_natCast]
    clear h2 h3 hR e1 e2 e3 e4 hrl
    induction m with
    | zero => rfl
    | succ m ih => rw [List.replicate_succ, List.flatten_cons, ih]; rfl
  rw [hr0] at hR
  generalize rep (m : Int) (List.replicate 4 ([] : Str)) = z at *
  refine Lp_rule (fun v => ∃ p : Nat, v = ((p : Int), List.replicate p b ++ z.drop p, ()) ∧ 1 ≤ p ∧ p ≤ m) (fun v => m - v.1.toNat) ?_ ⟨1, ?_, Nat.le_refl _, by omega⟩
  · rintro _ K ⟨p, rfl, hp1, hp⟩ hK
    have hnl : (List.replicate p b ++ z.drop p).length = m := by simp; omega
    simp only [slices_Repeat_disk_block_disk_block.L0, cond_dec, sb_iff, rg64]
    rw [hnl]
    split
    · rename_i c1
      have hst : sub (List.replicate p b ++ z.drop p) 0 (p : Int) = List.replicate p b := by
        rw [Sp.sub_to, List.take_append_of_le_length (by simp)]; simp
      rw [hst]
      have hcn : cpN (p : Int) (m : Int) (List.replicate p b) = ((min p (m - p) : Nat) : Int) := by unfold cpN; rw [List.length_replicate]; omega
      have hcl : cpL (p : Int) (m : Int) (List.replicate p b ++ z.drop p) (List.replicate p b) = List.replicate (p + min p (m - p)) b ++ z.drop (p + min p (m - p)) := by
        unfold cpL
        rw [show ((m : Int) - (p : Int)).toNat = m - p by omega, Int.toNat_natCast, List.take_append_of_le_length (by simp), List.length_replicate, List.take_replicate, List.take_replicate, List.replicate_append_replicate]
        congr 1
        · congr 1; omega
        · rw [List.drop_append, List.drop_of_length_le (by simp), List.nil_append, List.drop_drop, List.length_replicate]
          congr 1
          omega
      rw [hcn, hcl]
      exact ⟨by omega, by omega, by omega, hK _ ⟨p + min p (m - p), by simp, by omega, by omega⟩ (by simp; omega)⟩
    · have : p = m := by omega
      subst this
      rw [List.drop_of_length_le (by omega), List.append_nil]
      exact hR
  · unfold cpN cpL
    simp only [List.length_cons, List.length_nil]
    rw [show ((m : Int) - 0).toNat = m by omega]
    have hm1 : [b].take m = [b] := List.take_of_length_le (by simp; omega)
    rw [hm1]
    have : min (((0 + 1 : Nat)) : Int) ((m : Int) - 0) = ((1 : Nat) : Int) := by omega
    rw [this]
    have : (0 : Int).toNat + min (0 + 1) m = 1 := by simp; omega
    rw [this]
    rfl

theorem disk_cut.ok (R : List (List UInt8) → Prop) (s : Str) (h : Sp.cutB.pre s) (hR : R (Sp.cutB s)) : disk_cut.vc R s := by
  unfold Sp.cutB.pre at h
  have h' : List.length s = 256 := h
  refine ⟨5, ?_⟩
  have s0 : sub s (0 * 64) ((0 + 1) * 64) = s.take 64 := rfl
  have s1 : sub s ((0 + 1) * 64) ((0 + 1 + 1) * 64) = (s.drop 64).take 64 := by
    show (s.take 128).drop 64 = _
    rw [List.drop_take]
  have s2 : sub s ((0 + 1 + 1) * 64) ((0 + 1 + 1 + 1) * 64) = (s.drop 128).take 64 := by
    show (s.take 192).drop 128 = _
    rw [List.drop_take]
  have s3 : sub s ((0 + 1 + 1 + 1) * 64) ((0 + 1 + 1 + 1 + 1) * 64) = (s.drop 192).take 64 := by
    show (s.take 256).drop 192 = _
    rw [List.drop_take]
  have d0 : decide ((0 : Int) < 4) = true := rfl
  have d1 : decide ((0 : Int) + 1 < 4) = true := rfl
  have d2 : decide ((0 : Int) + 1 + 1 < 4) = true := rfl
  have d3 : decide ((0 : Int) + 1 + 1 + 1 < 4) = true := rfl
  have d4 : decide ((0 : Int) + 1 + 1 + 1 + 1 < 4) = false := rfl
  simp only [it, disk_cut.L0, s0, s1, s2, s3, d0, d1, d2, d3, d4, cond_true, cond_false, ix_iff, sb_iff, rg64, ln_iff, List.length_set, List.length_replicate, h']
  refine ⟨by omega, by omega, by omega, by omega, trivial, by omega, by omega, by omega, ?_⟩
  refine ⟨by omega, by omega, by omega, by omega, trivial, by omega, by omega, by omega, ?_⟩
  refine ⟨by omega, by omega, by omega, by omega, trivial, by omega, by omega, by omega, ?_⟩
  refine ⟨by omega, by omega, by omega, by omega, trivial, by omega, by omega, by omega, ?_⟩
  exact ⟨trivial, trivial, trivial, hR⟩

theorem disk_block_text.ok (R : List UInt8 → Prop) (b : List Str) (h : Sp.textB4.pre b) (hR : R (Sp.textB4 b)) : disk_block_text.vc R b := by
  obtain ⟨h1, h2⟩ := h
  have e : sub b 0 (4 : Int) = b := by
    have := Sp.sub_to b 4
    rw [show ((4 : Nat) : Int) = 4 from rfl] at this
    rw [this, ← h1, List.take_length]
  have hfl : b.flatten.length ≤ 256 := by
    match b, h1 with
    | [a1, a2, a3, a4], _ =>
      have := h2 a1 (by simp)
      have := h2 a2 (by simp)
      have := h2 a3 (by simp)
      have := h2 a4 (by simp)
      simp; omega
  unfold disk_block_text.vc
  rw [e]
  exact ⟨h1.symm, by rw [sb_iff]; omega, ⟨rfl, by omega, by omega⟩, hR⟩

namespace Sp
theorem zero_len : (repS [0] 256).length = 256 := by decide +kernel
theorem zero_cut : cutB (repS [0] 256) = zeroB := by decide +kernel
theorem zeroB_ok : bOk zeroB := by
  refine ⟨rfl, fun x hx => ?_⟩
  have : x = List.replicate 64 0 := List.eq_of_mem_replicate hx
  rw [this]; simp
theorem cutB_ok {s : Str} (h : s.length = 256) : bOk (cutB s) := by
  refine ⟨rfl, fun x hx => ?_⟩
  simp only [cutB, List.mem_cons, List.not_mem_nil, or_false] at hx
  rcases hx with rfl | rfl | rfl | rfl <;> simp <;> omega
theorem repL_zero (n : Int) : repL [zeroB] n = List.replicate n.toNat zeroB := by
  unfold repL
  induction n.toNat with
  | zero => rfl
  | succ k ih => rw [List.replicate_succ, List.flatten_cons, ih]; rfl
end Sp

theorem disk_New.ok (R0 : Int → Prop) (R1 : Int → Bool → Bool → Int → Bool → List Int → List (List (List UInt8)) → List (Int × List (List UInt8)) → Prop) (blocks : Int) (h0 : Sp.badN blocks = true → R0 1) (h1 : Sp.badN blocks = false → Sp.ap (R1 0) (Sp.dNew blocks)) : disk_New.vc R0 R1 blocks := by
  unfold disk_New.vc
  unfold Sp.badN at h0 h1
  rw [cond_dec, cond_dec]
  split
  · rename_i c1; exact h0 (by simp [c1])
  split
  · rename_i c1 c2; exact h0 (by simp [c2])
  · rename_i c1 c2
    have := h1 (by simp [c1, c2])
    rw [Sp.zero_cut, Sp.repL_zero]
    exact ⟨⟨by omega, by omega, by simp⟩, Sp.zero_len, rfl, rfl, ⟨rfl, by omega, by omega⟩, this⟩

theorem disk_Disk_Blocks.ok (R : Int → Bool → Bool → Int → Bool → List Int → List (List (List UInt8)) → List (Int × List (List UInt8)) → Prop) (down armed : Bool) (after : Int) (acut : Bool) (keep : List Int) (bs : List (List Str)) (ws : List (Int × List Str))
    (_ : Sp.dPre (down, armed, after, acut, keep, bs, ws)) (hR : R (bs.length : Int) down armed after acut keep bs ws) : disk_Disk_Blocks.vc R down armed after acut keep bs ws := hR
theorem disk_Blocks_nil.ok (R : Int → Prop) (hR : R 0) : disk_Blocks_nil.vc R := hR
theorem disk_Disk_in.ok (R : Bool → Bool → Bool → Int → Bool → List Int → List (List (List UInt8)) → List (Int × List (List UInt8)) → Prop) (i : Int) (down armed : Bool) (after : Int) (acut : Bool) (keep : List Int) (bs : List (List Str)) (ws : List (Int × List Str))
    (h : Sp.dPre (down, armed, after, acut, keep, bs, ws)) (hR : R (Sp.inD i (down, armed, after, acut, keep, bs, ws)) down armed after acut keep bs ws) : disk_Disk_in.vc R i down armed after acut keep bs ws := by
  unfold disk_Disk_in.vc
  unfold Sp.inD at hR
  rw [cond_dec]
  split
  · rename_i c1
    refine ⟨h, ?_⟩
    have : decide (0 ≤ i ∧ i < (Sp.DSt.bs (down, armed, after, acut, keep, bs, ws)).length) = decide (i < ((Sp.DSt.bs (down, armed, after, acut, keep, bs, ws)).length : Int)) := by simp [c1]
    rw [this] at hR
    exact hR
  · rename_i c1
    rw [decide_eq_false (fun e => c1 e.1)] at hR
    exact hR
theorem disk_in_nil.ok (R : Bool → Prop) (i : Int) (hR : R false) : disk_in_nil.vc R i := by
  unfold disk_in_nil.vc
  rw [cond_dec]
  split
  · rw [decide_eq_false (by omega)]; exact hR
  · exact hR
theorem disk_Disk_Up.ok (R : Bool → Bool → Bool → Int → Bool → List Int → List (List (List UInt8)) → List (Int × List (List UInt8)) → Prop) (down armed : Bool) (after : Int) (acut : Bool) (keep : List Int) (bs : List (List Str)) (ws : List (Int × List Str))
    (_ : Sp.dPre (down, armed, after, acut, keep, bs, ws)) (hR : R (Sp.upD (down, armed, after, acut, keep, bs, ws)) down armed after acut keep bs ws) : disk_Disk_Up.vc R down armed after acut keep bs ws := hR
theorem disk_Up_nil.ok (R : Bool → Prop) (hR : R false) : disk_Up_nil.vc R := hR
theorem disk_Disk_Waits.ok (R : Int → Bool → Bool → Int → Bool → List Int → List (List (List UInt8)) → List (Int × List (List UInt8)) → Prop) (down armed : Bool) (after : Int) (acut : Bool) (keep : List Int) (bs : List (List Str)) (ws : List (Int × List Str))
    (_ : Sp.dPre (down, armed, after, acut, keep, bs, ws)) (hR : R (ws.length : Int) down armed after acut keep bs ws) : disk_Disk_Waits.vc R down armed after acut keep bs ws := hR
theorem disk_Waits_nil.ok (R : Int → Prop) (hR : R 0) : disk_Waits_nil.vc R := hR

namespace Sp
theorem in_iff {i : Int} {d : DSt} : inD i d = true ↔ 0 ≤ i ∧ i < d.bs.length := by unfold inD; rw [decide_eq_true_iff]
theorem lastW_ok {i : Int} : ∀ {ws : List Wr} {b : Blk}, bOk b → (∀ w, w ∈ ws → bOk w.2) → bOk (lastW i b ws)
  | [], b, h, _ => h
  | w :: l, b, h, hw => by
    rw [lastW]
    refine lastW_ok ?_ (fun x hx => hw x (by simp [hx]))
    split
    · exact hw w (by simp)
    · exact h
theorem lastW_app (i : Int) : ∀ (ws vs : List Wr) (b : Blk), lastW i b (ws ++ vs) = lastW i (lastW i b ws) vs
  | [], _, _ => rfl
  | w :: l, vs, b => by rw [List.cons_append, lastW, lastW, lastW_app i l vs]
theorem four {b : Blk} (h : bOk b) : [b.headD [], b.tail.headD [], b.tail.tail.headD [], b.tail.tail.tail.headD []] = b := by
  match b, h.1 with
  | [a1, a2, a3, a4], _ => rfl
end Sp

theorem disk_Disk_Lasts.ok (R : List UInt8 → Bool → Bool → Int → Bool → List Int → List (List (List UInt8)) → List (Int × List (List UInt8)) → Prop) (i : Int) (down armed : Bool) (after : Int) (acut : Bool) (keep : List Int) (bs : List (List Str)) (ws : List (Int × List Str))
    (h : Sp.dPre (down, armed, after, acut, keep, bs, ws)) (hR : R (Sp.dLasts i (down, armed, after, acut, keep, bs, ws)) down armed after acut keep bs ws) : disk_Disk_Lasts.vc R i down armed after acut keep bs ws := by
  refine ⟨h, ?_⟩
  unfold Sp.dLasts at hR
  cases hi : Sp.inD i (down, armed, after, acut, keep, bs, ws) with
  | false => rw [hi] at hR; exact hR
  | true =>
    rw [hi] at hR
    have hi' := Sp.in_iff.1 hi
    rw [if_neg (by simp)] at hR
    have hn := Sp.nth_def ([] : Sp.Blk) (List.replicate 4 ([] : Str)) hi'.1 hi'.2
    have hm := Sp.nth_get (d := List.replicate 4 ([] : Str)) hi'.1 hi'.2
    rw [hn] at hR
    exact ⟨hi', h.2.1 _ hm, hR⟩
theorem disk_Lasts_nil.ok (R : List UInt8 → Prop) (i : Int) (hR : R []) : disk_Lasts_nil.vc R i := hR

theorem disk_Disk_Read.ok (R : List UInt8 → Int → Bool → Bool → Int → Bool → List Int → List (List (List UInt8)) → List (Int × List (List UInt8)) → Prop) (i : Int) (down armed : Bool) (after : Int) (acut : Bool) (keep : List Int) (bs : List (List Str)) (ws : List (Int × List Str))
    (h : Sp.dPre (down, armed, after, acut, keep, bs, ws)) (hR : R (Sp.dRead i (down, armed, after, acut, keep, bs, ws)).1 (Sp.dRead i (down, armed, after, acut, keep, bs, ws)).2 down armed after acut keep bs ws) : disk_Disk_Read.vc R i down armed after acut keep bs ws := by
  refine ⟨h, ?_⟩
  unfold Sp.dRead at hR
  cases hi : Sp.inD i (down, armed, after, acut, keep, bs, ws) with
  | false => rw [hi] at hR; exact hR
  | true =>
    rw [hi, if_neg (by simp)] at hR
    refine ⟨h, ?_⟩
    cases hd : down with
    | true => subst hd; exact hR
    | false =>
      subst hd
      rw [if_neg (by simp)] at hR
      have hi' := Sp.in_iff.1 hi
      have hn := Sp.nth_def ([] : Sp.Blk) (List.replicate 4 ([] : Str)) hi'.1 hi'.2
      have hb := h.2.1 _ (Sp.nth_get (d := List.replicate 4 ([] : Str)) hi'.1 hi'.2)
      have hw := h.2.2.2.1
      have hwl := h.2.2.1
      rw [hn] at hR
      simp only [Sp.DSt.bs, Sp.DSt.ws] at hi' hb hw hwl hR
      refine ⟨hi', rfl, ?_⟩
      generalize nth bs i (List.replicate 4 ([] : Str)) = b at *
      refine Lp_rule (fun v => ∃ p : Nat, v = (i, (ws.length : Int), (p : Int), false, armed, after, acut, keep, bs, ws, Sp.lastW i b (ws.take p), ()) ∧ p ≤ ws.length) (fun v => ws.length - v.2.2.1.toNat) ?_ ⟨0, rfl, Nat.zero_le _⟩
      rintro _ K ⟨p, rfl, hp⟩ hK
      have hlo : Sp.bOk (Sp.lastW i b (ws.take p)) := Sp.lastW_ok hb (fun w hw' => (hw w (List.mem_of_mem_take hw')).2.2)
      simp only [disk_Disk_Read.L0, cond_dec, ix_iff, rg64, ln_iff]
      split
      · rename_i c1
        have hp' : p < ws.length := by omega
        have hts := take_succ (d := ((0 : Int), List.replicate 4 ([] : Str))) hp'
        have hmem := Sp.nth_get (l := ws) (d := ((0 : Int), List.replicate 4 ([] : Str))) (show 0 ≤ (p : Int) by omega) (by omega)
        have hwb := hw _ hmem
        have hnext : Sp.lastW i b (ws.take (p + 1)) = if (nth ws (p : Int) ((0 : Int), List.replicate 4 ([] : Str))).1 = i then (nth ws (p : Int) ((0 : Int), List.replicate 4 ([] : Str))).2 else Sp.lastW i b (ws.take p) := by
          rw [hts, Sp.lastW_app]; rfl
        refine ⟨by omega, ?_⟩
        split
        · rename_i c2
          refine ⟨hlo.1.symm, by omega, hK _ ⟨p + 1, ?_, by omega⟩ (by simp; omega)⟩
          rw [hnext, if_pos c2, Sp.four hwb.2.2]; rfl
        · rename_i c2
          refine ⟨by omega, hK _ ⟨p + 1, ?_, by omega⟩ (by simp; omega)⟩
          rw [hnext, if_neg c2]; rfl
      · have : p = ws.length := by omega
        subst this
        rw [List.take_length] at hlo ⊢
        exact ⟨hlo.1.symm, hlo, hR⟩
theorem disk_Read_nil.ok (R : List UInt8 → Int → Prop) (i : Int) (hR : R [] 1) : disk_Read_nil.vc R i := hR

namespace Sp
theorem kept_range (keep : List Int) (k : Int) : 0 ≤ kept keep k ∧ kept keep k ≤ 4 := by
  unfold kept mn mx
  split <;> omega
theorem cpA_ok {m : Int} {a b : Blk} (ha : bOk a) (hb : bOk b) (h0 : 0 ≤ m) (h4 : m ≤ 4) : bOk (cpA m a b) := by
  unfold cpA
  refine ⟨?_, fun x hx => ?_⟩
  · rw [List.length_append, List.length_take, List.length_drop, ha.1, hb.1]; omega
  · rcases List.mem_append.1 hx with hx | hx
    · exact ha.2 x (List.mem_of_mem_take hx)
    · exact hb.2 x (List.mem_of_mem_drop hx)
theorem set_ok {bs : List Blk} {k : Nat} {b : Blk} (h : ∀ x, x ∈ bs → bOk x) (hb : bOk b) : ∀ x, x ∈ bs.set k b → bOk x := fun x hx => by
  rcases List.mem_or_eq_of_mem_set hx with hx | hx
  · exact h x hx
  · rw [hx]; exact hb
theorem fallF_ok {keep : List Int} : ∀ {ws : List Wr} {k : Int} {bs : List Blk}, (∀ x, x ∈ bs → bOk x) → (∀ w, w ∈ ws → 0 ≤ w.1 ∧ w.1 < bs.length ∧ bOk w.2) → (fallF keep k bs ws).length = bs.length ∧ ∀ x, x ∈ fallF keep k bs ws → bOk x
  | [], k, bs, h, _ => ⟨rfl, h⟩
  | w :: l, k, bs, h, hw => by
    have h0 := hw w (by simp)
    have hk := kept_range keep k
    have hb := h _ (nth_get (d := []) h0.1 h0.2.1)
    have := fallF_ok (keep := keep) (ws := l) (k := k + 1) (bs := bs.set w.1.toNat (cpA (kept keep k) w.2 (nth bs w.1 []))) (set_ok h (cpA_ok h0.2.2 hb hk.1 hk.2)) (fun x hx => by
      rw [List.length_set]
      exact hw x (by simp [hx]))
    rw [List.length_set] at this
    exact this
theorem dFall_ok {n : Nat} {keep : List Int} {d : DSt} (h : dOk n d) : dOk n (dFall keep d) := by
  obtain ⟨h1, h2, h3, h4, h5, h6, h7⟩ := h
  have := fallF_ok (keep := keep) (k := 0) h2 h4
  exact ⟨by simp only [DSt.bs, dFall]; rw [this.1]; exact h1, this.2, Nat.zero_le _, fun w hw => by simp [DSt.ws, dFall] at hw, h5, h6, h7⟩
end Sp

theorem disk_Disk_fall.ok (R : Bool → Bool → Int → Bool → List Int → List (List (List UInt8)) → List (Int × List (List UInt8)) → Prop) (keep_ : List Int) (down armed : Bool) (after : Int) (acut : Bool) (keep : List Int) (bs : List (List Str)) (ws : List (Int × List Str))
    (h : Sp.dFall.pre keep_ (down, armed, after, acut, keep, bs, ws)) (hR : Sp.ap R (Sp.dFall keep_ (down, armed, after, acut, keep, bs, ws))) : disk_Disk_fall.vc R keep_ down armed after acut keep bs ws := by
  obtain ⟨⟨h1, h2, h3, h4, h5, h6, h7⟩, h8⟩ := h
  simp only [Sp.DSt.bs, Sp.DSt.ws] at h1 h2 h3 h4
  unfold Sp.ap Sp.dFall at hR
  simp only [Sp.DSt.bs, Sp.DSt.ws, Sp.DSt.after, Sp.DSt.acut, Sp.DSt.keep] at hR
  unfold disk_Disk_fall.vc
  refine Lp_rule (fun v => ∃ (p : Nat) (cs : List Sp.Blk), v = (keep_, (ws.length : Int), (p : Int), down, armed, after, acut, keep, cs, ws, ()) ∧ p ≤ ws.length ∧ cs.length = bs.length ∧ (∀ x, x ∈ cs → Sp.bOk x) ∧ Sp.fallF keep_ (p : Int) cs (ws.drop p) = Sp.fallF keep_ 0 bs ws)
    (fun v => ws.length - v.2.2.1.toNat) ?_ ⟨0, bs, rfl, Nat.zero_le _, rfl, h2, rfl⟩
  rintro _ K ⟨p, cs, rfl, hp, hcl, hco, hf⟩ hK
  simp only [disk_Disk_fall.L0, cond_dec, ix_iff, rg64, sb_iff, Eqi]
  split
  · rename_i c1
    have hp' : p < ws.length := by omega
    have hd := drop_cons (d := ((0 : Int), List.replicate 4 ([] : Str))) hp'
    have hmem := Sp.nth_get (l := ws) (d := ((0 : Int), List.replicate 4 ([] : Str))) (show 0 ≤ (p : Int) by omega) (by omega)
    have hwb := h4 _ hmem
    generalize nth ws (p : Int) ((0 : Int), List.replicate 4 ([] : Str)) = w at *
    rw [hd, Sp.fallF] at hf
    have hk := Sp.kept_range keep_ (p : Int)
    have hwl : w.1 < (cs.length : Int) := by omega
    have hnd := Sp.nth_def ([] : Sp.Blk) (List.replicate 4 ([] : Str)) hwb.1 hwl
    have hb := hco _ (Sp.nth_get (d := List.replicate 4 ([] : Str)) hwb.1 hwl)
    rw [hnd] at hf
    have go (k : Int) (hkk : k = Sp.kept keep_ (p : Int)) : K (keep_, (ws.length : Int), (p : Int) + 1, down, armed, after, acut, keep, cs.set w.1.toNat (cpA k [w.2.headD [], w.2.tail.headD [], w.2.tail.tail.headD [], w.2.tail.tail.tail.headD []] (nth cs w.1 (List.replicate 4 []))), ws, ()) := by
      rw [Sp.four hwb.2.2, hkk]
      exact hK _ ⟨p + 1, _, rfl, by omega, by simp [hcl], Sp.set_ok hco (Sp.cpA_ok hwb.2.2 hb hk.1 hk.2), hf⟩ (by simp; omega)
    refine ⟨by omega, ?_⟩
    split
    · rename_i c2
      have hkk : mn (mx (nth keep_ (p : Int) 0) 0) 4 = Sp.kept keep_ (p : Int) := by unfold Sp.kept; rw [if_pos c2]
      rw [hkk]
      exact ⟨by omega, by omega, by omega, by omega, trivial, by omega, go _ rfl⟩
    · rename_i c2
      have hkk : 0 = Sp.kept keep_ (p : Int) := by unfold Sp.kept; rw [if_neg c2]
      exact ⟨by omega, by omega, by omega, trivial, by omega, go _ hkk⟩
  · have : p = ws.length := by omega
    subst this
    rw [List.drop_length, Sp.fallF] at hf
    rw [hf]
    exact hR

namespace Sp
theorem dGoes_ok {n : Nat} {d : DSt} (h : dOk n d) : dOk n (dGoes d).1 ∧ (0 ≤ (dGoes d).2.1 ∧ (dGoes d).2.1 ≤ 271) := by
  unfold dGoes
  split
  · exact ⟨h, by simp⟩
  split
  · rename_i c1 c2
    obtain ⟨h1, h2, h3, h4, h5, h6, h7⟩ := h
    simp only [DSt.after] at c2 h5 h6
    exact ⟨⟨h1, h2, h3, h4, by simp only [DSt.after]; omega, by simp only [DSt.after]; omega, h7⟩, by simp⟩
  split
  · exact ⟨h, by simp⟩
  · exact ⟨dFall_ok h, by simp⟩
end Sp

theorem disk_Disk_goes.ok (R : Int → Bool → Bool → Bool → Int → Bool → List Int → List (List (List UInt8)) → List (Int × List (List UInt8)) → Prop) (down armed : Bool) (after : Int) (acut : Bool) (keep : List Int) (bs : List (List Str)) (ws : List (Int × List Str))
    (h : Sp.dPre (down, armed, after, acut, keep, bs, ws)) (hR : Sp.ap (R (Sp.dGoes (down, armed, after, acut, keep, bs, ws)).2.1 (Sp.dGoes (down, armed, after, acut, keep, bs, ws)).2.2) (Sp.dGoes (down, armed, after, acut, keep, bs, ws)).1) : disk_Disk_goes.vc R down armed after acut keep bs ws := by
  unfold disk_Disk_goes.vc
  unfold Sp.dGoes at hR
  obtain ⟨h1, h2, h3, h4, h5, h6, h7⟩ := h
  simp only [Sp.DSt.after, Sp.DSt.keep] at h5 h6 h7
  cases armed with
  | false => exact hR
  | true =>
    simp only [Bool.not_true, cond_false]
    rw [if_neg (by simp)] at hR
    rw [cond_dec]
    split
    · rename_i c1
      rw [if_pos c1] at hR
      rw [rg64]
      exact ⟨by omega, hR⟩
    · rename_i c1
      rw [if_neg c1] at hR
      cases acut with
      | false => exact hR
      | true =>
        rw [if_neg (by simp)] at hR
        exact ⟨⟨⟨h1, h2, h3, h4, h5, h6, h7⟩, h7⟩, hR⟩

theorem disk_Disk_Write.ok (R : Int → Bool → Bool → Int → Bool → List Int → List (List (List UInt8)) → List (Int × List (List UInt8)) → Prop) (i : Int) (s : Str) (down armed : Bool) (after : Int) (acut : Bool) (keep : List Int) (bs : List (List Str)) (ws : List (Int × List Str))
    (h : Sp.dWrite.pre i s (down, armed, after, acut, keep, bs, ws)) (hR : Sp.ap (R (Sp.dWrite i s (down, armed, after, acut, keep, bs, ws)).2) (Sp.dWrite i s (down, armed, after, acut, keep, bs, ws)).1) : disk_Disk_Write.vc R i s down armed after acut keep bs ws := by
  obtain ⟨h, hs⟩ := h
  refine ⟨h, ?_⟩
  unfold Sp.dWrite at hR
  cases hi : Sp.inD i (down, armed, after, acut, keep, bs, ws) with
  | false => rw [hi] at hR; rw [if_pos (.inl rfl)] at hR; exact hR
  | true =>
    rw [hi] at hR
    simp only [Bool.not_true, cond_false]
    rw [cond_ndec]
    split
    · rename_i c1
      have c1' : List.length s = 256 := by omega
      rw [if_neg (by simp [c1'])] at hR
      refine ⟨h, ?_⟩
      cases down with
      | true => exact hR
      | false =>
        rw [if_neg (by simp)] at hR
        refine ⟨h, ?_⟩
        obtain ⟨g1, g2, g3, _⟩ := (Sp.dGoes_ok h).1
        have hu : Sp.upD (false, armed, after, acut, keep, bs, ws) = true := rfl
        cases hg : (Sp.dGoes (false, armed, after, acut, keep, bs, ws)).2.2 with
        | true => rw [hg, if_pos rfl] at hR; exact hR
        | false =>
          rw [hg, if_neg (by simp)] at hR
          simp only [cond_false]
          rw [Sp.four (Sp.cutB_ok c1'), gr_iff]
          exact ⟨c1', by simp only [Sp.DSt.ws] at g3; omega, hR⟩
    · rename_i c1
      rw [if_pos (.inr (fun e => c1 (by omega)))] at hR
      exact hR
theorem disk_Write_nil.ok (R : Int → Prop) (i : Int) (s : Str) (hR : R 1) : disk_Write_nil.vc R i s := hR

namespace Sp
theorem flushF_ok : ∀ {ws : List Wr} {bs : List Blk}, (∀ x, x ∈ bs → bOk x) → (∀ w, w ∈ ws → bOk w.2) → (flushF bs ws).length = bs.length ∧ ∀ x, x ∈ flushF bs ws → bOk x
  | [], bs, h, _ => ⟨rfl, h⟩
  | w :: l, bs, h, hw => by
    have := flushF_ok (ws := l) (bs := bs.set w.1.toNat w.2) (set_ok h (hw w (by simp))) (fun x hx => hw x (by simp [hx]))
    rw [List.length_set] at this
    exact this
end Sp

theorem disk_Disk_Flush.ok (R : Int → Bool → Bool → Int → Bool → List Int → List (List (List UInt8)) → List (Int × List (List UInt8)) → Prop) (down armed : Bool) (after : Int) (acut : Bool) (keep : List Int) (bs : List (List Str)) (ws : List (Int × List Str))
    (h : Sp.dPre (down, armed, after, acut, keep, bs, ws)) (hR : Sp.ap (R (Sp.dFlush (down, armed, after, acut, keep, bs, ws)).2) (Sp.dFlush (down, armed, after, acut, keep, bs, ws)).1) : disk_Disk_Flush.vc R down armed after acut keep bs ws := by
  refine ⟨h, ?_⟩
  unfold Sp.dFlush at hR
  cases down with
  | true => exact hR
  | false =>
    have hu : Sp.upD (false, armed, after, acut, keep, bs, ws) = true := rfl
    rw [hu]
    simp only [Bool.not_true, cond_false]
    rw [if_neg (by simp)] at hR
    refine ⟨h, ?_⟩
    obtain ⟨g1, g2, g3, g4, _⟩ := (Sp.dGoes_ok h).1
    generalize Sp.dGoes (false, armed, after, acut, keep, bs, ws) = g at *
    obtain ⟨⟨down', armed', after', acut', keep', bs', ws'⟩, e, off⟩ := g
    simp only [Sp.DSt.bs, Sp.DSt.ws] at g1 g2 g3 g4
    cases off with
    | true => rw [if_pos rfl] at hR; exact hR
    | false =>
      rw [if_neg (by simp)] at hR
      simp only [Bool.not_false, cond_true]
      simp only [Sp.ap, Sp.DSt.down, Sp.DSt.armed, Sp.DSt.after, Sp.DSt.acut, Sp.DSt.keep, Sp.DSt.bs, Sp.DSt.ws] at hR
      refine Lp_rule (fun v => ∃ (p : Nat) (cs : List Sp.Blk), v = (e, (ws'.length : Int), (p : Int), down', armed', after', acut', keep', cs, ws', ()) ∧ p ≤ ws'.length ∧ cs.length = bs'.length ∧ Sp.flushF cs (ws'.drop p) = Sp.flushF bs' ws')
        (fun v => ws'.length - v.2.2.1.toNat) ?_ ⟨0, bs', rfl, Nat.zero_le _, rfl, rfl⟩
      rintro _ K ⟨p, cs, rfl, hp, hcl, hf⟩ hK
      simp only [disk_Disk_Flush.L0, cond_dec, ix_iff, rg64]
      split
      · rename_i c1
        have hp' : p < ws'.length := by omega
        have hd := drop_cons (d := ((0 : Int), List.replicate 4 ([] : Str))) hp'
        have hmem := Sp.nth_get (l := ws') (d := ((0 : Int), List.replicate 4 ([] : Str))) (show 0 ≤ (p : Int) by omega) (by omega)
        have hwb := g4 _ hmem
        generalize nth ws' (p : Int) ((0 : Int), List.replicate 4 ([] : Str)) = w at *
        rw [hd, Sp.flushF] at hf
        rw [Sp.four hwb.2.2]
        exact ⟨by omega, by omega, by omega, hK _ ⟨p + 1, _, rfl, by omega, by simp [hcl], hf⟩ (by simp; omega)⟩
      · have : p = ws'.length := by omega
        subst this
        rw [List.drop_length, Sp.flushF] at hf
        rw [hf]
        exact hR
theorem disk_Flush_nil.ok (R : Int → Prop) (hR : R 271) : disk_Flush_nil.vc R := hR

theorem disk_Disk_Set.ok (R : Int → Bool → Bool → Int → Bool → List Int → List (List (List UInt8)) → List (Int × List (List UInt8)) → Prop) (a : Int × (Bool × (List Int))) (down armed : Bool) (after : Int) (acut : Bool) (keep : List Int) (bs : List (List Str)) (ws : List (Int × List Str))
    (h : Sp.dSet.pre a (down, armed, after, acut, keep, bs, ws)) (hR : Sp.ap (R (Sp.dSet a (down, armed, after, acut, keep, bs, ws)).2) (Sp.dSet a (down, armed, after, acut, keep, bs, ws)).1) : disk_Disk_Set.vc R a down armed after acut keep bs ws := by
  obtain ⟨h, hk⟩ := h
  unfold disk_Disk_Set.vc
  unfold Sp.dSet at hR
  rw [cond_dec]
  split
  · rename_i c1; rw [if_pos c1] at hR; exact hR
  · rename_i c1
    rw [if_neg c1] at hR
    refine ⟨h, ?_⟩
    cases down with
    | true => exact hR
    | false => exact ⟨hk, hR⟩
theorem disk_Set_nil.ok (R : Int → Prop) (a : Int × (Bool × (List Int))) (hR : R (Sp.setNil a)) : disk_Set_nil.vc R a := by
  unfold disk_Set_nil.vc
  unfold Sp.setNil at hR
  rw [cond_dec]
  split
  · rename_i c1; rw [if_pos c1] at hR; exact hR
  · rename_i c1; rw [if_neg c1] at hR; exact hR
theorem disk_Disk_Crash.ok (R : Int → Bool → Bool → Int → Bool → List Int → List (List (List UInt8)) → List (Int × List (List UInt8)) → Prop) (keep_ : List Int) (down armed : Bool) (after : Int) (acut : Bool) (keep : List Int) (bs : List (List Str)) (ws : List (Int × List Str))
    (h : Sp.dFall.pre keep_ (down, armed, after, acut, keep, bs, ws)) (hR : Sp.ap (R (Sp.dCrash keep_ (down, armed, after, acut, keep, bs, ws)).2) (Sp.dCrash keep_ (down, armed, after, acut, keep, bs, ws)).1) : disk_Disk_Crash.vc R keep_ down armed after acut keep bs ws := by
  refine ⟨h.1, ?_⟩
  unfold Sp.dCrash at hR
  cases down with
  | true => exact hR
  | false => exact ⟨h, hR⟩
theorem disk_Crash_nil.ok (R : Int → Prop) (keep_ : List Int) (hR : R 271) : disk_Crash_nil.vc R keep_ := hR
theorem disk_Disk_Start.ok (R : Int → Bool → Bool → Int → Bool → List Int → List (List (List UInt8)) → List (Int × List (List UInt8)) → Prop) (down armed : Bool) (after : Int) (acut : Bool) (keep : List Int) (bs : List (List Str)) (ws : List (Int × List Str))
    (_ : Sp.dPre (down, armed, after, acut, keep, bs, ws)) (hR : Sp.ap (R (Sp.dStart (down, armed, after, acut, keep, bs, ws)).2) (Sp.dStart (down, armed, after, acut, keep, bs, ws)).1) : disk_Disk_Start.vc R down armed after acut keep bs ws := by
  unfold Sp.dStart at hR
  cases down with
  | true => exact hR
  | false => exact hR
theorem disk_Start_nil.ok (R : Int → Prop) (hR : R 7) : disk_Start_nil.vc R := hR


namespace Sp
theorem nth_in {α : Type} {l : List α} {i : Int} (d : α) (h0 : 0 ≤ i) (h1 : i < l.length) : l[i.toNat]? = some (nth l i d) := by
  obtain ⟨p, rfl⟩ : ∃ p : Nat, i = p := ⟨i.toNat, by omega⟩
  have h : p < l.length := by omega
  rw [nth_lt h, Int.toNat_natCast, List.getElem?_eq_getElem h]
theorem nth_map {α β : Type} (f : α → β) {l : List α} {i : Int} (d : α) (e : β) (h0 : 0 ≤ i) (h1 : i < l.length) : nth (l.map f) i e = f (nth l i d) := by
  have := nth_in d h0 h1
  have h2 := nth_in (l := l.map f) e h0 (by rw [List.length_map]; exact h1)
  rw [List.getElem?_map, this] at h2
  exact (Option.some.inj h2).symm
end Sp

set_option maxRecDepth 20000 in
theorem rectoref27_New.ok (R : Bool → Bool → Int → Bool → List Int → List (List UInt8) → List (Int × List UInt8) → Prop) (blocks : Int) (h : Sp.rNew.pre blocks) (hR : Sp.ap R (Sp.rNew blocks)) : rectoref27_New.vc R blocks := by
  have h : blocks ≤ 1000 := h
  unfold Sp.ap Sp.rNew at hR
  refine Lp_rule (fun v => ∃ p : Nat, v = (blocks, List.replicate p 0, (p : Int), ()) ∧ p ≤ 256) (fun v => 256 - v.2.2.1.toNat) ?_ ⟨0, rfl, by omega⟩
  rintro _ K ⟨p, rfl, hp⟩ hK
  simp only [rectoref27_New.L0, cond_dec, rg64, List.length_replicate]
  by_cases c1 : (p : Int) < 256
  · rw [if_pos c1]
    exact ⟨by omega, by omega, hK _ ⟨p + 1, by rw [List.replicate_succ']; rfl, by omega⟩ (by simp; omega)⟩
  · rw [if_neg c1]
    have : p = 256 := by omega
    subst this
    clear hK K
    refine Lp_rule (fun v => ∃ q : Nat, v = (blocks, List.replicate 256 0, (q : Int), false, false, 0, false, [], List.replicate q (List.replicate 256 0), [], ()) ∧ q ≤ blocks.toNat) (fun v => blocks.toNat - v.2.2.1.toNat) ?_ ⟨0, rfl, by omega⟩
    rintro _ K ⟨q, rfl, hq⟩ hK
    simp only [rectoref27_New.L1, cond_dec, rg64, gr_iff, List.length_replicate]
    split
    · rename_i c2
      exact ⟨by omega, by omega, hK _ ⟨q + 1, by rw [List.replicate_succ' (n := q)]; rfl, by omega⟩ (by simp; omega)⟩
    · have : q = blocks.toNat := by omega
      subst this
      exact hR

namespace Sp
theorem r_in_iff {i : Int} {d : RSt} : rIn i d = true ↔ 0 ≤ i ∧ i < d.bs.length := by unfold rIn; rw [decide_eq_true_iff]
theorem rLastW_app (i : Int) : ∀ (ws vs : List RWr) (b : Str), rLastW i b (ws ++ vs) = rLastW i (rLastW i b ws) vs
  | [], _, _ => rfl
  | w :: l, vs, b => by rw [List.cons_append, rLastW, rLastW, rLastW_app i l vs]
end Sp

theorem rectoref27_Disk_Read.ok (R : List UInt8 → Int → Bool → Bool → Int → Bool → List Int → List (List UInt8) → List (Int × List UInt8) → Prop) (i : Int) (rdown rarmed : Bool) (rafter : Int) (racut : Bool) (rkeep : List Int) (rbs : List Str) (rws : List (Int × Str))
    (h : Sp.rPre (rdown, rarmed, rafter, racut, rkeep, rbs, rws)) (hR : R (Sp.rRead i (rdown, rarmed, rafter, racut, rkeep, rbs, rws)).1 (Sp.rRead i (rdown, rarmed, rafter, racut, rkeep, rbs, rws)).2 rdown rarmed rafter racut rkeep rbs rws) : rectoref27_Disk_Read.vc R i rdown rarmed rafter racut rkeep rbs rws := by
  unfold rectoref27_Disk_Read.vc
  unfold Sp.rRead at hR
  have hwl := h.2.2.1
  simp only [Sp.RSt.ws] at hwl
  rw [cond_dec, cond_dec]
  split
  · rename_i c1
    have hi : Sp.rIn i (rdown, rarmed, rafter, racut, rkeep, rbs, rws) = false := by unfold Sp.rIn; exact decide_eq_false (fun e => by omega)
    rw [if_pos hi] at hR; exact hR
  split
  · rename_i c1 c2
    have hi : Sp.rIn i (rdown, rarmed, rafter, racut, rkeep, rbs, rws) = false := by unfold Sp.rIn; exact decide_eq_false (fun e => by have := e.2; simp only [Sp.RSt.bs] at this; omega)
    rw [if_pos hi] at hR; exact hR
  · rename_i c1 c2
    have hi : Sp.rIn i (rdown, rarmed, rafter, racut, rkeep, rbs, rws) = true := Sp.r_in_iff.2 ⟨by omega, by simp only [Sp.RSt.bs]; omega⟩
    rw [hi, if_neg (by simp)] at hR
    cases rdown with
    | true => exact hR
    | false =>
      rw [if_neg (by simp)] at hR
      simp only [Sp.RSt.bs, Sp.RSt.ws] at hR
      refine ⟨⟨by omega, by omega⟩, ?_⟩
      generalize nth rbs i [] = b at *
      refine Lp_rule (fun v => ∃ p : Nat, v = (i, Sp.rLastW i b (rws.take p), (rws.length : Int), (p : Int), false, rarmed, rafter, racut, rkeep, rbs, rws, ()) ∧ p ≤ rws.length) (fun v => rws.length - v.2.2.2.1.toNat) ?_ ⟨0, rfl, Nat.zero_le _⟩
      rintro _ K ⟨p, rfl, hp⟩ hK
      simp only [rectoref27_Disk_Read.L0, cond_dec, ix_iff, rg64]
      split
      · rename_i c3
        have hp' : p < rws.length := by omega
        have hts := take_succ (d := ((0 : Int), ([] : Str))) hp'
        have hnext : Sp.rLastW i b (rws.take (p + 1)) = if (nth rws (p : Int) ((0 : Int), ([] : Str))).1 = i then (nth rws (p : Int) ((0 : Int), ([] : Str))).2 else Sp.rLastW i b (rws.take p) := by
          rw [hts, Sp.rLastW_app]; rfl
        refine ⟨by omega, ?_⟩
        split
        · rename_i c4
          refine ⟨by omega, hK _ ⟨p + 1, ?_, by omega⟩ (by simp; omega)⟩
          rw [hnext, if_pos c4]; rfl
        · rename_i c4
          refine ⟨by omega, hK _ ⟨p + 1, ?_, by omega⟩ (by simp; omega)⟩
          rw [hnext, if_neg c4]; rfl
      · have : p = rws.length := by omega
        subst this
        rw [List.take_length]
        exact hR

namespace Sp
theorem rKept_range (keep : List Int) (k : Int) : 0 ≤ rKept keep k ∧ rKept keep k ≤ 4 := by
  unfold rKept
  split
  · split <;> omega
  · omega
end Sp

theorem rectoref27_Disk_Fall.ok (R : Bool → Bool → Int → Bool → List Int → List (List UInt8) → List (Int × List UInt8) → Prop) (keep_ : List Int) (rdown rarmed : Bool) (rafter : Int) (racut : Bool) (rkeep : List Int) (rbs : List Str) (rws : List (Int × Str))
    (h : Sp.rFall.pre keep_ (rdown, rarmed, rafter, racut, rkeep, rbs, rws)) (hR : Sp.ap R (Sp.rFall keep_ (rdown, rarmed, rafter, racut, rkeep, rbs, rws))) : rectoref27_Disk_Fall.vc R keep_ rdown rarmed rafter racut rkeep rbs rws := by
  obtain ⟨⟨h1, h2, h3, h4, h5, h6, h7⟩, h8⟩ := h
  simp only [Sp.RSt.bs, Sp.RSt.ws] at h1 h2 h3 h4
  unfold Sp.ap Sp.rFall at hR
  simp only [Sp.RSt.bs, Sp.RSt.ws, Sp.RSt.after, Sp.RSt.acut, Sp.RSt.keep] at hR
  unfold rectoref27_Disk_Fall.vc
  refine Lp_rule (fun v => ∃ (p : Nat) (cs : List Str), v = (keep_, (rws.length : Int), (p : Int), rdown, rarmed, rafter, racut, rkeep, cs, rws, ()) ∧ p ≤ rws.length ∧ cs.length = rbs.length ∧ (∀ x, x ∈ cs → x.length = 256) ∧ Sp.rFallF keep_ (p : Int) cs (rws.drop p) = Sp.rFallF keep_ 0 rbs rws)
    (fun v => rws.length - v.2.2.1.toNat) ?_ ⟨0, rbs, rfl, Nat.zero_le _, rfl, h2, rfl⟩
  rintro _ K ⟨p, cs, rfl, hp, hcl, hco, hf⟩ hK
  simp only [rectoref27_Disk_Fall.L0, cond_dec, ix_iff, rg64, sb_iff]
  split
  · rename_i c1
    have hp' : p < rws.length := by omega
    have hd := drop_cons (d := ((0 : Int), ([] : Str))) hp'
    have hmem := Sp.nth_get (l := rws) (d := ((0 : Int), ([] : Str))) (show 0 ≤ (p : Int) by omega) (by omega)
    have hwb := h4 _ hmem
    generalize nth rws (p : Int) ((0 : Int), ([] : Str)) = w at *
    rw [hd, Sp.rFallF] at hf
    have hk := Sp.rKept_range keep_ (p : Int)
    have hwl : w.1 < (cs.length : Int) := by omega
    have hb := hco _ (Sp.nth_get (d := ([] : Str)) hwb.1 hwl)
    have hw2 := hwb.2.2
    have go (k : Int) (hkk : k = Sp.rKept keep_ (p : Int)) :
        (-9223372036854775808 ≤ 64 * k ∧ 64 * k ≤ 9223372036854775807) ∧ (0 ≤ (0 : Int) ∧ 0 ≤ 64 * k ∧ 64 * k ≤ (List.length w.2 : Int)) ∧ (0 ≤ w.1 ∧ w.1 < (cs.length : Int)) ∧ (-9223372036854775808 ≤ 64 * k ∧ 64 * k ≤ 9223372036854775807) ∧
        (0 ≤ 64 * k ∧ 64 * k ≤ (List.length (nth cs w.1 []) : Int) ∧ (List.length (nth cs w.1 []) : Int) ≤ (List.length (nth cs w.1 []) : Int)) ∧
        ((sub w.2 0 (64 * k)).length : Int) + ((sub (nth cs w.1 []) (64 * k) (List.length (nth cs w.1 []) : Int)).length : Int) ≤ 9223372036854775807 ∧
        (0 ≤ w.1 ∧ w.1 < (cs.length : Int)) ∧ (-9223372036854775808 ≤ (p : Int) + 1 ∧ (p : Int) + 1 ≤ 9223372036854775807) ∧
        K (keep_, (rws.length : Int), (p : Int) + 1, rdown, rarmed, rafter, racut, rkeep, cs.set w.1.toNat (sub w.2 0 (64 * k) ++ sub (nth cs w.1 []) (64 * k) (List.length (nth cs w.1 []) : Int)), rws, ()) := by
      have e1 : sub w.2 0 (64 * k) = w.2.take (64 * (Sp.rKept keep_ (p : Int)).toNat) := by
        unfold sub; rw [hkk, show (64 * Sp.rKept keep_ (p : Int)).toNat = 64 * (Sp.rKept keep_ (p : Int)).toNat by omega]; rfl
      have e2 : sub (nth cs w.1 []) (64 * k) (List.length (nth cs w.1 []) : Int) = (nth cs w.1 []).drop (64 * (Sp.rKept keep_ (p : Int)).toNat) := by
        unfold sub; rw [hkk, show (64 * Sp.rKept keep_ (p : Int)).toNat = 64 * (Sp.rKept keep_ (p : Int)).toNat by omega, Int.toNat_natCast, List.take_length]
      rw [e1, e2, hb, hw2]
      refine ⟨by omega, by omega, by omega, by omega, by omega, ?_, by omega, by omega, hK _ ⟨p + 1, _, rfl, by omega, by simp [hcl], ?_, hf⟩ (by simp; omega)⟩
      · rw [List.length_take, List.length_drop, hw2, hb]; omega
      · intro x hx
        rcases List.mem_or_eq_of_mem_set hx with hx | hx
        · exact hco x hx
        · rw [hx, List.length_append, List.length_take, List.length_drop, hw2, hb]; omega
    refine ⟨by omega, ?_⟩
    split
    · rename_i c2
      refine ⟨by omega, ?_⟩
      split
      · rename_i c3
        refine ⟨by omega, ?_⟩
        split
        · rename_i c4
          exact go 4 (by unfold Sp.rKept; rw [if_pos ⟨c2, c3⟩, if_pos c4])
        · rename_i c4
          exact go _ (by unfold Sp.rKept; rw [if_pos ⟨c2, c3⟩, if_neg c4])
      · rename_i c3
        exact go 0 (by unfold Sp.rKept; rw [if_neg (fun e => c3 e.2)])
    · rename_i c2
      exact go 0 (by unfold Sp.rKept; rw [if_neg (fun e => c2 e.1)])
  · have : p = rws.length := by omega
    subst this
    rw [List.drop_length, Sp.rFallF] at hf
    rw [hf]
    exact hR

theorem rectoref27_Disk_goes.ok (R : Int → Bool → Bool → Int → Bool → List Int → List (List UInt8) → List (Int × List UInt8) → Prop) (rdown rarmed : Bool) (rafter : Int) (racut : Bool) (rkeep : List Int) (rbs : List Str) (rws : List (Int × Str))
    (h : Sp.rPre (rdown, rarmed, rafter, racut, rkeep, rbs, rws)) (hR : Sp.ap (R (Sp.rGoes (rdown, rarmed, rafter, racut, rkeep, rbs, rws)).2) (Sp.rGoes (rdown, rarmed, rafter, racut, rkeep, rbs, rws)).1) : rectoref27_Disk_goes.vc R rdown rarmed rafter racut rkeep rbs rws := by
  unfold rectoref27_Disk_goes.vc
  unfold Sp.rGoes at hR
  obtain ⟨h1, h2, h3, h4, h5, h6, h7⟩ := h
  simp only [Sp.RSt.after, Sp.RSt.keep] at h5 h6 h7
  cases rarmed with
  | false => exact hR
  | true =>
    simp only [Bool.not_true, cond_false]
    rw [if_neg (by simp)] at hR
    rw [cond_dec]
    split
    · rename_i c1
      rw [if_pos c1] at hR
      rw [rg64]
      exact ⟨by omega, hR⟩
    · rename_i c1
      rw [if_neg c1] at hR
      cases racut with
      | true => exact ⟨⟨⟨h1, h2, h3, h4, h5, h6, h7⟩, h7⟩, hR⟩
      | false =>
        rw [if_neg (by simp)] at hR
        exact hR

/-! The program's disk is the document's. -/
namespace Sp
theorem bOk_len {b : Blk} (h : bOk b) : b.flatten.length = 256 := by
  match b, h.1 with
  | [a1, a2, a3, a4], _ =>
    have := h.2 a1 (by simp)
    have := h.2 a2 (by simp)
    have := h.2 a3 (by simp)
    have := h.2 a4 (by simp)
    simp; omega
theorem cut_flat {s : Str} (h : s.length = 256) : (cutB s).flatten = s := by
  unfold cutB
  have e : (s.drop 192).take 64 = s.drop 192 := List.take_of_length_le (by rw [List.length_drop]; omega)
  rw [e]
  simp only [List.flatten_cons, List.flatten_nil, List.append_nil]
  have e3 : (s.drop 128).take 64 ++ s.drop 192 = s.drop 128 := by
    have := List.take_append_drop 64 (s.drop 128)
    rwa [List.drop_drop] at this
  have e2 : (s.drop 64).take 64 ++ s.drop 128 = s.drop 64 := by
    have := List.take_append_drop 64 (s.drop 64)
    rwa [List.drop_drop] at this
  rw [e3, e2, List.take_append_drop]
theorem flat_take : ∀ (l : List Str) (k : Nat), (∀ x, x ∈ l → x.length = 64) → (l.take k).flatten = l.flatten.take (64 * k)
  | [], k, _ => by simp
  | x :: l, 0, _ => by simp
  | x :: l, k + 1, h => by
    have hx := h x (by simp)
    rw [List.take_succ_cons, List.flatten_cons, List.flatten_cons, flat_take l k (fun y hy => h y (by simp [hy])), List.take_append, List.take_of_length_le (i := 64 * (k + 1)) (by omega), hx, show 64 * (k + 1) - 64 = 64 * k by omega]
theorem flat_drop : ∀ (l : List Str) (k : Nat), (∀ x, x ∈ l → x.length = 64) → (l.drop k).flatten = l.flatten.drop (64 * k)
  | [], k, _ => by simp
  | x :: l, 0, _ => by simp
  | x :: l, k + 1, h => by
    have hx := h x (by simp)
    rw [List.drop_succ_cons, List.flatten_cons, flat_drop l k (fun y hy => h y (by simp [hy])), List.drop_append, List.drop_of_length_le (i := 64 * (k + 1)) (by omega), hx, show 64 * (k + 1) - 64 = 64 * k by omega, List.nil_append]
theorem cpA_flat {a b : Blk} {k : Int} (ha : bOk a) (hb : bOk b) : (cpA k a b).flatten = a.flatten.take (64 * k.toNat) ++ b.flatten.drop (64 * k.toNat) := by
  unfold cpA
  rw [List.flatten_append, flat_take _ _ ha.2, flat_drop _ _ hb.2]

def absW (w : Wr) : RWr := (w.1, w.2.flatten)
def abs (d : DSt) : RSt := (d.down, d.armed, d.after, d.acut, d.keep, d.bs.map List.flatten, d.ws.map absW)
theorem abs_ok {n : Nat} {d : DSt} (h : dOk n d) : rOk n (abs d) := by
  obtain ⟨h1, h2, h3, h4, h5, h6, h7⟩ := h
  refine ⟨by simpa [abs, RSt.bs] using h1, fun b hb => ?_, by simpa [abs, RSt.ws] using h3, fun w hw => ?_, h5, h6, h7⟩
  · simp only [abs, RSt.bs, List.mem_map] at hb
    obtain ⟨b', hb', rfl⟩ := hb
    exact bOk_len (h2 b' hb')
  · simp only [abs, RSt.ws, List.mem_map] at hw
    obtain ⟨w', hw', rfl⟩ := hw
    have := h4 w' hw'
    exact ⟨this.1, by simpa [abs, RSt.bs, absW] using this.2.1, bOk_len this.2.2⟩
theorem abs_in (i : Int) (d : DSt) : rIn i (abs d) = inD i d := by simp [rIn, inD, abs, RSt.bs]
theorem abs_last (i : Int) : ∀ (ws : List Wr) (b : Blk), rLastW i b.flatten (ws.map absW) = (lastW i b ws).flatten
  | [], b => rfl
  | w :: l, b => by
    rw [List.map_cons, rLastW, lastW, ← abs_last i l]
    congr 1
    show (if w.1 = i then w.2.flatten else b.flatten) = _
    by_cases c : w.1 = i
    · rw [if_pos c, if_pos c]
    · rw [if_neg c, if_neg c]
theorem abs_read (i : Int) (d : DSt) : rRead i (abs d) = dRead i d := by
  unfold rRead dRead
  rw [abs_in]
  cases hi : inD i d with
  | false => rfl
  | true =>
    rw [if_neg (c := true = false) (by simp), if_neg (c := true = false) (by simp)]
    have hi' := in_iff.1 hi
    show (if d.down = true then _ else _) = _
    split
    · rfl
    · have := nth_map List.flatten (l := d.bs) ([] : Blk) ([] : Str) hi'.1 hi'.2
      show (rLastW i (nth (d.bs.map List.flatten) i []) (d.ws.map absW), (0 : Int)) = _
      rw [this, abs_last]
theorem kept_r (keep : List Int) (k : Int) : rKept keep k = kept keep k := by
  unfold rKept kept mn mx
  by_cases c1 : k < keep.length
  · rw [if_pos c1]
    by_cases c2 : 0 < nth keep k 0
    · rw [if_pos ⟨c1, c2⟩]
      split <;> omega
    · rw [if_neg (fun e => c2 e.2)]; omega
  · rw [if_neg c1, if_neg (fun e => c1 e.1)]
theorem abs_fallF {keep : List Int} : ∀ {ws : List Wr} {k : Int} {bs : List Blk}, (∀ x, x ∈ bs → bOk x) → (∀ w, w ∈ ws → 0 ≤ w.1 ∧ w.1 < bs.length ∧ bOk w.2) → rFallF keep k (bs.map List.flatten) (ws.map absW) = (fallF keep k bs ws).map List.flatten
  | [], k, bs, h, _ => rfl
  | w :: l, k, bs, h, hw => by
    have h0 := hw w (by simp)
    have hk := kept_range keep k
    have hb := h _ (nth_get (d := []) h0.1 h0.2.1)
    rw [List.map_cons, rFallF, fallF, ← abs_fallF (set_ok h (cpA_ok h0.2.2 hb hk.1 hk.2)) (fun x hx => by
      rw [List.length_set]
      exact hw x (by simp [hx])), List.map_set, cpA_flat h0.2.2 hb, kept_r]
    have := nth_map List.flatten (l := bs) ([] : Blk) ([] : Str) h0.1 h0.2.1
    simp only [absW, this]
theorem abs_fall {n : Nat} {keep : List Int} {d : DSt} (h : dOk n d) : rFall keep (abs d) = abs (dFall keep d) := by
  have := abs_fallF (keep := keep) (k := 0) h.2.1 h.2.2.2.1
  show (true, false, d.after, d.acut, d.keep, rFallF keep 0 (d.bs.map List.flatten) (d.ws.map absW), []) = _
  rw [this]; rfl
theorem abs_goes {n : Nat} {d : DSt} (h : dOk n d) : rGoes (abs d) = (abs (dGoes d).1, (dGoes d).2.1) := by
  unfold rGoes dGoes
  show (if d.armed = false then _ else if 0 < d.after then _ else if d.acut = true then _ else _) = _
  split
  · rfl
  split
  · rfl
  cases hc : d.acut with
  | false =>
    rw [if_neg (by simp), if_pos rfl]
    show ((d.down, false, d.after, d.acut, d.keep, _, _), (270 : Int)) = ((d.down, false, d.after, false, d.keep, _, _), (270 : Int))
    rw [hc]; rfl
  | true => rw [if_pos rfl, if_neg (by simp)]; show (rFall d.keep (abs d), _) = (abs (dFall d.keep d), _); rw [abs_fall h]
theorem goes_off (d : DSt) : (dGoes d).2.2 = true ↔ ¬ (dGoes d).2.1 = 0 := by
  unfold dGoes
  split
  · simp
  split
  · simp
  split
  · simp
  · simp
theorem abs_write {n : Nat} {d : DSt} (i : Int) (s : Str) (h : dOk n d) : rWrite i s (abs d) = (abs (dWrite i s d).1, (dWrite i s d).2) := by
  unfold rWrite dWrite
  rw [abs_in, abs_goes h]
  split
  · rfl
  · rename_i c1
    have hs : s.length = 256 := by
      rcases Nat.decEq s.length 256 with hh | hh
      · exact absurd (.inr hh) c1
      · exact hh
    show (if d.down = true then _ else _) = _
    split
    · rfl
    · have := goes_off d
      cases hg : (dGoes d).2.2 with
      | true =>
        rw [if_neg (this.1 hg), if_pos rfl]
      | false =>
        have h0 : (dGoes d).2.1 = 0 := by
          rcases Int.decEq (dGoes d).2.1 0 with hh | hh
          · have := this.2 hh; rw [hg] at this; exact absurd this (by simp)
          · exact hh
        rw [if_pos h0, if_neg (by simp)]
        simp only [abs, RSt.down, RSt.armed, RSt.after, RSt.acut, RSt.keep, RSt.bs, RSt.ws, DSt.down, DSt.armed, DSt.after, DSt.acut, DSt.keep, DSt.bs, DSt.ws, List.map_append, List.map_cons, List.map_nil, absW, cut_flat hs, h0]
theorem abs_flushF : ∀ (ws : List Wr) (bs : List Blk), rFlushF (bs.map List.flatten) (ws.map absW) = (flushF bs ws).map List.flatten
  | [], bs => rfl
  | w :: l, bs => by rw [List.map_cons, rFlushF, flushF, ← abs_flushF l, List.map_set]; rfl
theorem abs_flush {n : Nat} {d : DSt} (h : dOk n d) : rFlush (abs d) = (abs (dFlush d).1, (dFlush d).2) := by
  unfold rFlush dFlush
  rw [abs_goes h]
  show (if d.down = true then _ else _) = _
  split
  · rfl
  · have := goes_off d
    cases hg : (dGoes d).2.2 with
    | true =>
      simp only
      rw [if_neg (this.1 hg)]; rfl
    | false =>
      have h0 : (dGoes d).2.1 = 0 := by
        rcases Int.decEq (dGoes d).2.1 0 with hh | hh
        · have := this.2 hh; rw [hg] at this; exact absurd this (by simp)
        · exact hh
      simp only
      rw [if_pos h0]
      show (( _, _, _, _, _, rFlushF ((dGoes d).1.bs.map List.flatten) ((dGoes d).1.ws.map absW), _), _) = _
      rw [abs_flushF]; rfl
theorem abs_set (a : Int × Bool × List Int) (d : DSt) : rSet a (abs d) = (abs (dSet a d).1, (dSet a d).2) := by
  unfold rSet dSet
  show (if a.1 < 0 then _ else if d.down = true then _ else _) = _
  split
  · rfl
  split <;> rfl
theorem abs_crash {n : Nat} {d : DSt} (keep : List Int) (h : dOk n d) : rCrash keep (abs d) = (abs (dCrash keep d).1, (dCrash keep d).2) := by
  unfold rCrash dCrash
  show (if d.down = true then _ else _) = _
  split
  · rfl
  · rw [abs_fall h]
theorem abs_start (d : DSt) : rStart (abs d) = (abs (dStart d).1, (dStart d).2) := by
  unfold rStart dStart
  show (if d.down = false then _ else _) = _
  split <;> rfl
theorem write_short {d : DSt} (i : Int) : dWrite i [120] d = (d, 1) := by
  unfold dWrite
  rw [if_pos (.inr (by decide))]
theorem abs_step {n : Nat} {d : DSt} (s : Step) (h : dOk n d) : (rStep s (abs d)).1 = abs (dStep s d).1 ∧ does s d (abs d) = true := by
  unfold does
  by_cases c7 : s.1 = 7
  · rw [if_pos c7]
    unfold dStep rStep
    rw [if_neg (by omega), if_neg (by omega), if_neg (by omega), if_neg (by omega), if_neg (by omega), if_neg (by omega), if_neg (by omega), if_neg (by omega), if_neg (by omega), if_neg (by omega), if_pos c7, write_short]
    exact ⟨rfl, rfl⟩
  · rw [if_neg c7]
    have key : rStep s (abs d) = (abs (dStep s d).1, (dStep s d).2) := by
      unfold rStep dStep
      split
      · exact abs_write _ _ h
      split
      · exact abs_flush h
      split
      · exact abs_crash _ h
      split
      · exact abs_start d
      split
      · exact abs_set _ d
      · rfl
    rw [key]
    exact ⟨rfl, by simp⟩
theorem fillB_len (b : Int) : (fillB b).length = 256 := List.length_replicate
theorem step_ok {n : Nat} {d : DSt} {s : Step} (h : dOk n d) (ha : -9223372036854775808 ≤ s.2.1 ∧ s.2.1 ≤ 9223372036854775807) (hk : s.2.2.2.2.length ≤ 1000000) : dOk (n + 1) (dStep s d).1 := by
  have wk : ∀ {d : DSt}, dOk n d → dOk (n + 1) d := fun h => ⟨h.1, h.2.1, by have := h.2.2.1; omega, h.2.2.2⟩
  have hg := (dGoes_ok h).1
  unfold dStep
  split
  · unfold dWrite
    split
    · exact wk h
    split
    · exact wk h
    split
    · exact wk hg
    · rename_i c1 c2 c3
      obtain ⟨h1, h2, h3, h4, h5, h6, h7⟩ := hg
      have hi : inD s.2.1 d = true := by
        cases hi : inD s.2.1 d with
        | true => rfl
        | false => exact absurd (.inl hi) c1
      have hi' := in_iff.1 hi
      have hbl : (dGoes d).1.bs.length = d.bs.length := by
        unfold dGoes
        split
        · rfl
        split
        · rfl
        split
        · rfl
        · exact (fallF_ok (keep := d.keep) (k := 0) h.2.1 h.2.2.2.1).1
      refine ⟨h1, h2, by simp only [DSt.ws, List.length_append, List.length_cons, List.length_nil] at h3 ⊢; omega, fun w hw => ?_, h5, h6, h7⟩
      rcases List.mem_append.1 hw with hw | hw
      · exact h4 w hw
      · rw [List.mem_singleton] at hw
        subst hw
        exact ⟨hi'.1, by have := hi'.2; show s.2.1 < ((dGoes d).1.bs.length : Int); omega, cutB_ok (fillB_len _)⟩
  split
  · unfold dFlush
    split
    · exact wk h
    · obtain ⟨h1, h2, h3, h4, h5, h6, h7⟩ := hg
      cases (dGoes d).2.2 with
      | true => exact ⟨h1, h2, Nat.zero_le _, fun w hw => absurd hw List.not_mem_nil, h5, h6, h7⟩
      | false =>
        have := flushF_ok (ws := (dGoes d).1.ws) h2 (fun w hw => (h4 w hw).2.2)
        exact ⟨by show (flushF (dGoes d).1.bs (dGoes d).1.ws).length ≤ 1000; rw [this.1]; exact h1, this.2, Nat.zero_le _, fun w hw => absurd hw List.not_mem_nil, h5, h6, h7⟩
  split
  · unfold dCrash
    split
    · exact wk h
    · exact wk (dFall_ok h)
  split
  · unfold dStart
    split
    · exact wk h
    · exact wk h
  split
  · unfold dSet
    split
    · exact wk h
    split
    · exact wk h
    · exact wk ⟨h.1, h.2.1, h.2.2.1, h.2.2.2.1, ha.1, ha.2, hk⟩
  split
  · rw [write_short]; exact wk h
  · exact wk h
end Sp

theorem rectoref27_Disk_Write.ok (R : Int → Bool → Bool → Int → Bool → List Int → List (List UInt8) → List (Int × List UInt8) → Prop) (i : Int) (s : Str) (rdown rarmed : Bool) (rafter : Int) (racut : Bool) (rkeep : List Int) (rbs : List Str) (rws : List (Int × Str))
    (h : Sp.rWrite.pre i s (rdown, rarmed, rafter, racut, rkeep, rbs, rws)) (hR : Sp.ap (R (Sp.rWrite i s (rdown, rarmed, rafter, racut, rkeep, rbs, rws)).2) (Sp.rWrite i s (rdown, rarmed, rafter, racut, rkeep, rbs, rws)).1) : rectoref27_Disk_Write.vc R i s rdown rarmed rafter racut rkeep rbs rws := by
  obtain ⟨h, hs⟩ := h
  unfold rectoref27_Disk_Write.vc
  unfold Sp.rWrite at hR
  rw [cond_dec, cond_dec, cond_ndec]
  split
  · rename_i c1
    have hi : Sp.rIn i (rdown, rarmed, rafter, racut, rkeep, rbs, rws) = false := by unfold Sp.rIn; exact decide_eq_false (fun e => by omega)
    rw [if_pos (.inl hi)] at hR; exact hR
  split
  · rename_i c1 c2
    have hi : Sp.rIn i (rdown, rarmed, rafter, racut, rkeep, rbs, rws) = false := by unfold Sp.rIn; exact decide_eq_false (fun e => by have := e.2; simp only [Sp.RSt.bs] at this; omega)
    rw [if_pos (.inl hi)] at hR; exact hR
  · rename_i c1 c2
    have hi : Sp.rIn i (rdown, rarmed, rafter, racut, rkeep, rbs, rws) = true := Sp.r_in_iff.2 ⟨by omega, by simp only [Sp.RSt.bs]; omega⟩
    rw [hi] at hR
    split
    · rename_i c3
      have c3' : List.length s = 256 := by omega
      rw [if_neg (by simp [c3'])] at hR
      cases rdown with
      | true => exact hR
      | false =>
        rw [if_neg (by simp)] at hR
        refine ⟨h, ?_⟩
        have hg : (Sp.rGoes (false, rarmed, rafter, racut, rkeep, rbs, rws)).1.2.2.2.2.2.2.length ≤ 100000 := by
          have h3 := h.2.2.1
          unfold Sp.rGoes
          split
          · exact h3
          split
          · exact h3
          split
          · exact Nat.zero_le _
          · exact h3
        rw [cond_dec, gr_iff]
        split
        · rename_i c4
          rw [if_pos c4] at hR
          exact ⟨by omega, hR⟩
        · rename_i c4
          rw [if_neg c4] at hR
          exact hR
    · rename_i c3
      rw [if_pos (.inr (fun e => c3 (by omega)))] at hR
      exact hR

theorem rectoref27_Disk_Flush.ok (R : Int → Bool → Bool → Int → Bool → List Int → List (List UInt8) → List (Int × List UInt8) → Prop) (rdown rarmed : Bool) (rafter : Int) (racut : Bool) (rkeep : List Int) (rbs : List Str) (rws : List (Int × Str))
    (h : Sp.rPre (rdown, rarmed, rafter, racut, rkeep, rbs, rws)) (hR : Sp.ap (R (Sp.rFlush (rdown, rarmed, rafter, racut, rkeep, rbs, rws)).2) (Sp.rFlush (rdown, rarmed, rafter, racut, rkeep, rbs, rws)).1) : rectoref27_Disk_Flush.vc R rdown rarmed rafter racut rkeep rbs rws := by
  unfold rectoref27_Disk_Flush.vc
  unfold Sp.rFlush at hR
  cases rdown with
  | true => exact hR
  | false =>
    rw [if_neg (by simp)] at hR
    refine ⟨h, ?_⟩
    have hg : (Sp.rGoes (false, rarmed, rafter, racut, rkeep, rbs, rws)).2 = 0 → (Sp.rGoes (false, rarmed, rafter, racut, rkeep, rbs, rws)).1.bs = rbs ∧ (Sp.rGoes (false, rarmed, rafter, racut, rkeep, rbs, rws)).1.ws = rws := by
      unfold Sp.rGoes
      split
      · exact fun _ => ⟨rfl, rfl⟩
      split
      · exact fun _ => ⟨rfl, rfl⟩
      split
      · exact fun e => absurd e (by simp)
      · exact fun _ => ⟨rfl, rfl⟩
    obtain ⟨g1, g2, g3, g4, _⟩ := h
    simp only [Sp.RSt.bs, Sp.RSt.ws] at g1 g2 g3 g4
    generalize Sp.rGoes (false, rarmed, rafter, racut, rkeep, rbs, rws) = g at *
    obtain ⟨⟨down', armed', after', acut', keep', bs', ws'⟩, e⟩ := g
    rw [cond_dec]
    simp only [Sp.ap, Sp.RSt.down, Sp.RSt.armed, Sp.RSt.after, Sp.RSt.acut, Sp.RSt.keep, Sp.RSt.bs, Sp.RSt.ws] at hR hg ⊢
    split
    · rename_i c1
      rw [if_pos c1] at hR
      obtain ⟨rfl, rfl⟩ := hg c1
      refine Lp_rule (fun v => ∃ (p : Nat) (cs : List Str), v = (e, (ws'.length : Int), (p : Int), down', armed', after', acut', keep', cs, ws', ()) ∧ p ≤ ws'.length ∧ cs.length = bs'.length ∧ Sp.rFlushF cs (ws'.drop p) = Sp.rFlushF bs' ws')
        (fun v => ws'.length - v.2.2.1.toNat) ?_ ⟨0, bs', rfl, Nat.zero_le _, rfl, rfl⟩
      rintro _ K ⟨p, cs, rfl, hp, hcl, hf⟩ hK
      simp only [rectoref27_Disk_Flush.L0, cond_dec, ix_iff, rg64]
      split
      · rename_i c1
        have hp' : p < ws'.length := by omega
        have hd := drop_cons (d := ((0 : Int), ([] : Str))) hp'
        have hmem := Sp.nth_get (l := ws') (d := ((0 : Int), ([] : Str))) (show 0 ≤ (p : Int) by omega) (by omega)
        have hwb := g4 _ hmem
        generalize nth ws' (p : Int) ((0 : Int), ([] : Str)) = w at *
        rw [hd, Sp.rFlushF] at hf
        exact ⟨by omega, by omega, by omega, hK _ ⟨p + 1, _, rfl, by omega, by simp [hcl], hf⟩ (by simp; omega)⟩
      · have : p = ws'.length := by omega
        subst this
        rw [List.drop_length, Sp.rFlushF] at hf
        rw [hf]
        exact hR
    · rename_i c1
      rw [if_neg c1] at hR
      exact hR

theorem rectoref27_Disk_Set.ok (R : Int → Bool → Bool → Int → Bool → List Int → List (List UInt8) → List (Int × List UInt8) → Prop) (a : Int × (Bool × (List Int))) (rdown rarmed : Bool) (rafter : Int) (racut : Bool) (rkeep : List Int) (rbs : List Str) (rws : List (Int × Str))
    (_ : Sp.rSet.pre a (rdown, rarmed, rafter, racut, rkeep, rbs, rws)) (hR : Sp.ap (R (Sp.rSet a (rdown, rarmed, rafter, racut, rkeep, rbs, rws)).2) (Sp.rSet a (rdown, rarmed, rafter, racut, rkeep, rbs, rws)).1) : rectoref27_Disk_Set.vc R a rdown rarmed rafter racut rkeep rbs rws := by
  unfold rectoref27_Disk_Set.vc
  unfold Sp.rSet at hR
  rw [cond_dec]
  split
  · rename_i c1; rw [if_pos c1] at hR; exact hR
  · rename_i c1
    rw [if_neg c1] at hR
    cases rdown with
    | true => exact hR
    | false => exact hR
theorem rectoref27_Disk_Crash.ok (R : Int → Bool → Bool → Int → Bool → List Int → List (List UInt8) → List (Int × List UInt8) → Prop) (keep_ : List Int) (rdown rarmed : Bool) (rafter : Int) (racut : Bool) (rkeep : List Int) (rbs : List Str) (rws : List (Int × Str))
    (h : Sp.rFall.pre keep_ (rdown, rarmed, rafter, racut, rkeep, rbs, rws)) (hR : Sp.ap (R (Sp.rCrash keep_ (rdown, rarmed, rafter, racut, rkeep, rbs, rws)).2) (Sp.rCrash keep_ (rdown, rarmed, rafter, racut, rkeep, rbs, rws)).1) : rectoref27_Disk_Crash.vc R keep_ rdown rarmed rafter racut rkeep rbs rws := by
  unfold Sp.rCrash at hR
  cases rdown with
  | true => exact hR
  | false => exact ⟨h, hR⟩
theorem rectoref27_Disk_Start.ok (R : Int → Bool → Bool → Int → Bool → List Int → List (List UInt8) → List (Int × List UInt8) → Prop) (rdown rarmed : Bool) (rafter : Int) (racut : Bool) (rkeep : List Int) (rbs : List Str) (rws : List (Int × Str))
    (_ : Sp.rPre (rdown, rarmed, rafter, racut, rkeep, rbs, rws)) (hR : Sp.ap (R (Sp.rStart (rdown, rarmed, rafter, racut, rkeep, rbs, rws)).2) (Sp.rStart (rdown, rarmed, rafter, racut, rkeep, rbs, rws)).1) : rectoref27_Disk_Start.vc R rdown rarmed rafter racut rkeep rbs rws := by
  unfold Sp.rStart at hR
  cases rdown with
  | true => exact hR
  | false => exact hR


namespace Sp
abbrev q7 {α β γ : Type} (d : Bool × Bool × Int × Bool × List Int × List α × List β) (r : γ) : Bool × Bool × Int × Bool × List Int × List α × List β × γ := (d.1, d.2.1, d.2.2.1, d.2.2.2.1, d.2.2.2.2.1, d.2.2.2.2.2.1, d.2.2.2.2.2.2, r)
abbrev StT : Ty := .pair (.int .i64) (.pair (.int .i64) (.pair (.int .u8) (.pair .bool (.sl (.int .i64)))))
def stOk (s : Step) : Prop := (-9223372036854775808 ≤ s.2.1 ∧ s.2.1 ≤ 9223372036854775807) ∧ (0 ≤ s.2.2.1 ∧ s.2.2.1 ≤ 255) ∧ s.2.2.2.2.length ≤ 60
theorem longF_false : ∀ {l : List Step} {i : Int}, longF i l = false → (∀ s, s ∈ l → s.2.2.2.2.length ≤ 60) ∧ (i + l.length ≤ 61 ∨ l = [])
  | [], i, _ => ⟨fun s hs => absurd hs List.not_mem_nil, .inr rfl⟩
  | s :: l, i, h => by
    rw [longF] at h
    split at h
    · exact absurd h (by simp)
    · rename_i c
      have := longF_false h
      refine ⟨fun x hx => ?_, .inl ?_⟩
      · rcases List.mem_cons.1 hx with rfl | hx
        · omega
        · exact this.1 x hx
      · rcases this.2 with h2 | h2
        · rw [List.length_cons]; omega
        · subst h2; simp; omega
theorem steps_ok {l : List Step} (h : Sz (.sl StT) l) (hl : longS l = false) : l.length ≤ 61 ∧ ∀ s, s ∈ l → stOk s := by
  have h1 := longF_false hl
  refine ⟨?_, fun s hs => ?_⟩
  · rcases h1.2 with h2 | h2
    · omega
    · rw [h2]; simp
  · have h0 := h.mem s hs
    have ha := h0.pair.2.pair.1.int
    have hb := h0.pair.2.pair.2.pair.1.int
    exact ⟨ha, hb, h1.1 s hs⟩
theorem dOk_up {n : Nat} {d : DSt} (h : dOk n d) (hn : n ≤ 100000) : dPre d := ⟨h.1, h.2.1, by have := h.2.2.1; omega, h.2.2.2⟩
theorem dOk_le {n m : Nat} {d : DSt} (h : dOk n d) (hn : n ≤ m) : dOk m d := ⟨h.1, h.2.1, by have := h.2.2.1; omega, h.2.2.2⟩
theorem rOk_up {n : Nat} {d : RSt} (h : rOk n d) (hn : n ≤ 100000) : rPre d := ⟨h.1, h.2.1, by have := h.2.2.1; omega, h.2.2.2⟩
theorem does_pre {n m : Nat} {d w : DSt} {s : Step} (h : dOk n d) (hw : dOk m w) (hn : n ≤ 100000) (hm : m ≤ 100000) (hs : stOk s) : does.pre s d (abs w) :=
  ⟨dOk_up h hn, rOk_up (abs_ok hw) hm, hs.2.1.1, hs.2.1.2, hs.1.1, hs.1.2, by have := hs.2.2; omega⟩
theorem new_ok {n : Int} (h : n ≤ 1000) : dOk 0 (dNew n) := by
  refine ⟨by simp [dNew, DSt.bs]; omega, fun b hb => ?_, Nat.le_refl _, fun w hw => absurd hw List.not_mem_nil, by show (-9223372036854775808 : Int) ≤ 0; omega, by show (0 : Int) ≤ 9223372036854775807; omega, Nat.zero_le _⟩
  have : b = zeroB := List.eq_of_mem_replicate hb
  rw [this]; exact zeroB_ok
theorem zero_flat : zeroB.flatten = List.replicate 256 (0 : UInt8) := by decide +kernel
theorem abs_new (n : Int) : abs (dNew n) = rNew n := by
  show (false, false, 0, false, [], (List.replicate n.toNat zeroB).map List.flatten, ([] : List Wr).map absW) = _
  rw [List.map_replicate, zero_flat]; rfl
theorem step_up {n m : Nat} {d : DSt} {s : Step} (h : dOk n d) (hs : stOk s) (hm : n + 1 ≤ m) : dOk m (dStep s d).1 := dOk_le (step_ok h hs.1 (by have := hs.2.2; omega)) hm
theorem goes_bs {n : Nat} {d : DSt} (h : dOk n d) : (dGoes d).1.bs.length = d.bs.length := by
  unfold dGoes
  split
  · rfl
  split
  · rfl
  split
  · rfl
  · exact (fallF_ok (keep := d.keep) (k := 0) h.2.1 h.2.2.2.1).1
theorem write_bs {n : Nat} {d : DSt} (i : Int) (s : Str) (h : dOk n d) : (dWrite i s d).1.bs.length = d.bs.length := by
  unfold dWrite
  split
  · rfl
  split
  · rfl
  split
  · exact goes_bs h
  · exact goes_bs h
theorem flush_bs {n : Nat} {d : DSt} (h : dOk n d) : (dFlush d).1.bs.length = d.bs.length := by
  unfold dFlush
  split
  · rfl
  · have hg := (dGoes_ok h).1
    cases (dGoes d).2.2 with
    | true => exact goes_bs h
    | false =>
      have := (flushF_ok (ws := (dGoes d).1.ws) hg.2.1 (fun w hw => (hg.2.2.2.1 w hw).2.2)).1
      exact this.trans (goes_bs h)
theorem step_bs {n : Nat} {d : DSt} {s : Step} (h : dOk n d) : (dStep s d).1.bs.length = d.bs.length := by
  unfold dStep
  split
  · exact write_bs _ _ h
  split
  · exact flush_bs h
  split
  · unfold dCrash
    split
    · rfl
    · exact (fallF_ok (k := 0) h.2.1 h.2.2.2.1).1
  split
  · unfold dStart; split <;> rfl
  split
  · unfold dSet
    split
    · rfl
    split <;> rfl
  split
  · rw [write_short]
  · rfl
theorem lasts_abs {d : DSt} {i : Int} (h0 : 0 ≤ i) (h1 : i < d.bs.length) : dLasts i d = nth (abs d).bs i [] := by
  unfold dLasts
  rw [if_neg (by rw [in_iff.2 ⟨h0, h1⟩]; simp)]
  exact (nth_map List.flatten (l := d.bs) ([] : Blk) ([] : Str) h0 h1).symm
theorem lasts_out {d : DSt} {i : Int} (h : ¬ (0 ≤ i ∧ i < d.bs.length)) : dLasts i d = [] := by
  unfold dLasts
  rw [if_pos (by cases hi : inD i d with | false => rfl | true => exact absurd (in_iff.1 hi) h)]
end Sp

theorem rectolaw27_fill.ok (R : List UInt8 → Prop) (b : Int) (_ : Sp.fillB.pre b) (hR : R (Sp.fillB b)) : rectolaw27_fill.vc R b := by
  refine ⟨by rw [mk_iff]; omega, ?_⟩
  have e0 : rep (256 : Int) (0 : Int) = List.replicate 256 0 := rfl
  rw [e0]
  have hR' : R (bytesOf (List.replicate 256 b)) := by unfold bytesOf; rw [List.map_replicate]; exact hR
  clear hR e0
  generalize hz : (256 : Nat) = z at hR' ⊢
  have hz' : (256 : Int) = z := by omega
  rw [show (((256 : Int)) : Int) = z from hz']
  refine Lp_rule (fun v => ∃ p : Nat, v = (b, (z : Int), (p : Int), List.replicate p b ++ (List.replicate z 0).drop p, ()) ∧ p ≤ z) (fun v => z - v.2.2.1.toNat) ?_ ⟨0, rfl, Nat.zero_le _⟩
  rintro _ K ⟨p, rfl, hp⟩ hK
  simp only [rectolaw27_fill.L0, cond_dec, rg64, ix_iff, List.length_append, List.length_drop, List.length_replicate]
  by_cases c : (p : Int) < z
  · rw [if_pos c]
    refine ⟨by omega, by omega, hK _ ⟨p + 1, ?_, by omega⟩ (by simp; omega)⟩
    rw [drop_cons (l := List.replicate z (0 : Int)) (d := 0) (by simp; omega), set_mid _ _ _ _ (by simp), List.replicate_succ', List.append_assoc]
    rfl
  · rw [if_neg c]
    have : p = z := by omega
    subst this
    rw [List.drop_of_length_le (by simp), List.append_nil]
    exact hR'

namespace Sp
theorem fillB_le (b : Int) : (fillB b).length ≤ 9223372036854775807 := by rw [fillB_len]; omega
theorem t0 : dOk 0 (dNew 4) := new_ok (by omega)
theorem write_ok {n : Nat} {d : DSt} {i : Int} {s : Str} (h : dOk n d) (ha : -9223372036854775808 ≤ i ∧ i ≤ 9223372036854775807) (hs : s.length = 256) : dOk (n + 1) (dWrite i s d).1 := by
  have wk : ∀ {d : DSt}, dOk n d → dOk (n + 1) d := fun h => dOk_le h (by omega)
  have hg := (dGoes_ok h).1
  unfold dWrite
  split
  · exact wk h
  split
  · exact wk h
  split
  · exact wk hg
  · rename_i c1 c2 c3
    obtain ⟨h1, h2, h3, h4, h5, h6, h7⟩ := hg
    have hi : inD i d = true := by
      cases hi : inD i d with
      | true => rfl
      | false => exact absurd (.inl hi) c1
    have hi' := in_iff.1 hi
    have hbl := goes_bs h
    refine ⟨h1, h2, by simp only [DSt.ws, List.length_append, List.length_cons, List.length_nil] at h3 ⊢; omega, fun w hw => ?_, h5, h6, h7⟩
    rcases List.mem_append.1 hw with hw | hw
    · exact h4 w hw
    · rw [List.mem_singleton] at hw
      subst hw
      exact ⟨hi'.1, by have := hi'.2; show i < ((dGoes d).1.bs.length : Int); omega, cutB_ok hs⟩
theorem crash_ok {n : Nat} {d : DSt} (keep : List Int) (h : dOk n d) : dOk n (dCrash keep d).1 := by
  unfold dCrash
  split
  · exact h
  · exact dFall_ok h
theorem start_ok {n : Nat} {d : DSt} (h : dOk n d) : dOk n (dStart d).1 := by
  unfold dStart
  split
  · exact h
  · exact h
theorem flush_ok {n : Nat} {d : DSt} (h : dOk n d) : dOk n (dFlush d).1 := by
  unfold dFlush
  split
  · exact h
  · obtain ⟨h1, h2, h3, h4, h5, h6, h7⟩ := (dGoes_ok h).1
    cases (dGoes d).2.2 with
    | true => exact ⟨h1, h2, Nat.zero_le _, fun w hw => absurd hw List.not_mem_nil, h5, h6, h7⟩
    | false =>
      have := flushF_ok (ws := (dGoes d).1.ws) h2 (fun w hw => (h4 w hw).2.2)
      exact ⟨by show (flushF (dGoes d).1.bs (dGoes d).1.ws).length ≤ 1000; rw [this.1]; exact h1, this.2, Nat.zero_le _, fun w hw => absurd hw List.not_mem_nil, h5, h6, h7⟩
end Sp

theorem rectolaw27_torn.ok (R : Bool → Prop) (hR : R Sp.tt) : rectolaw27_torn.vc R := by
  have h0 := Sp.t0
  have h1 : Sp.dOk 1 (Sp.dWrite 1 (Sp.fillB 7) (Sp.dNew 4)).1 := Sp.write_ok h0 (by omega) (Sp.fillB_len _)
  have w0 : Sp.dWrite 1 (Sp.fillB 7) (Sp.dNew 4) = ((false, false, 0, false, [], List.replicate 4 Sp.zeroB, [(1, Sp.cutB (Sp.fillB 7))]), 0) := by
    unfold Sp.dWrite
    rw [if_neg (by rw [Sp.fillB_len, show Sp.inD 1 (Sp.dNew 4) = true by decide]; simp), if_neg (by simp [Sp.dNew, Sp.DSt.down]), if_neg (by simp [Sp.dGoes, Sp.dNew, Sp.DSt.armed])]
    rfl
  rw [w0] at h1
  have h2 := Sp.crash_ok [2] h1
  have h3 := Sp.start_ok h2
  have p1 := Sp.dOk_up h1 (by omega)
  have p2 := Sp.dOk_up h2 (by omega)
  have p3 := Sp.dOk_up h3 (by omega)
  have f7 : Sp.fillB.pre 7 := by unfold Sp.fillB.pre; omega
  have f0 : Sp.fillB.pre 0 := by unfold Sp.fillB.pre; omega
  have sb : Sb 0 128 256 := by rw [sb_iff]; omega
  have pw : Sp.dWrite.pre 1 (Sp.fillB 7) (Sp.dNew 4) := ⟨Sp.dOk_up h0 (by omega), Sp.fillB_le 7⟩
  unfold rectolaw27_torn.vc
  rw [show ((false, false, (Sp.dNew 4).2.2.1, false, (Sp.dNew 4).2.2.2.2) : Sp.DSt) = Sp.dNew 4 from rfl, w0]
  exact ⟨f7, pw, ⟨p1, Nat.le_of_ble_eq_true rfl⟩, p2, p3, f7, sb, f0, sb, by omega, p3, p3, p3, hR⟩

theorem rectolaw27_long.ok (R : Bool → Prop) (l : List Sp.Step) (h : Sp.longS.pre l) (hR : R (Sp.longS l)) : rectolaw27_long.vc R l := by
  have h : l.length ≤ 9223372036854775807 := h
  refine Lp_rule (fun v => ∃ p : Nat, v = (l, (l.length : Int), (p : Int), ()) ∧ p ≤ l.length ∧ Sp.longF (p : Int) (l.drop p) = Sp.longS l) (fun v => l.length - v.2.2.1.toNat) ?_ ⟨0, rfl, Nat.zero_le _, rfl⟩
  rintro _ K ⟨p, rfl, hp, hf⟩ hK
  simp only [rectolaw27_long.L0, cond_dec, rg64, ix_iff]
  split
  · rename_i c1
    have hd := drop_cons (l := l) (d := ((0 : Int), (0 : Int), (0 : Int), false, ([] : List Int))) (show p < l.length by omega)
    rw [hd, Sp.longF] at hf
    refine ⟨by omega, ?_⟩
    split
    · rename_i c2
      rw [if_pos (.inl c2)] at hf
      rw [← hf] at hR; exact hR
    split
    · rename_i c2 c3
      rw [if_pos (.inr c3)] at hf
      rw [← hf] at hR; exact hR
    · rename_i c2 c3
      rw [if_neg (fun e => e.elim c2 c3)] at hf
      exact ⟨by omega, hK _ ⟨p + 1, rfl, by omega, hf⟩ (by simp; omega)⟩
  · have : p = l.length := by omega
    subst this
    rw [List.drop_length, Sp.longF] at hf
    rw [← hf] at hR; exact hR

set_option maxHeartbeats 1000000 in
theorem rectolaw27_does.ok (R : Bool → Bool → Bool → Int → Bool → List Int → Bool → Bool → Int → Bool → List Int → List (List (List UInt8)) → List (Int × List (List UInt8)) → List (List UInt8) → List (Int × List UInt8) → Prop) (s : Sp.Step) (down armed : Bool) (after : Int) (acut : Bool) (keep : List Int) (rdown rarmed : Bool) (rafter : Int) (racut : Bool) (rkeep : List Int) (bs : List (List Str)) (ws : List (Int × List Str)) (rbs : List Str) (rws : List (Int × Str))
    (h : Sp.does.pre s (down, armed, after, acut, keep, bs, ws) (rdown, rarmed, rafter, racut, rkeep, rbs, rws))
    (hR : R (Sp.does s (down, armed, after, acut, keep, bs, ws) (rdown, rarmed, rafter, racut, rkeep, rbs, rws)) (Sp.dStep s (down, armed, after, acut, keep, bs, ws)).1.1 (Sp.dStep s (down, armed, after, acut, keep, bs, ws)).1.2.1 (Sp.dStep s (down, armed, after, acut, keep, bs, ws)).1.2.2.1 (Sp.dStep s (down, armed, after, acut, keep, bs, ws)).1.2.2.2.1 (Sp.dStep s (down, armed, after, acut, keep, bs, ws)).1.2.2.2.2.1 (Sp.rStep s (rdown, rarmed, rafter, racut, rkeep, rbs, rws)).1.1 (Sp.rStep s (rdown, rarmed, rafter, racut, rkeep, rbs, rws)).1.2.1 (Sp.rStep s (rdown, rarmed, rafter, racut, rkeep, rbs, rws)).1.2.2.1 (Sp.rStep s (rdown, rarmed, rafter, racut, rkeep, rbs, rws)).1.2.2.2.1 (Sp.rStep s (rdown, rarmed, rafter, racut, rkeep, rbs, rws)).1.2.2.2.2.1 (Sp.dStep s (down, armed, after, acut, keep, bs, ws)).1.2.2.2.2.2.1 (Sp.dStep s (down, armed, after, acut, keep, bs, ws)).1.2.2.2.2.2.2 (Sp.rStep s (rdown, rarmed, rafter, racut, rkeep, rbs, rws)).1.2.2.2.2.2.1 (Sp.rStep s (rdown, rarmed, rafter, racut, rkeep, rbs, rws)).1.2.2.2.2.2.2) :
    rectolaw27_does.vc R s down armed after acut keep rdown rarmed rafter racut rkeep bs ws rbs rws := by
  obtain ⟨h1, h2, h3, h4, h5, h6, h7⟩ := h
  obtain ⟨what, at_, b, cut, kp⟩ := s
  have fb : Sp.fillB.pre b := ⟨h3, h4⟩
  have dw : Sp.dWrite.pre at_ (Sp.fillB b) (down, armed, after, acut, keep, bs, ws) := ⟨h1, Sp.fillB_le b⟩
  have rw' : Sp.rWrite.pre at_ (Sp.fillB b) (rdown, rarmed, rafter, racut, rkeep, rbs, rws) := ⟨h2, Sp.fillB_le b⟩
  have dx : Sp.dWrite.pre at_ [120] (down, armed, after, acut, keep, bs, ws) := ⟨h1, by simp⟩
  have df : Sp.dFall.pre kp (down, armed, after, acut, keep, bs, ws) := ⟨h1, h7⟩
  have rf : Sp.rFall.pre kp (rdown, rarmed, rafter, racut, rkeep, rbs, rws) := ⟨h2, h7⟩
  have ds : Sp.dSet.pre (at_, cut, kp) (down, armed, after, acut, keep, bs, ws) := ⟨h1, h7⟩
  have rs : Sp.rSet.pre (at_, cut, kp) (rdown, rarmed, rafter, racut, rkeep, rbs, rws) := ⟨h2, h7⟩
  have hc : what = 0 ∨ what = 1 ∨ what = 2 ∨ what = 3 ∨ what = 4 ∨ what = 5 ∨ what = 6 ∨ what = 7 ∨ (what ≠ 0 ∧ what ≠ 1 ∧ what ≠ 2 ∧ what ≠ 3 ∧ what ≠ 4 ∧ what ≠ 5 ∧ what ≠ 6 ∧ what ≠ 7) := by omega
  rcases hc with rfl | rfl | rfl | rfl | rfl | rfl | rfl | rfl | hc
  · exact ⟨fb, dw, fb, rw', hR⟩
  · exact ⟨fb, dw, fb, rw', hR⟩
  · exact ⟨fb, dw, fb, rw', hR⟩
  · exact ⟨h1, h2, hR⟩
  · exact ⟨df, rf, hR⟩
  · exact ⟨h1, h2, hR⟩
  · exact ⟨ds, rs, hR⟩
  · exact ⟨dx, hR⟩
  · obtain ⟨c0, c1, c2, c3, c4, c5, c6, c7⟩ := hc
    unfold Sp.does Sp.dStep Sp.rStep at hR
    simp only [c0, c1, c2, c3, c4, c5, c6, c7, or_self, if_false, decide_true] at hR
    unfold rectolaw27_does.vc
    simp only [c0, c1, c2, c3, c4, c5, c6, c7, decide_false, cond_false]
    exact hR


namespace Sp
theorem mk_eta {α β : Type} (x : α × β) : (x.1, x.2) = x := rfl
end Sp

theorem rectolaw27_DiskSteps.ok (R : Bool → Prop) (t : Int) (o : List Sp.Step) (A : Int) (h : Sz (.int .i64) t ∧ Sz (.sl Sp.StT) o ∧ Sz (.int .i64) A) (hR : R Sp.tt) : rectolaw27_DiskSteps.vc R t o A := by
  obtain ⟨_, ho, hA⟩ := h
  unfold rectolaw27_DiskSteps.vc
  cases hb : Sp.badN t with
  | true =>
    unfold Sp.badN at hb
    rw [cond_true, cond_dec, cond_dec]
    split
    · exact hR
    split
    · exact hR
    · rename_i c1 c2; simp [c1, c2] at hb
  | false =>
    unfold Sp.badN at hb
    rw [cond_false, cond_dec, cond_dec]
    split
    · rename_i c1; simp [c1] at hb
    split
    · rename_i c1 c2; simp [c2] at hb
    · rename_i c1 c2
      refine ⟨ho.sl, ?_⟩
      cases hl : Sp.longS o with
      | true => exact hR
      | false =>
        obtain ⟨ho1, ho2⟩ := Sp.steps_ok ho hl
        refine ⟨show t ≤ 1000 by omega, ?_⟩
        refine Lp_rule (fun v => ∃ (p : Nat) (d : Sp.DSt), v = (t, A, o, (o.length : Int), (p : Int), Sp.q7 d (Sp.q7 (Sp.abs d) ())) ∧ p ≤ o.length ∧ Sp.dOk p d ∧ (d.bs.length : Int) = t) (fun v => o.length - v.2.2.2.2.1.toNat) ?_
          ⟨0, Sp.dNew t, by rw [Sp.abs_new]; rfl, Nat.zero_le _, Sp.new_ok (by omega), by show (((List.replicate t.toNat Sp.zeroB).length : Nat) : Int) = t; rw [List.length_replicate]; omega⟩
        rintro _ K ⟨p, d, rfl, hp, hd, hbs⟩ hK
        simp only [rectolaw27_DiskSteps.L0, Sp.q7, Sp.mk_eta, cond_dec, cond_ndec, ix_iff, rg64]
        split
        · rename_i c3
          have hp' : p < o.length := by omega
          have hs := ho2 _ (Sp.nth_get (l := o) (d := ((0 : Int), (0 : Int), (0 : Int), false, ([] : List Int))) (show 0 ≤ (p : Int) by omega) (by omega))
          generalize nth o (p : Int) ((0 : Int), (0 : Int), (0 : Int), false, ([] : List Int)) = s at *
          have hst := Sp.abs_step s hd
          have hd' := Sp.step_up hd hs (Nat.le_refl _)
          have hbs' : ((Sp.dStep s d).1.bs.length : Int) = t := by rw [Sp.step_bs hd]; exact hbs
          have hpre := Sp.does_pre hd hd (by omega) (by omega) hs
          have hdp := Sp.dOk_up hd' (by omega)
          have hrp := Sp.rOk_up (Sp.abs_ok hd') (by omega)
          rw [hst.1, hst.2]
          generalize (Sp.dStep s d).1 = d' at *
          have e1 : eqB (Sp.upD d') (!(Sp.abs d').1) = true := by show eqB (!d'.down) (!d'.down) = true; cases d'.down <;> rfl
          have e2 : ((d'.ws.length : Nat) : Int) = (((Sp.abs d').2.2.2.2.2.2.length : Nat) : Int) := by show _ = (((d'.ws.map Sp.absW).length : Nat) : Int); rw [List.length_map]
          have e3 : (Sp.abs d').2.2.2.2.2.1.length = d'.bs.length := by show (d'.bs.map List.flatten).length = _; rw [List.length_map]
          have e4 := Sp.abs_read A d'
          refine ⟨by omega, hpre, ?_⟩
          simp only [Bool.not_true, cond_false]
          refine ⟨hdp, ?_⟩
          rw [e1]
          simp only [Bool.not_true, cond_false]
          refine ⟨hdp, ?_⟩
          rw [if_pos e2]
          refine ⟨hdp, ?_⟩
          rw [if_pos hbs']
          refine ⟨hdp, hrp, ?_⟩
          rw [e3, e4]
          have fin : K (t, A, o, (o.length : Int), (p : Int) + 1, Sp.q7 d' (Sp.q7 (Sp.abs d') ())) := hK _ ⟨p + 1, d', rfl, by omega, hd', hbs'⟩ (by simp; omega)
          split
          · rename_i c4
            split
            · rename_i c5
              refine ⟨by omega, ?_⟩
              rw [if_pos rfl, if_pos rfl]
              refine ⟨hdp, ?_⟩
              rw [if_pos (Sp.lasts_abs c4 (by omega))]
              exact ⟨by omega, fin⟩
            · rename_i c5
              rw [if_pos rfl, if_pos rfl]
              refine ⟨hdp, ?_⟩
              rw [if_pos (Sp.lasts_out (fun e => c5 (by omega)))]
              exact ⟨by omega, fin⟩
          · rename_i c4
            rw [if_pos rfl, if_pos rfl]
            refine ⟨hdp, ?_⟩
            rw [if_pos (Sp.lasts_out (fun e => c4 e.1))]
            exact ⟨by omega, fin⟩
        · exact hR

namespace Sp
/-- What lasts of a block: it was flushed, and nothing that waits is for it. -/
def Keeps (i : Int) (b : Blk) (d : DSt) : Prop := nth d.bs i [] = b ∧ ∀ w, w ∈ d.ws → w.1 ≠ i
theorem nth_set_ne {α : Type} {l : List α} {i j : Int} {x d : α} (h0 : 0 ≤ i) (hj : 0 ≤ j) (h : j ≠ i) : nth (l.set j.toNat x) i d = nth l i d := by
  unfold nth
  rw [List.getD_eq_getElem?_getD, List.getD_eq_getElem?_getD, List.getElem?_set_ne (by omega)]
theorem fallF_keeps {keep : List Int} {i : Int} (h0 : 0 ≤ i) : ∀ {ws : List Wr} {k : Int} {bs : List Blk}, (∀ w, w ∈ ws → 0 ≤ w.1 ∧ w.1 ≠ i) → nth (fallF keep k bs ws) i [] = nth bs i []
  | [], k, bs, _ => rfl
  | w :: l, k, bs, h => by
    rw [fallF, fallF_keeps h0 (fun x hx => h x (by simp [hx]))]
    have := h w (by simp)
    exact nth_set_ne h0 this.1 this.2
theorem flushF_keeps {i : Int} (h0 : 0 ≤ i) : ∀ {ws : List Wr} {bs : List Blk}, (∀ w, w ∈ ws → 0 ≤ w.1 ∧ w.1 ≠ i) → nth (flushF bs ws) i [] = nth bs i []
  | [], bs, _ => rfl
  | w :: l, bs, h => by
    rw [flushF, flushF_keeps h0 (fun x hx => h x (by simp [hx]))]
    have := h w (by simp)
    exact nth_set_ne h0 this.1 this.2
theorem fall_keeps {n : Nat} {keep : List Int} {i : Int} {b : Blk} {d : DSt} (h0 : 0 ≤ i) (hd : dOk n d) (h : Keeps i b d) : Keeps i b (dFall keep d) := by
  refine ⟨?_, fun w hw => absurd hw List.not_mem_nil⟩
  rw [← h.1]
  exact fallF_keeps h0 (fun w hw => ⟨(hd.2.2.2.1 w hw).1, h.2 w hw⟩)
theorem goes_keeps {n : Nat} {i : Int} {b : Blk} {d : DSt} (h0 : 0 ≤ i) (hd : dOk n d) (h : Keeps i b d) : Keeps i b (dGoes d).1 := by
  unfold dGoes
  split
  · exact h
  split
  · exact h
  split
  · exact h
  · exact fall_keeps h0 hd h
theorem write_keeps {n : Nat} {i j : Int} {b : Blk} {s : Str} {d : DSt} (h0 : 0 ≤ i) (hd : dOk n d) (h : Keeps i b d) (hj : j ≠ i) : Keeps i b (dWrite j s d).1 := by
  have hg := goes_keeps h0 hd h
  unfold dWrite
  split
  · exact h
  split
  · exact h
  split
  · exact hg
  · refine ⟨hg.1, fun w hw => ?_⟩
    rcases List.mem_append.1 hw with hw | hw
    · exact hg.2 w hw
    · rw [List.mem_singleton] at hw
      subst hw
      exact hj
theorem step_keeps {n : Nat} {i : Int} {b : Blk} {s : Step} {d : DSt} (h0 : 0 ≤ i) (hd : dOk n d) (h : Keeps i b d) (hs : ¬ (s.1 < 3 ∧ s.2.1 = i)) : Keeps i b (dStep s d).1 := by
  have hg := goes_keeps h0 hd h
  have hgo := (dGoes_ok hd).1
  unfold dStep
  split
  · rename_i c
    exact write_keeps h0 hd h (fun e => hs ⟨by omega, e⟩)
  split
  · unfold dFlush
    split
    · exact h
    · refine ⟨?_, fun w hw => absurd hw List.not_mem_nil⟩
      cases (dGoes d).2.2 with
      | true => exact hg.1
      | false =>
        show nth (flushF (dGoes d).1.bs (dGoes d).1.ws) i [] = b
        rw [flushF_keeps h0 (fun w hw => ⟨(hgo.2.2.2.1 w hw).1, hg.2 w hw⟩)]
        exact hg.1
  split
  · unfold dCrash
    split
    · exact h
    · exact fall_keeps h0 hd h
  split
  · unfold dStart; split
    · exact h
    · exact h
  split
  · unfold dSet
    split
    · exact h
    split
    · exact h
    · exact h
  split
  · rw [write_short]; exact h
  · exact h
theorem keeps_lasts {i : Int} {s : Str} {d : DSt} (h : Keeps i (cutB s) d) (hs : s.length = 256) (h0 : 0 ≤ i) (h1 : i < d.bs.length) : dLasts i d = s := by
  unfold dLasts
  rw [if_neg (by rw [in_iff.2 ⟨h0, h1⟩]; simp), h.1, cut_flat hs]
theorem new_write {n i : Int} {s : Str} (h0 : 0 ≤ i) (h1 : i < n) (hs : s.length = 256) : dWrite i s (dNew n) = ((false, false, 0, false, [], List.replicate n.toNat zeroB, [(i, cutB s)]), 0) := by
  have hi : inD i (dNew n) = true := in_iff.2 ⟨h0, by show i < (((List.replicate n.toNat zeroB).length : Nat) : Int); rw [List.length_replicate]; omega⟩
  unfold dWrite
  rw [if_neg (by rw [hi, hs]; simp), if_neg (by simp [dNew, DSt.down]), if_neg (by simp [dGoes, dNew, DSt.armed])]
  rfl
end Sp

theorem rectolaw27_DiskLasts.ok (R : Bool → Prop) (l : List Sp.Step) (at_ b : Int) (h : Sz (.sl Sp.StT) l ∧ Sz (.int .i64) at_ ∧ Sz (.int .u8) b) (hR : R Sp.tt) : rectolaw27_DiskLasts.vc R l at_ b := by
  obtain ⟨ho, ha, hb⟩ := h
  have fb : Sp.fillB.pre b := hb.int
  have hfl := Sp.fillB_len b
  refine ⟨ho.sl, ?_⟩
  cases hl : Sp.longS l with
  | true => exact hR
  | false =>
    obtain ⟨ho1, ho2⟩ := Sp.steps_ok ho hl
    rw [cond_false, cond_dec, cond_dec]
    split
    · exact hR
    split
    · exact hR
    · rename_i c1 c2
      rw [show ((false, false, (Sp.dNew 16).2.2.1, false, (Sp.dNew 16).2.2.2.2) : Sp.DSt) = Sp.dNew 16 from rfl, Sp.new_write (by omega) (by omega) hfl]
      have h0 : Sp.dOk 0 (Sp.dNew 16) := Sp.new_ok (by omega)
      have h1 := Sp.write_ok (i := at_) h0 (by omega) hfl
      rw [Sp.new_write (by omega) (by omega) hfl] at h1
      have h2 := Sp.flush_ok h1
      have e2 : Sp.dFlush (false, false, 0, false, [], List.replicate (Int.toNat 16) Sp.zeroB, [(at_, Sp.cutB (Sp.fillB b))]) = ((false, false, 0, false, [], (List.replicate (Int.toNat 16) Sp.zeroB).set at_.toNat (Sp.cutB (Sp.fillB b)), []), 0) := rfl
      simp only at h1 h2 ⊢
      rw [e2] at h2 ⊢
      simp only at h2 ⊢
      have hk : Sp.Keeps at_ (Sp.cutB (Sp.fillB b)) (false, false, 0, false, [], (List.replicate (Int.toNat 16) Sp.zeroB).set at_.toNat (Sp.cutB (Sp.fillB b)), []) := by
        refine ⟨?_, fun w hw => absurd hw List.not_mem_nil⟩
        unfold nth
        rw [List.getD_eq_getElem?_getD]
        show (((List.replicate (Int.toNat 16) Sp.zeroB).set at_.toNat (Sp.cutB (Sp.fillB b)))[at_.toNat]?).getD [] = _
        rw [List.getElem?_set_self (by rw [List.length_replicate]; omega)]
        rfl
      have hbl : (Sp.DSt.bs (false, false, 0, false, [], (List.replicate (Int.toNat 16) Sp.zeroB).set at_.toNat (Sp.cutB (Sp.fillB b)), [])).length = 16 := by
        show ((List.replicate (Int.toNat 16) Sp.zeroB).set at_.toNat (Sp.cutB (Sp.fillB b))).length = 16
        rw [List.length_set, List.length_replicate]; rfl
      refine ⟨fb, ⟨Sp.dOk_up h0 (by omega), Sp.fillB_le b⟩, Sp.dOk_up h1 (by omega), ?_⟩
      rw [cond_ndec, if_pos trivial, cond_ndec, if_pos trivial]
      refine ⟨Sp.dOk_up h2 (by omega), fb, ?_⟩
      rw [cond_ndec, if_pos (Sp.keeps_lasts hk hfl (by omega) (by rw [hbl]; omega))]
      refine ⟨show (16 : Int) ≤ 1000 by omega, ?_⟩
      refine Lp_rule (fun v => ∃ (p : Nat) (d w : Sp.DSt), v = (at_, b, l, (l.length : Int), (p : Int), Sp.q7 d (Sp.q7 (Sp.abs w) ())) ∧ p ≤ l.length ∧ Sp.dOk (p + 1) d ∧ Sp.dOk p w ∧ Sp.Keeps at_ (Sp.cutB (Sp.fillB b)) d ∧ d.bs.length = 16) (fun v => l.length - v.2.2.2.2.1.toNat) ?_
        ⟨0, (false, false, (0 : Int), false, ([] : List Int), (List.replicate (Int.toNat 16) Sp.zeroB).set at_.toNat (Sp.cutB (Sp.fillB b)), ([] : List Sp.Wr)), Sp.dNew 16, by rw [Sp.abs_new]; rfl, Nat.zero_le _, h2, h0, hk, hbl⟩
      rintro _ K ⟨p, d, w, rfl, hp, hd, hw, hk, hbs⟩ hK
      simp only [rectolaw27_DiskLasts.L0, Sp.q7, Sp.mk_eta, cond_dec, cond_ndec, ix_iff, rg64]
      split
      · rename_i c3
        have hp' : p < l.length := by omega
        have hs := ho2 _ (Sp.nth_get (l := l) (d := ((0 : Int), (0 : Int), (0 : Int), false, ([] : List Int))) (show 0 ≤ (p : Int) by omega) (by omega))
        generalize nth l (p : Int) ((0 : Int), (0 : Int), (0 : Int), false, ([] : List Int)) = s at *
        have go (hn : ¬ (s.1 < 3 ∧ s.2.1 = at_)) : Sp.does.pre s d (Sp.abs w) ∧ Sp.dPre (Sp.dStep s d).1 ∧ Sp.fillB.pre b ∧ if Sp.dLasts at_ (Sp.dStep s d).1 = Sp.fillB b then (-9223372036854775808 ≤ (p : Int) + 1 ∧ (p : Int) + 1 ≤ 9223372036854775807) ∧ K (at_, b, l, (l.length : Int), (p : Int) + 1, Sp.q7 (Sp.dStep s d).1 (Sp.q7 (Sp.rStep s (Sp.abs w)).1 ())) else R false := by
          have hst := Sp.abs_step s hw
          have hd' := Sp.step_up hd hs (Nat.le_refl _)
          have hw' := Sp.step_up hw hs (Nat.le_refl _)
          have hk' := Sp.step_keeps (by omega) hd hk hn
          have hbs' : (Sp.dStep s d).1.bs.length = 16 := by rw [Sp.step_bs hd]; exact hbs
          rw [hst.1]
          refine ⟨Sp.does_pre hd hw (by omega) (by omega) hs, Sp.dOk_up hd' (by omega), fb, ?_⟩
          rw [if_pos (Sp.keeps_lasts hk' hfl (by omega) (by omega))]
          exact ⟨by omega, hK _ ⟨p + 1, _, _, rfl, by omega, hd', hw', hk', hbs'⟩ (by simp; omega)⟩
        refine ⟨by omega, ?_⟩
        split
        · rename_i c4
          split
          · rename_i c5
            exact ⟨by omega, hK _ ⟨p + 1, d, w, rfl, by omega, Sp.dOk_le hd (by omega), Sp.dOk_le hw (by omega), hk, hbs⟩ (by simp; omega)⟩
          · rename_i c5
            exact go (fun e => c5 e.2)
        · rename_i c4
          exact go (fun e => c4 e.1)
      · exact hR


namespace Sp
def secOf (s : Str) (k : Int) : Str := sub s (64 * k) (64 * k + 64)
theorem sec_flat {b : Blk} (h : bOk b) (k : Nat) (hk : k < 4) : secOf b.flatten (k : Int) = b.getD k [] := by
  unfold secOf sub
  rw [show (64 * (k : Int) + 64).toNat = 64 * (k + 1) by omega, show (64 * (k : Int)).toNat = 64 * k by omega, ← flat_take _ _ h.2, ← flat_drop _ _ (fun x hx => h.2 x (List.mem_of_mem_take hx))]
  match b, h.1, k, hk with
  | [a1, a2, a3, a4], _, 0, _ => simp
  | [a1, a2, a3, a4], _, 1, _ => simp
  | [a1, a2, a3, a4], _, 2, _ => simp
  | [a1, a2, a3, a4], _, 3, _ => simp
theorem cpA_sec {a b : Blk} {m : Int} (ha : bOk a) (hb : bOk b) (hm : 0 ≤ m ∧ m ≤ 4) (k : Nat) (hk : k < 4) : (cpA m a b).getD k [] = a.getD k [] ∨ (cpA m a b).getD k [] = b.getD k [] := by
  obtain ⟨m, rfl⟩ : ∃ n : Nat, m = n := ⟨m.toNat, by omega⟩
  have hm' : m ≤ 4 := by omega
  unfold cpA
  rw [Int.toNat_natCast]
  match a, ha.1, b, hb.1, m, hm' with
  | [a1, a2, a3, a4], _, [b1, b2, b3, b4], _, 0, _ => right; rfl
  | [a1, a2, a3, a4], _, [b1, b2, b3, b4], _, 1, _ => match k, hk with | 0, _ => left; rfl | 1, _ => right; rfl | 2, _ => right; rfl | 3, _ => right; rfl
  | [a1, a2, a3, a4], _, [b1, b2, b3, b4], _, 2, _ => match k, hk with | 0, _ => left; rfl | 1, _ => left; rfl | 2, _ => right; rfl | 3, _ => right; rfl
  | [a1, a2, a3, a4], _, [b1, b2, b3, b4], _, 3, _ => match k, hk with | 0, _ => left; rfl | 1, _ => left; rfl | 2, _ => left; rfl | 3, _ => right; rfl
  | [a1, a2, a3, a4], _, [b1, b2, b3, b4], _, 4, _ => left; rfl
theorem nth_set_eq {α : Type} {l : List α} {i : Int} {x d : α} (h0 : 0 ≤ i) (h : i < l.length) : nth (l.set i.toNat x) i d = x := by
  unfold nth
  rw [List.getD_eq_getElem?_getD, List.getElem?_set_self (by omega)]; rfl
theorem fallF_sec {keep : List Int} {i : Int} (h0 : 0 ≤ i) (k : Nat) (hk : k < 4) : ∀ {ws : List Wr} {j : Int} {bs : List Blk}, (∀ x, x ∈ bs → bOk x) → (∀ w, w ∈ ws → 0 ≤ w.1 ∧ w.1 < bs.length ∧ bOk w.2) →
    (nth (fallF keep j bs ws) i []).getD k [] = (nth bs i []).getD k [] ∨ ∃ w, w ∈ ws ∧ w.1 = i ∧ (nth (fallF keep j bs ws) i []).getD k [] = w.2.getD k []
  | [], j, bs, h, _ => .inl rfl
  | w :: l, j, bs, h, hw => by
    have h1 := hw w (by simp)
    have hkr := kept_range keep j
    have hb := h _ (nth_get (d := []) h1.1 h1.2.1)
    rw [fallF]
    have ih := fallF_sec (keep := keep) h0 k hk (ws := l) (j := j + 1) (bs := bs.set w.1.toNat (cpA (kept keep j) w.2 (nth bs w.1 []))) (set_ok h (cpA_ok h1.2.2 hb hkr.1 hkr.2)) (fun x hx => by
      rw [List.length_set]
      exact hw x (by simp [hx]))
    rcases ih with ih | ⟨x, hx, hx1, hx2⟩
    · by_cases c : w.1 = i
      · rw [← c, nth_set_eq h1.1 h1.2.1] at ih
        rcases cpA_sec h1.2.2 hb hkr k hk with e | e
        · exact .inr ⟨w, by simp, c, by rw [← c, ih, e]⟩
        · exact .inl (by rw [← c, ih, e])
      · rw [nth_set_ne h0 h1.1 c] at ih
        exact .inl ih
    · exact .inr ⟨x, by simp [hx], hx1, hx2⟩
/-- A sector as it was, or as one that waited has it. -/
def isSec (s old : Str) (i k : Int) (ws : List RWr) : Bool := decide (secOf s k = secOf old k) || ws.any (fun x => decide (x.1 = i) && decide (secOf s k = secOf x.2 k))
theorem isSec_succ (s old : Str) (i k : Int) (ws : List RWr) (x : RWr) : isSec s old i k (ws ++ [x]) = (isSec s old i k ws || (decide (x.1 = i) && decide (secOf s k = secOf x.2 k))) := by
  unfold isSec
  rw [List.any_append, List.any_cons, List.any_nil, Bool.or_false, Bool.or_assoc]
theorem crash_sec {n : Nat} {keep : List Int} {d : DSt} (h : dOk n d) {i : Int} (h0 : 0 ≤ i) (h1 : i < d.bs.length) (k : Nat) (hk : k < 4) : isSec (dLasts i (dFall keep d)) (nth (abs d).bs i []) i k (abs d).ws = true := by
  have hf := dFall_ok (keep := keep) h
  have hl := (fallF_ok (keep := keep) (k := 0) h.2.1 h.2.2.2.1)
  have h1' : i < (dFall keep d).bs.length := by show i < ((fallF keep 0 d.bs d.ws).length : Int); rw [hl.1]; exact h1
  have hb := h.2.1 _ (nth_get (d := []) h0 h1)
  have hb' := hf.2.1 _ (nth_get (d := []) h0 h1')
  have e1 : dLasts i (dFall keep d) = (nth (dFall keep d).bs i []).flatten := by
    unfold dLasts
    rw [if_neg (by rw [in_iff.2 ⟨h0, h1'⟩]; simp)]
  have e2 : nth (abs d).bs i [] = (nth d.bs i []).flatten := nth_map List.flatten (l := d.bs) ([] : Blk) ([] : Str) h0 h1
  unfold isSec
  rw [e1, e2, sec_flat hb' k hk, sec_flat hb k hk]
  rcases fallF_sec (keep := keep) h0 k hk (j := 0) h.2.1 h.2.2.2.1 with e | ⟨w, hw, hw1, hw2⟩
  · rw [Bool.or_eq_true]; exact .inl (decide_eq_true e)
  · rw [Bool.or_eq_true]
    refine .inr (List.any_eq_true.2 ⟨absW w, List.mem_map_of_mem hw, ?_⟩)
    rw [Bool.and_eq_true]
    refine ⟨decide_eq_true hw1, decide_eq_true ?_⟩
    have := h.2.2.2.1 w hw
    rw [show (absW w).2 = w.2.flatten from rfl, sec_flat this.2.2 k hk]
    exact hw2
theorem lasts_len {n : Nat} {d : DSt} (h : dOk n d) {i : Int} (h0 : 0 ≤ i) (h1 : i < d.bs.length) : (dLasts i d).length = 256 := by
  unfold dLasts
  rw [if_neg (by rw [in_iff.2 ⟨h0, h1⟩]; simp)]
  exact bOk_len (h.2.1 _ (nth_get (d := []) h0 h1))
/-- Up, and no arm. -/
def Plain7 (d : DSt) : Prop := d.down = false ∧ d.armed = false ∧ d.bs.length = 8
theorem plain_goes {d : DSt} (h : Plain7 d) : dGoes d = (d, 0, false) := by unfold dGoes; rw [if_pos h.2.1]
theorem plain_write {d : DSt} (i : Int) (s : Str) (h : Plain7 d) : Plain7 (dWrite i s d).1 ∧ (dWrite i s d).1.bs = d.bs := by
  unfold dWrite
  split
  · exact ⟨h, rfl⟩
  split
  · exact ⟨h, rfl⟩
  rw [plain_goes h]
  split
  · exact ⟨h, rfl⟩
  · exact ⟨⟨h.1, h.2.1, h.2.2⟩, rfl⟩
theorem plain_flush {n : Nat} {d : DSt} (hd : dOk n d) (h : Plain7 d) : Plain7 (dFlush d).1 := by
  have hb := flush_bs hd
  refine ⟨?_, ?_, hb.trans h.2.2⟩
  · unfold dFlush
    split
    · exact h.1
    · rw [plain_goes h]; exact h.1
  · unfold dFlush
    split
    · exact h.2.1
    · rw [plain_goes h]; exact h.2.1
theorem abs_bs_len (d : DSt) : (abs d).bs.length = d.bs.length := by show (d.bs.map List.flatten).length = _; rw [List.length_map]
end Sp

theorem rectolaw27_DiskSectors.ok (R : Bool → Prop) (t : List Sp.Step) (o : List Int) (h : Sz (.sl Sp.StT) t ∧ Sz (.sl (.int .i64)) o) (hR : R Sp.tt) : rectolaw27_DiskSectors.vc R t o := by
  obtain ⟨ho, ha⟩ := h
  refine ⟨ho.sl, ?_⟩
  cases hl : Sp.longS t with
  | true => exact hR
  | false =>
  obtain ⟨ho1, ho2⟩ := Sp.steps_ok ho hl
  rw [cond_false, cond_dec]
  split
  · exact hR
  · rename_i c1
    refine ⟨show (8 : Int) ≤ 1000 by omega, show (8 : Int) ≤ 1000 by omega, ?_⟩
    refine Lp_rule (fun v => ∃ (p : Nat) (a : Sp.DSt) (w : Sp.RSt), v = (o, t, (t.length : Int), (p : Int), Sp.q7 a (Sp.q7 w (Sp.q7 (Sp.abs a) ()))) ∧ p ≤ t.length ∧ Sp.dOk p a ∧ Sp.Plain7 a ∧ w.bs = (Sp.abs a).bs) (fun v => t.length - v.2.2.2.1.toNat) ?_
      ⟨0, Sp.dNew 8, Sp.rNew 8, by rw [Sp.abs_new]; rfl, Nat.zero_le _, Sp.new_ok (by omega), ⟨rfl, rfl, rfl⟩, by rw [Sp.abs_new]⟩
    rintro _ K ⟨p, a, w, rfl, hp, hd, hpl, hw⟩ hK
    simp only [rectolaw27_DiskSectors.L0, Sp.q7, Sp.mk_eta, cond_dec, cond_ndec, ix_iff, rg64]
    split
    · rename_i c3
      have hp' : p < t.length := by omega
      have hs := ho2 _ (Sp.nth_get (l := t) (d := ((0 : Int), (0 : Int), (0 : Int), false, ([] : List Int))) (show 0 ≤ (p : Int) by omega) (by omega))
      generalize nth t (p : Int) ((0 : Int), (0 : Int), (0 : Int), false, ([] : List Int)) = s at *
      refine ⟨by omega, ?_⟩
      split
      · rename_i c4
        have hd' : Sp.dOk (p + 1) (Sp.dWrite s.2.1 (Sp.fillB s.2.2.1) a).1 := Sp.write_ok hd hs.1 (Sp.fillB_len _)
        have hpl' := Sp.plain_write s.2.1 (Sp.fillB s.2.2.1) hpl
        rw [Sp.abs_write s.2.1 (Sp.fillB s.2.2.1) hd]
        refine ⟨hs.2.1, ⟨Sp.dOk_up hd (by omega), Sp.fillB_le _⟩, hs.2.1, ⟨Sp.rOk_up (Sp.abs_ok hd) (by omega), Sp.fillB_le _⟩, ?_⟩
        rw [if_neg (by omega)]
        exact ⟨by omega, hK _ ⟨p + 1, _, w, rfl, by omega, hd', hpl'.1, by rw [hw]; show a.bs.map _ = _; rw [← hpl'.2]; rfl⟩ (by simp; omega)⟩
      · rename_i c4
        split
        · rename_i c5
          have hd' := Sp.flush_ok hd
          have hpl' := Sp.plain_flush hd hpl
          rw [Sp.abs_flush hd]
          refine ⟨Sp.dOk_up hd (by omega), Sp.rOk_up (Sp.abs_ok hd) (by omega), show (8 : Int) ≤ 1000 by omega, ?_⟩
          generalize (Sp.dFlush a).1 = a' at *
          have hlen : (Sp.abs a').bs.length = 8 := (Sp.abs_bs_len a').trans hpl'.2.2
          generalize hz : (Sp.rNew 8).2.2.2.2.2.1 = z
          have hzl : z.length = 8 := by rw [← hz]; rfl
          generalize hzw : (Sp.rNew 8).2.2.2.2.2.2 = zw
          generalize hzk : (Sp.rNew 8).2.2.2.2.1 = zk
          generalize hza : (Sp.rNew 8).2.2.1 = za
          refine Lp_rule (fun v => ∃ (i : Nat), v = (o, t, (t.length : Int), (p : Int), (8 : Int), (i : Int), Sp.q7 a' (Sp.q7 (false, false, za, false, zk, (Sp.abs a').bs.take i ++ z.drop i, zw) (Sp.q7 (Sp.abs a') ()))) ∧ i ≤ 8) (fun v => 8 - v.2.2.2.2.2.1.toNat) ?_ ⟨0, rfl, Nat.zero_le _⟩
          rintro _ K2 ⟨i, rfl, hi⟩ hK2
          simp only [rectolaw27_DiskSectors.L2, Sp.q7, Sp.mk_eta, cond_dec, ix_iff, rg64]
          have hl1 : ((Sp.abs a').bs.take i ++ z.drop i).length = 8 := by rw [List.length_append, List.length_take, List.length_drop, hlen, hzl]; omega
          split
          · rename_i c6
            refine ⟨by show 0 ≤ (i : Int) ∧ (i : Int) < ((Sp.abs a').bs.length : Int); omega, by omega, by omega, hK2 _ ⟨i + 1, ?_, by omega⟩ (by simp; omega)⟩
            have e : ((Sp.abs a').bs.take i ++ z.drop i).set ((i : Int)).toNat (nth (Sp.abs a').bs (i : Int) []) = (Sp.abs a').bs.take (i + 1) ++ z.drop (i + 1) := by
              rw [drop_cons (l := z) (d := []) (by omega), set_mid _ _ _ _ (by rw [List.length_take]; omega), take_succ (d := []) (by omega), List.append_assoc]
              rfl
            rw [show (nth (Sp.abs a').2.2.2.2.2.1 (i : Int) []) = nth (Sp.abs a').bs (i : Int) [] from rfl, e]
            rfl
          · have : i = 8 := by omega
            subst this
            refine ⟨by omega, hK _ ⟨p + 1, a', (false, false, za, false, zk, (Sp.abs a').bs.take 8 ++ z.drop 8, zw), rfl, by omega, Sp.dOk_le hd' (by omega), hpl', ?_⟩ (by simp; omega)⟩
            show (Sp.abs a').bs.take 8 ++ z.drop 8 = _
            rw [List.drop_of_length_le (by omega), List.append_nil, List.take_of_length_le (by omega)]
        · rename_i c5
          exact ⟨by omega, hK _ ⟨p + 1, a, w, rfl, by omega, Sp.dOk_le hd (by omega), hpl, hw⟩ (by simp; omega)⟩
    · rename_i c3
      clear hK K
      refine ⟨⟨Sp.dOk_up hd (by omega), by omega⟩, ?_⟩
      have hcr : Sp.dCrash o a = (Sp.dFall o a, 0) := by unfold Sp.dCrash; rw [hpl.1, if_neg (by simp)]
      rw [hcr, if_pos rfl]
      have hf := Sp.dFall_ok (keep := o) hd
      have hbl : (Sp.dFall o a).bs.length = 8 := ((Sp.fallF_ok (keep := o) (k := 0) hd.2.1 hd.2.2.2.1).1).trans hpl.2.2
      have hwl : w.bs.length = 8 := by rw [hw]; exact (Sp.abs_bs_len a).trans hpl.2.2
      have hwsl : (Sp.abs a).ws.length ≤ p := (Sp.abs_ok hd).2.2.1
      refine Lp_rule (fun v => ∃ (i : Nat), v = ((Sp.abs a).ws, (i : Int), Sp.q7 (Sp.dFall o a) (Sp.q7 w ())) ∧ i ≤ 8) (fun v => 8 - v.2.1.toNat) ?_ ⟨0, rfl, Nat.zero_le _⟩
      rintro _ K ⟨i, rfl, hi⟩ hK
      simp only [rectolaw27_DiskSectors.L3, Sp.q7, Sp.mk_eta, cond_dec, cond_ndec]
      split
      · rename_i c4
        have hll := Sp.lasts_len hf (i := (i : Int)) (by omega) (by omega)
        have hsec := fun k hk => Sp.crash_sec (keep := o) hd (i := (i : Int)) (by omega) (by rw [hpl.2.2]; omega) k hk
        have hol : (nth w.bs (i : Int) []).length = 256 := by
          rw [hw]
          exact (Sp.abs_ok hd).2.1 _ (Sp.nth_get (by omega) (by rw [Sp.abs_bs_len, hpl.2.2]; omega))
        rw [← hw] at hsec
        refine ⟨Sp.dOk_up hf (by omega), ?_⟩
        rw [if_pos (by omega)]
        generalize Sp.dLasts (i : Int) (Sp.dFall o a) = s at *
        refine Lp_rule (fun v => ∃ (k : Nat), v = ((Sp.abs a).ws, (i : Int), s, (k : Int), Sp.q7 (Sp.dFall o a) (Sp.q7 w ())) ∧ k ≤ 4) (fun v => 4 - v.2.2.2.1.toNat) ?_ ⟨0, rfl, Nat.zero_le _⟩
        rintro _ K4 ⟨k, rfl, hk⟩ hK4
        simp only [rectolaw27_DiskSectors.L4, Sp.q7, Sp.mk_eta, cond_dec, ix_iff, rg64, sb_iff]
        split
        · rename_i c5
          have hsec := hsec k (by omega)
          rw [show (nth w.2.2.2.2.2.1 (i : Int) []) = nth w.bs (i : Int) [] from rfl, hol, hll]
          refine ⟨by omega, by omega, by omega, by omega, by show 0 ≤ (i : Int) ∧ (i : Int) < (w.bs.length : Int); omega, by omega, by omega, by omega, by omega, ?_⟩
          generalize nth w.bs (i : Int) [] = old at *
          refine Lp_rule (fun v => ∃ (j : Nat), v = ((Sp.abs a).ws, (i : Int), s, (k : Int), Sp.isSec s old (i : Int) (k : Int) ((Sp.abs a).ws.take j), (Sp.abs a).ws, ((Sp.abs a).ws.length : Int), (j : Int), Sp.q7 (Sp.dFall o a) (Sp.q7 w ())) ∧ j ≤ (Sp.abs a).ws.length) (fun v => (Sp.abs a).ws.length - v.2.2.2.2.2.2.2.1.toNat) ?_
            ⟨0, by simp only [Sp.isSec, List.take_zero, List.any_nil, Bool.or_false]; rfl, Nat.zero_le _⟩
          rintro _ K5 ⟨j, rfl, hj⟩ hK5
          simp only [rectolaw27_DiskSectors.L5, Sp.q7, Sp.mk_eta, cond_dec, ix_iff, rg64, sb_iff]
          split
          · rename_i c6
            have hts := take_succ (l := (Sp.abs a).ws) (d := ((0 : Int), ([] : Str))) (show j < (Sp.abs a).ws.length by omega)
            have hx := (Sp.abs_ok hd).2.2.2.1 _ (Sp.nth_get (l := (Sp.abs a).ws) (d := ((0 : Int), ([] : Str))) (show 0 ≤ (j : Int) by omega) (by omega))
            have hnext := Sp.isSec_succ s old (i : Int) (k : Int) ((Sp.abs a).ws.take j) (nth (Sp.abs a).ws (j : Int) ((0 : Int), ([] : Str)))
            rw [← hts] at hnext
            clear hts
            generalize nth (Sp.abs a).ws (j : Int) ((0 : Int), ([] : Str)) = x at *
            have hxl := hx.2.2
            refine ⟨by omega, ?_⟩
            cases hi1 : Sp.isSec s old (i : Int) (k : Int) ((Sp.abs a).ws.take j) with
            | true =>
              rw [hi1, Bool.true_or] at hnext
              rw [cond_true]
              exact ⟨by omega, hK5 _ ⟨j + 1, by rw [hnext]; rfl, by omega⟩ (by simp; omega)⟩
            | false =>
              rw [hi1, Bool.false_or] at hnext
              rw [cond_false]
              split
              · rename_i c7
                rw [decide_eq_true c7, Bool.true_and] at hnext
                rw [hll, hxl]
                exact ⟨by omega, by omega, by omega, by omega, by omega, by omega, by omega, by omega, by omega, hK5 _ ⟨j + 1, by rw [hnext]; rfl, by omega⟩ (by simp; omega)⟩
              · rename_i c7
                rw [decide_eq_false c7, Bool.false_and] at hnext
                exact ⟨by omega, hK5 _ ⟨j + 1, by rw [hnext]; rfl, by omega⟩ (by simp; omega)⟩
          · have : j = (Sp.abs a).ws.length := by omega
            subst this
            rw [List.take_length, hsec]
            exact ⟨by omega, hK4 _ ⟨k + 1, rfl, by omega⟩ (by simp; omega)⟩
        · exact ⟨by omega, hK _ ⟨i + 1, rfl, by omega⟩ (by simp; omega)⟩
      · exact hR


namespace Sp
abbrev z8 : List Blk := List.replicate 8 zeroB
def arms (t : Int) (A : Bool) (p : Int) (W : List Wr) : DSt :=
  if p ≤ t then (false, true, t - p, A, [], z8, W) else if A = true then (true, false, 0, true, [], z8, []) else (false, false, 0, false, [], z8, W)
def wOk (n : Nat) (W : List Wr) : Prop := W.length ≤ n ∧ ∀ w, w ∈ W → 0 ≤ w.1 ∧ w.1 < 8 ∧ bOk w.2
theorem z8_ok : ∀ b, b ∈ z8 → bOk b := fun b hb => by rw [List.eq_of_mem_replicate hb]; exact zeroB_ok
theorem arms_ok {t : Int} {A : Bool} {p : Nat} {W : List Wr} (ht : 0 ≤ t ∧ t ≤ 9223372036854775807) (hW : wOk p W) : dOk p (arms t A p W) := by
  unfold arms
  split
  · exact ⟨by show (8 : Nat) ≤ 1000; omega, z8_ok, hW.1, fun w hw => hW.2 w hw, by show -9223372036854775808 ≤ t - p; omega, by show t - p ≤ 9223372036854775807; omega, Nat.zero_le _⟩
  split
  · exact ⟨by show (8 : Nat) ≤ 1000; omega, z8_ok, Nat.zero_le _, fun w hw => absurd hw List.not_mem_nil, by show (-9223372036854775808 : Int) ≤ 0; omega, by show (0 : Int) ≤ 9223372036854775807; omega, Nat.zero_le _⟩
  · exact ⟨by show (8 : Nat) ≤ 1000; omega, z8_ok, hW.1, fun w hw => hW.2 w hw, by show (-9223372036854775808 : Int) ≤ 0; omega, by show (0 : Int) ≤ 9223372036854775807; omega, Nat.zero_le _⟩
theorem fallF_nil : ∀ {ws : List Wr} {k : Int} {bs : List Blk}, (∀ w, w ∈ ws → 0 ≤ w.1 ∧ w.1 < bs.length) → fallF [] k bs ws = bs
  | [], k, bs, _ => rfl
  | w :: l, k, bs, h => by
    have h0 := h w (by simp)
    have e : bs.set w.1.toNat (cpA (kept [] k) w.2 (nth bs w.1 [])) = bs := by
      have hk : (kept [] k).toNat = 0 := by
        unfold kept
        split
        · rename_i c; unfold nth mn mx; simp; omega
        · rfl
      unfold cpA
      rw [hk, List.take_zero, List.drop_zero, List.nil_append]
      have := nth_in (l := bs) ([] : Blk) h0.1 h0.2
      apply List.ext_getElem?
      intro j
      rw [List.getElem?_set]
      split
      · rename_i c
        subst c
        rw [if_pos (by omega), this]
      · rfl
    rw [fallF, e, fallF_nil (fun x hx => h x (by simp [hx]))]
theorem wOk_add {n : Nat} {W : List Wr} {x : Int} (h : wOk n W) (h0 : 0 ≤ x) (h1 : x < 8) : wOk (n + 1) (W ++ [(x, cutB (fillB 1))]) := by
  refine ⟨by have := h.1; simp; omega, fun w hw => ?_⟩
  rcases List.mem_append.1 hw with hw | hw
  · exact h.2 w hw
  · rw [List.mem_singleton] at hw; subst hw; exact ⟨h0, h1, cutB_ok (fillB_len _)⟩
theorem wOk_le {n : Nat} {W : List Wr} (h : wOk n W) : wOk (n + 1) W := ⟨by have := h.1; omega, h.2⟩
def armCode (t : Int) (A : Bool) (p : Int) : Int := if p = t then (if A = true then 271 else 270) else if A = true ∧ t < p then 271 else 0
theorem arms_bs (t : Int) (A : Bool) (p : Int) (W : List Wr) : (arms t A p W).bs = z8 := by unfold arms; split; rfl; split <;> rfl
theorem arms_write {t : Int} {A : Bool} {p : Nat} {W : List Wr} {x : Int} (hW : wOk p W) (h0 : 0 ≤ x) (h1 : x < 8) :
    ∃ W', wOk (p + 1) W' ∧ dWrite x (fillB 1) (arms t A p W) = (arms t A ((p : Int) + 1) W', armCode t A p) := by
  have hi : inD x (arms t A p W) = true := in_iff.2 ⟨h0, by rw [arms_bs]; exact h1⟩
  have hnot : ¬ (inD x (arms t A p W) = false ∨ (fillB 1).length ≠ 256) := by rw [hi, fillB_len]; simp
  unfold dWrite
  rw [if_neg hnot]
  clear hi hnot
  unfold armCode arms
  by_cases c1 : (p : Int) < t
  · refine ⟨W ++ [(x, cutB (fillB 1))], wOk_add hW h0 h1, ?_⟩
    rw [if_pos (show (p : Int) ≤ t by omega), if_pos (show (p : Int) + 1 ≤ t by omega), if_neg (show ¬ (p : Int) = t by omega), if_neg (show ¬ (A = true ∧ t < (p : Int)) by intro e; omega)]
    have hg : dGoes (false, true, t - (p : Int), A, [], z8, W) = ((false, true, t - (p : Int) - 1, A, [], z8, W), 0, false) := by
      unfold dGoes
      rw [if_neg (by simp), if_pos (show 0 < t - (p : Int) by omega)]
    rw [hg, show t - ((p : Int) + 1) = t - (p : Int) - 1 by omega]
    rfl
  by_cases c2 : (p : Int) = t
  · cases A with
    | false =>
      refine ⟨W, wOk_le hW, ?_⟩
      rw [if_pos (show (p : Int) ≤ t by omega), if_neg (show ¬ (p : Int) + 1 ≤ t by omega), if_pos c2, show t - (p : Int) = 0 by omega]
      rfl
    | true =>
      refine ⟨[], ⟨Nat.zero_le _, fun w hw => absurd hw List.not_mem_nil⟩, ?_⟩
      rw [if_pos (show (p : Int) ≤ t by omega), if_neg (show ¬ (p : Int) + 1 ≤ t by omega), if_pos c2, show t - (p : Int) = 0 by omega]
      have hg : dGoes (false, true, 0, true, [], z8, W) = ((true, false, 0, true, [], z8, []), 271, true) := by
        show ((true, false, 0, true, [], fallF [] 0 z8 W, []), (271 : Int), true) = _
        rw [fallF_nil (bs := z8) (fun w hw => ⟨(hW.2 w hw).1, (hW.2 w hw).2.1⟩)]
      rw [hg]
      rfl
  · cases A with
    | false =>
      refine ⟨W ++ [(x, cutB (fillB 1))], wOk_add hW h0 h1, ?_⟩
      rw [if_neg (show ¬ (p : Int) ≤ t by omega), if_neg (show ¬ (p : Int) + 1 ≤ t by omega), if_neg c2]
      rfl
    | true =>
      refine ⟨[], ⟨Nat.zero_le _, fun w hw => absurd hw List.not_mem_nil⟩, ?_⟩
      rw [if_neg (show ¬ (p : Int) ≤ t by omega), if_neg (show ¬ (p : Int) + 1 ≤ t by omega), if_neg c2, if_pos (show true = true ∧ t < (p : Int) from ⟨rfl, by omega⟩)]
      rfl
theorem flush_ws {d : DSt} (h : d.down = false) : (dFlush d).1.ws = [] := by
  unfold dFlush
  rw [if_neg (by rw [h]; simp)]
theorem arms_flush {t : Int} {A : Bool} {p : Nat} {W : List Wr} (hW : wOk p W) (h : (p : Int) ≤ t) : (dFlush (arms t A p W)).1.ws = [] ∧ ((decide (t = (p : Int)) = true → (dFlush (arms t A p W)).1.bs = z8)) ∧ (!decide ((dFlush (arms t A p W)).2 = 0)) = decide (t = (p : Int)) := by
  unfold arms
  rw [if_pos h]
  refine ⟨flush_ws rfl, ?_⟩
  by_cases c : t = (p : Int)
  · rw [decide_eq_true c, show t - (p : Int) = 0 by omega]
    cases A with
    | false => exact ⟨fun _ => rfl, rfl⟩
    | true =>
      have hg : dGoes (false, true, 0, true, [], z8, W) = ((true, false, 0, true, [], z8, []), 271, true) := by
        show ((true, false, 0, true, [], fallF [] 0 z8 W, []), (271 : Int), true) = _
        rw [fallF_nil (bs := z8) (fun w hw => ⟨(hW.2 w hw).1, (hW.2 w hw).2.1⟩)]
      unfold dFlush
      rw [hg]
      exact ⟨fun _ => rfl, rfl⟩
  · rw [decide_eq_false c]
    have hg : dGoes (false, true, t - (p : Int), A, [], z8, W) = ((false, true, t - (p : Int) - 1, A, [], z8, W), 0, false) := by
      unfold dGoes
      rw [if_neg (by simp), if_pos (show 0 < t - (p : Int) by omega)]
    refine ⟨fun e => absurd e (by simp), ?_⟩
    unfold dFlush
    rw [hg]
    rfl
theorem z8_lasts {d : DSt} {i : Int} (h : d.bs = z8) (h0 : 0 ≤ i) (h1 : i < 8) : dLasts i d = fillB 0 := by
  have hi : i < d.bs.length := by rw [h]; exact h1
  unfold dLasts
  rw [if_neg (by rw [in_iff.2 ⟨h0, hi⟩]; simp), h]
  have : nth z8 i [] = zeroB := List.eq_of_mem_replicate (nth_get h0 (by show i < 8; exact h1))
  rw [this, zero_flat]
  rfl
end Sp

theorem rectolaw27_DiskArms_L1 (R : Bool → Prop) (e : Int) (f : Bool) (d : Sp.DSt) (hd : Sp.dPre d) (hws : d.ws = []) (hbs : f = true → d.bs = Sp.z8) (he : (!decide (e = 0)) = f) (hR : R Sp.tt) :
    Lp (fun v K => rectolaw27_DiskArms.L1 R v.1 v.2.1 v.2.2.1 v.2.2.2.1 v.2.2.2.2.1 v.2.2.2.2.2.1 v.2.2.2.2.2.2.1 v.2.2.2.2.2.2.2.1 v.2.2.2.2.2.2.2.2.1 v.2.2.2.2.2.2.2.2.2.1 K) (e, f, 0, Sp.q7 d ()) := by
  refine Lp_rule (fun v => ∃ i : Nat, v = (e, f, (i : Int), Sp.q7 d ()) ∧ i ≤ 8) (fun v => 8 - v.2.2.1.toNat) ?_ ⟨0, rfl, Nat.zero_le _⟩
  rintro _ K ⟨i, rfl, hi⟩ hK
  simp only [rectolaw27_DiskArms.L1, Sp.q7, Sp.mk_eta, cond_dec, cond_ndec, rg64]
  split
  · rename_i c
    have fin : K (e, f, (i : Int) + 1, Sp.q7 d ()) := hK _ ⟨i + 1, rfl, by omega⟩ (by simp; omega)
    cases f with
    | false => exact ⟨by omega, fin⟩
    | true =>
      rw [cond_true]
      refine ⟨hd, ⟨by omega, by omega⟩, ?_⟩
      rw [if_pos (Sp.z8_lasts (hbs rfl) (by omega) c)]
      exact ⟨by omega, fin⟩
  · rw [he, show eqB f f = true by cases f <;> rfl, cond_true]
    refine ⟨hd, ?_⟩
    rw [if_pos (by rw [hws]; rfl)]
    exact hR

theorem rectolaw27_DiskArms_L2 (R : Bool → Prop) (e : Int) (f : Bool) (d : Sp.DSt) (hd : Sp.dPre d) (hws : d.ws = []) (hbs : f = true → d.bs = Sp.z8) (he : (!decide (e = 0)) = f) (hR : R Sp.tt) :
    Lp (fun v K => rectolaw27_DiskArms.L2 R v.1 v.2.1 v.2.2.1 v.2.2.2.1 v.2.2.2.2.1 v.2.2.2.2.2.1 v.2.2.2.2.2.2.1 v.2.2.2.2.2.2.2.1 v.2.2.2.2.2.2.2.2.1 v.2.2.2.2.2.2.2.2.2.1 K) (e, f, 0, Sp.q7 d ()) := by
  refine Lp_rule (fun v => ∃ i : Nat, v = (e, f, (i : Int), Sp.q7 d ()) ∧ i ≤ 8) (fun v => 8 - v.2.2.1.toNat) ?_ ⟨0, rfl, Nat.zero_le _⟩
  rintro _ K ⟨i, rfl, hi⟩ hK
  simp only [rectolaw27_DiskArms.L2, Sp.q7, Sp.mk_eta, cond_dec, cond_ndec, rg64]
  split
  · rename_i c
    have fin : K (e, f, (i : Int) + 1, Sp.q7 d ()) := hK _ ⟨i + 1, rfl, by omega⟩ (by simp; omega)
    cases f with
    | false => exact ⟨by omega, fin⟩
    | true =>
      rw [cond_true]
      refine ⟨hd, ⟨by omega, by omega⟩, ?_⟩
      rw [if_pos (Sp.z8_lasts (hbs rfl) (by omega) c)]
      exact ⟨by omega, fin⟩
  · rw [he, show eqB f f = true by cases f <;> rfl, cond_true]
    refine ⟨hd, ?_⟩
    rw [if_pos (by rw [hws]; rfl)]
    exact hR

theorem rectolaw27_DiskArms_L3 (R : Bool → Prop) (e : Int) (f : Bool) (d : Sp.DSt) (hd : Sp.dPre d) (hws : d.ws = []) (hbs : f = true → d.bs = Sp.z8) (he : (!decide (e = 0)) = f) (hR : R Sp.tt) :
    Lp (fun v K => rectolaw27_DiskArms.L3 R v.1 v.2.1 v.2.2.1 v.2.2.2.1 v.2.2.2.2.1 v.2.2.2.2.2.1 v.2.2.2.2.2.2.1 v.2.2.2.2.2.2.2.1 v.2.2.2.2.2.2.2.2.1 v.2.2.2.2.2.2.2.2.2.1 K) (e, f, 0, Sp.q7 d ()) := by
  refine Lp_rule (fun v => ∃ i : Nat, v = (e, f, (i : Int), Sp.q7 d ()) ∧ i ≤ 8) (fun v => 8 - v.2.2.1.toNat) ?_ ⟨0, rfl, Nat.zero_le _⟩
  rintro _ K ⟨i, rfl, hi⟩ hK
  simp only [rectolaw27_DiskArms.L3, Sp.q7, Sp.mk_eta, cond_dec, cond_ndec, rg64]
  split
  · rename_i c
    have fin : K (e, f, (i : Int) + 1, Sp.q7 d ()) := hK _ ⟨i + 1, rfl, by omega⟩ (by simp; omega)
    cases f with
    | false => exact ⟨by omega, fin⟩
    | true =>
      rw [cond_true]
      refine ⟨hd, ⟨by omega, by omega⟩, ?_⟩
      rw [if_pos (Sp.z8_lasts (hbs rfl) (by omega) c)]
      exact ⟨by omega, fin⟩
  · rw [he, show eqB f f = true by cases f <;> rfl, cond_true]
    refine ⟨hd, ?_⟩
    rw [if_pos (by rw [hws]; rfl)]
    exact hR

theorem rectolaw27_DiskArms_L4 (R : Bool → Prop) (e : Int) (f : Bool) (d : Sp.DSt) (hd : Sp.dPre d) (hws : d.ws = []) (hbs : f = true → d.bs = Sp.z8) (he : (!decide (e = 0)) = f) (hR : R Sp.tt) :
    Lp (fun v K => rectolaw27_DiskArms.L4 R v.1 v.2.1 v.2.2.1 v.2.2.2.1 v.2.2.2.2.1 v.2.2.2.2.2.1 v.2.2.2.2.2.2.1 v.2.2.2.2.2.2.2.1 v.2.2.2.2.2.2.2.2.1 v.2.2.2.2.2.2.2.2.2.1 K) (e, f, 0, Sp.q7 d ()) := by
  refine Lp_rule (fun v => ∃ i : Nat, v = (e, f, (i : Int), Sp.q7 d ()) ∧ i ≤ 8) (fun v => 8 - v.2.2.1.toNat) ?_ ⟨0, rfl, Nat.zero_le _⟩
  rintro _ K ⟨i, rfl, hi⟩ hK
  simp only [rectolaw27_DiskArms.L4, Sp.q7, Sp.mk_eta, cond_dec, cond_ndec, rg64]
  split
  · rename_i c
    have fin : K (e, f, (i : Int) + 1, Sp.q7 d ()) := hK _ ⟨i + 1, rfl, by omega⟩ (by simp; omega)
    cases f with
    | false => exact ⟨by omega, fin⟩
    | true =>
      rw [cond_true]
      refine ⟨hd, ⟨by omega, by omega⟩, ?_⟩
      rw [if_pos (Sp.z8_lasts (hbs rfl) (by omega) c)]
      exact ⟨by omega, fin⟩
  · rw [he, show eqB f f = true by cases f <;> rfl, cond_true]
    refine ⟨hd, ?_⟩
    rw [if_pos (by rw [hws]; rfl)]
    exact hR

theorem rectolaw27_DiskArms.ok (R : Bool → Prop) (t : Int) (o : List Int) (A : Bool) (h : Sz (.int .i64) t ∧ Sz (.sl (.int .i64)) o ∧ Sz .bool A) (hR : R Sp.tt) : rectolaw27_DiskArms.vc R t o A := by
  obtain ⟨ht, ho, _⟩ := h
  have ht : -9223372036854775808 ≤ t ∧ t ≤ 9223372036854775807 := ht.int
  unfold rectolaw27_DiskArms.vc
  rw [cond_dec]
  split
  · exact hR
  rename_i c0
  have hnew : Sp.dPre (Sp.dNew 8) := Sp.dOk_up (Sp.new_ok (by omega)) (Nat.zero_le _)
  refine ⟨⟨hnew, Nat.zero_le _⟩, ?_⟩
  rw [show ((false, false, (Sp.dNew 8).2.2.1, false, (Sp.dNew 8).2.2.2.2) : Sp.DSt) = Sp.dNew 8 from rfl, cond_dec]
  split
  · rename_i c1
    have : Sp.dSet (t, A, []) (Sp.dNew 8) = (Sp.dNew 8, 1) := by unfold Sp.dSet; rw [if_pos c1]
    rw [this, cond_dec, if_pos rfl]
    exact hR
  rename_i c1
  have hset : Sp.dSet (t, A, []) (Sp.dNew 8) = (Sp.arms t A 0 [], 0) := by
    unfold Sp.dSet Sp.arms
    rw [if_neg c1, if_neg (c := (Sp.dNew 8).down = true) (by simp [Sp.dNew, Sp.DSt.down]), if_pos (show (0 : Int) ≤ t by omega), show t - 0 = t by omega]
    rfl
  rw [hset]
  refine Lp_rule (fun v => ∃ (p : Nat) (W : List Sp.Wr), v = (t, o, A, 0, decide (t < (p : Int)), o, (o.length : Int), (p : Int), Sp.q7 (Sp.arms t A p W) ()) ∧ p ≤ o.length ∧ Sp.wOk p W) (fun v => o.length - v.2.2.2.2.2.2.2.1.toNat) ?_
    ⟨0, [], by rw [decide_eq_false (by omega)]; rfl, Nat.zero_le _, Nat.zero_le _, fun w hw => absurd hw List.not_mem_nil⟩
  rintro _ K ⟨p, W, rfl, hp, hW⟩ hK
  simp only [rectolaw27_DiskArms.L0, Sp.q7, Sp.mk_eta]
  have hok := Sp.arms_ok (A := A) (t := t) (by omega) hW
  have hdp := Sp.dOk_up hok (by omega)
  rw [cond_dec]
  split
  · rename_i c2
    refine ⟨⟨by omega, by omega⟩, ?_⟩
    generalize nth o (p : Int) 0 = x
    rw [cond_dec]
    split
    · exact hR
    rename_i c3
    rw [cond_dec]
    split
    · exact hR
    rename_i c4
    refine ⟨⟨by omega, by omega⟩, ⟨hdp, Sp.fillB_le _⟩, ?_⟩
    obtain ⟨W', hW', hw⟩ := Sp.arms_write (A := A) (t := t) hW (show 0 ≤ x by omega) (show x < 8 by omega)
    rw [hw]
    have fin (q : Bool) (hq : q = decide (t < (p : Int) + 1)) : Rg .i64 ((p : Int) + 1) ∧ K (t, o, A, 0, q, o, (o.length : Int), (p : Int) + 1, Sp.q7 (Sp.arms t A ((p : Int) + 1) W') ()) := by
      subst hq
      exact ⟨by rw [rg64]; omega, hK _ ⟨p + 1, W', rfl, by omega, hW'⟩ (by simp; omega)⟩
    generalize Sp.arms t A ((p : Int) + 1) W' = d' at fin ⊢
    unfold Sp.armCode
    by_cases c5 : (p : Int) = t
    · rw [if_pos c5, decide_eq_true c5, decide_eq_false (show ¬ t < (p : Int) by omega), decide_eq_true (show t ≤ (p : Int) by omega)]
      rw [decide_eq_true (show t < (p : Int) + 1 by omega)] at fin
      cases A with
      | false => exact fin true rfl
      | true => exact fin true rfl
    · rw [if_neg c5, decide_eq_false c5]
      by_cases c6 : t < (p : Int)
      · rw [decide_eq_true c6, decide_eq_true (show t ≤ (p : Int) by omega)]
        rw [decide_eq_true (show t < (p : Int) + 1 by omega)] at fin
        cases A with
        | false => rw [if_neg (show ¬ (false = true ∧ t < (p : Int)) by simp)]; exact fin true rfl
        | true => rw [if_pos (show true = true ∧ t < (p : Int) from ⟨rfl, c6⟩)]; exact fin true rfl
      · rw [decide_eq_false c6, decide_eq_false (show ¬ t ≤ (p : Int) by omega), if_neg (show ¬ (A = true ∧ t < (p : Int)) from fun e => c6 e.2)]
        rw [decide_eq_false (show ¬ t < (p : Int) + 1 by omega)] at fin
        cases A with
        | false => exact fin false rfl
        | true => exact fin false rfl
  · rename_i c2
    have hpl : p = o.length := by omega
    subst hpl
    clear hK K
    have hfo := Sp.flush_ok hok
    have hfp := Sp.dOk_up hfo (by omega)
    by_cases c3 : t < (o.length : Int)
    · rw [decide_eq_true c3]
      cases A with
      | true =>
        have e : Sp.arms t true (o.length : Int) W = (true, false, 0, true, [], Sp.z8, []) := by unfold Sp.arms; rw [if_neg (by omega), if_pos rfl]
        rw [e] at hdp ⊢
        exact ⟨hdp, hdp, hR⟩
      | false =>
        refine ⟨hdp, ?_⟩
        have e : Sp.arms t false (o.length : Int) W = (false, false, 0, false, [], Sp.z8, W) := by unfold Sp.arms; rw [if_neg (by omega), if_neg (by simp)]
        rw [e] at hfp ⊢
        refine rectolaw27_DiskArms_L4 R _ _ _ hfp (Sp.flush_ws rfl) (fun e => absurd e (by simp)) ?_ hR
        rfl
    · rw [decide_eq_false c3]
      obtain ⟨f1, f2, f3⟩ := Sp.arms_flush (A := A) (t := t) hW (by omega)
      cases A with
      | true => exact ⟨hdp, rectolaw27_DiskArms_L1 R _ _ _ hfp f1 f2 f3 hR⟩
      | false => exact ⟨hdp, rectolaw27_DiskArms_L3 R _ _ _ hfp f1 f2 f3 hR⟩

theorem rectolaw27_DiskNil.ok (R : Bool → Prop) (s : Sp.Step) (_ : Sz Sp.StT s) (hR : R Sp.tt) : rectolaw27_DiskNil.vc R s := by
  refine ⟨⟨by omega, by omega⟩, ?_⟩
  obtain ⟨w, a, r⟩ := s
  simp only [Sp.setNil, cond_dec]
  by_cases c : a < 0
  · simp only [c, if_true]; exact hR
  · simp only [c, if_false, if_true, show 0 ≤ a by omega]; exact hR
