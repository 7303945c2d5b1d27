/- A disk of blocks: what is told, shown of the conditions. Plain theorems. -/
import Derived.Test.YtpgodffogmgnhaaVcD
import Derived.Test.YtpgodffogmgnhaaViThree
import Derived.Lib.Repeat
import Derived.Lib.Join
set_option linter.unnecessarySimpa false
set_option linter.unusedVariables false
set_option linter.unusedSectionVars false
set_option linter.unusedSimpArgs false
set_option autoImplicit false
open Go Vi

namespace Sp
theorem repS_lib (s : Str) (k : Nat) : Lib.repeatL s k = repS s k := by
  unfold repS
  rw [Int.toNat_natCast]
  induction k with
  | zero => rfl
  | succ k ih => simp [Lib.repeatL, List.replicate_succ, ih]
theorem repS_len (s : Str) (k : Nat) : (repS s k).length = s.length * k := by
  unfold repS
  rw [Int.toNat_natCast]
  induction k with
  | zero => simp
  | succ k ih => rw [List.replicate_succ, List.flatten_cons, List.length_append, ih, Nat.mul_succ]; omega
theorem join_lib (l : List Str) : Lib.join l [] = l.flatten := by
  induction l with
  | nil => rfl
  | cons x l ih =>
    cases l with
    | nil => simp [Lib.join]
    | cons y l => simp [Lib.join] at ih ⊢; exact ih

abbrev ap {α β : Type} (R : Bool → Bool → Int → Bool → List Int → List α → List β → Prop) (d : Bool × Bool × Int × Bool × List Int × List α × List β) : Prop :=
  R d.1 d.2.1 d.2.2.1 d.2.2.2.1 d.2.2.2.2.1 d.2.2.2.2.2.1 d.2.2.2.2.2.2

theorem sub_to {α : Type} (s : List α) (p : Nat) : sub s 0 (p : Int) = s.take p := by
  unfold sub
  rw [Int.toNat_natCast]; rfl
theorem nth_get {α : Type} {l : List α} {i : Int} {d : α} (h0 : 0 ≤ i) (h1 : i < l.length) : nth l i d ∈ l := by
  obtain ⟨p, rfl⟩ : ∃ p : Nat, i = p := ⟨i.toNat, by omega⟩
  rw [nth_lt (by omega)]
  exact List.getElem_mem _
theorem nth_def {α : Type} {l : List α} {i : Int} (d e : α) (h0 : 0 ≤ i) (h1 : i < l.length) : nth l i d = nth l i e := by
  obtain ⟨p, rfl⟩ : ∃ p : Nat, i = p := ⟨i.toNat, by omega⟩
  rw [nth_lt (by omega), nth_lt (by omega)]
end Sp

theorem slices_Repeat_disk_block_disk_block.ok (R : List (List (List UInt8)) → Prop) (x : List (List Str)) (n : Int) (h : Sp.repL.pre x n) (hR : R (Sp.repL x n)) : slices_Repeat_disk_block_disk_block.vc R x n := by
  obtain ⟨h1, h2, h3⟩ := h
  match x, h1 with
  | [b], _ =>
  obtain ⟨m, rfl⟩ : ∃ m : Nat, n = m := ⟨n.toNat, by omega⟩
  have e1 : IntKind.u64.wrap ((List.length [b] : Nat) : Int) = 1 := rfl
  have e2 : IntKind.u64.wrap (m : Int) = m := wrap_in ⟨by rw [show IntKind.u64.min = 0 from rfl]; omega, by rw [show IntKind.u64.max = 18446744073709551615 from rfl]; omega⟩
  have e3 : IntKind.i64.wrap (m : Int) = m := wrap_in ⟨by rw [show IntKind.i64.min = -9223372036854775808 from rfl]; omega, by rw [show IntKind.i64.max = 9223372036854775807 from rfl]; omega⟩
  have e4 : Sp.mulU 1 (m : Int) = (0, (m : Int)) := by
    unfold Sp.mulU
    rw [Int.one_mul, Int.ediv_eq_zero_of_lt (by omega) (by omega), Int.emod_eq_of_lt (by omega) (by omega)]
  unfold slices_Repeat_disk_block_disk_block.vc
  rw [e1, e2, e4]
  simp only [e3, cond_dec]
  rw [if_neg (by omega), if_neg (by omega), if_neg (by omega), mk_iff]
  have hrl : (rep (m : Int) (List.replicate 4 ([] : Str))).length = m := by simp [rep]
  rw [hrl]
  refine ⟨⟨rfl, by omega, by omega⟩, ?_⟩
  have hr0 : Sp.repL [b] (m : Int) = List.replicate m b := by
    unfold Sp.repL
    rw [Int.toNat_natCast]
    clear h2 h3 hR e1 e2 e3 e4 hrl
    induction m with
    | zero => rfl
    | succ m ih => rw [List.replicate_succ, List.flatten_cons, ih]; rfl
  rw [hr0] at hR
  generalize rep (m : Int) (List.replicate 4 ([] : Str)) = z at *
  refine Lp_rule (fun v => ∃ p : Nat, v = ((p : Int), List.replicate p b ++ z.drop p, ()) ∧ 1 ≤ p ∧ p ≤ m) (fun v => m - v.1.toNat) ?_ ⟨1, ?_, Nat.le_refl _, by omega⟩
  · rintro _ K ⟨p, rfl, hp1, hp⟩ hK
    have hnl : (List.replicate p b ++ z.drop p).length = m := by simp; omega
    simp only [slices_Repeat_disk_block_disk_block.L0, cond_dec, sb_iff, rg64]
    rw [hnl]
    split
    · rename_i c1
      have hst : sub (List.replicate p b ++ z.drop p) 0 (p : Int) = List.replicate p b := by
        rw [Sp.sub_to, List.take_append_of_le_length (by simp)]; simp
      rw [hst]
      have hcn : cpN (p : Int) (m : Int) (List.replicate p b) = ((min p (m - p) : Nat) : Int) := by unfold cpN; rw [List.length_replicate]; omega
      have hcl : cpL (p : Int) (m : Int) (List.replicate p b ++ z.drop p) (List.replicate p b) = List.replicate (p + min p (m - p)) b ++ z.drop (p + min p (m - p)) := by
        unfold cpL
        rw [show ((m : Int) - (p : Int)).toNat = m - p by omega, Int.toNat_natCast, List.take_append_of_le_length (by simp), List.length_replicate, List.take_replicate, List.take_replicate, List.replicate_append_replicate]
        congr 1
        · congr 1; omega
        · rw [List.drop_append, List.drop_of_length_le (by simp), List.nil_append, List.drop_drop, List.length_replicate]
          congr 1
          omega
      rw [hcn, hcl]
      exact ⟨by omega, by omega, by omega, hK _ ⟨p + min p (m - p), by simp, by omega, by omega⟩ (by simp; omega)⟩
    · have : p = m := by omega
      subst this
      rw [List.drop_of_length_le (by omega), List.append_nil]
      exact hR
  · unfold cpN cpL
    simp only [List.length_cons, List.length_nil]
    rw [show ((m : Int) - 0).toNat = m by omega]
    have hm1 : [b].take m = [b] := List.take_of_length_le (by simp; omega)
    rw [hm1]
    have : min (((0 + 1 : Nat)) : Int) ((m : Int) - 0) = ((1 : Nat) : Int) := by omega
    rw [this]
    have : (0 : Int).toNat + min (0 + 1) m = 1 := by simp; omega
    rw [this]
    rfl

theorem disk_cut.ok (R : List (List UInt8) → Prop) (s : Str) (h : Sp.cutB.pre s) (hR : R (Sp.cutB s)) : disk_cut.vc R s := by
  unfold Sp.cutB.pre at h
  have h' : List.length s = 256 := h
  refine ⟨5, ?_⟩
  have s0 : sub s (0 * 64) ((0 + 1) * 64) = s.take 64 := rfl
  have s1 : sub s ((0 + 1) * 64) ((0 + 1 + 1) * 64) = (s.drop 64).take 64 := by
    show (s.take 128).drop 64 = _
    rw [List.drop_take]
  have s2 : sub s ((0 + 1 + 1) * 64) ((0 + 1 + 1 + 1) * 64) = (s.drop 128).take 64 := by
    show (s.take 192).drop 128 = _
    rw [List.drop_take]
  have s3 : sub s ((0 + 1 + 1 + 1) * 64) ((0 + 1 + 1 + 1 + 1) * 64) = (s.drop 192).take 64 := by
    show (s.take 256).drop 192 = _
    rw [List.drop_take]
  have d0 : decide ((0 : Int) < 4) = true := rfl
  have d1 : decide ((0 : Int) + 1 < 4) = true := rfl
  have d2 : decide ((0 : Int) + 1 + 1 < 4) = true := rfl
  have d3 : decide ((0 : Int) + 1 + 1 + 1 < 4) = true := rfl
  have d4 : decide ((0 : Int) + 1 + 1 + 1 + 1 < 4) = false := rfl
  simp only [it, disk_cut.L0, s0, s1, s2, s3, d0, d1, d2, d3, d4, cond_true, cond_false, ix_iff, sb_iff, rg64, ln_iff, List.length_set, List.length_replicate, h']
  refine ⟨by omega, by omega, by omega, by omega, trivial, by omega, by omega, by omega, ?_⟩
  refine ⟨by omega, by omega, by omega, by omega, trivial, by omega, by omega, by omega, ?_⟩
  refine ⟨by omega, by omega, by omega, by omega, trivial, by omega, by omega, by omega, ?_⟩
  refine ⟨by omega, by omega, by omega, by omega, trivial, by omega, by omega, by omega, ?_⟩
  exact ⟨trivial, trivial, trivial, hR⟩

theorem disk_block_text.ok (R : List UInt8 → Prop) (b : List Str) (h : Sp.textB4.pre b) (hR : R (Sp.textB4 b)) : disk_block_text.vc R b := by
  obtain ⟨h1, h2⟩ := h
  have e : sub b 0 (4 : Int) = b := by
    have := Sp.sub_to b 4
    rw [show ((4 : Nat) : Int) = 4 from rfl] at this
    rw [this, ← h1, List.take_length]
  have hfl : b.flatten.length ≤ 256 := by
    match b, h1 with
    | [a1, a2, a3, a4], _ =>
      have := h2 a1 (by simp)
      have := h2 a2 (by simp)
      have := h2 a3 (by simp)
      have := h2 a4 (by simp)
      simp; omega
  unfold disk_block_text.vc
  rw [e]
  exact ⟨h1.symm, by rw [sb_iff]; omega, ⟨rfl, by omega, by omega⟩, hR⟩

namespace Sp
theorem zero_len : (repS [0] 256).length = 256 := by decide +kernel
theorem zero_cut : cutB (repS [0] 256) = zeroB := by decide +kernel
theorem zeroB_ok : bOk zeroB := by
  refine ⟨rfl, fun x hx => ?_⟩
  have : x = List.replicate 64 0 := List.eq_of_mem_replicate hx
  rw [this]; simp
theorem cutB_ok {s : Str} (h : s.length = 256) : bOk (cutB s) := by
  refine ⟨rfl, fun x hx => ?_⟩
  simp only [cutB, List.mem_cons, List.not_mem_nil, or_false] at hx
  rcases hx with rfl | rfl | rfl | rfl <;> simp <;> omega
theorem repL_zero (n : Int) : repL [zeroB] n = List.replicate n.toNat zeroB := by
  unfold repL
  induction n.toNat with
  | zero => rfl
  | succ k ih => rw [List.replicate_succ, List.flatten_cons, ih]; rfl
end Sp

theorem disk_New.ok (R0 : Int → Prop) (R1 : Int → Bool → Bool → Int → Bool → List Int → List (List (List UInt8)) → List (Int × List (List UInt8)) → Prop) (blocks : Int) (h0 : Sp.badN blocks = true → R0 1) (h1 : Sp.badN blocks = false → Sp.ap (R1 0) (Sp.dNew blocks)) : disk_New.vc R0 R1 blocks := by
  unfold disk_New.vc
  unfold Sp.badN at h0 h1
  rw [cond_dec, cond_dec]
  split
  · rename_i c1; exact h0 (by simp [c1])
  split
  · rename_i c1 c2; exact h0 (by simp [c2])
  · rename_i c1 c2
    have := h1 (by simp [c1, c2])
    rw [Sp.zero_cut, Sp.repL_zero]
    exact ⟨⟨by omega, by omega, by simp⟩, Sp.zero_len, rfl, rfl, ⟨rfl, by omega, by omega⟩, this⟩

theorem disk_Disk_Blocks.ok (R : Int → Bool → Bool → Int → Bool → List Int → List (List (List UInt8)) → List (Int × List (List UInt8)) → Prop) (down armed : Bool) (after : Int) (acut : Bool) (keep : List Int) (bs : List (List Str)) (ws : List (Int × List Str))
    (_ : Sp.dPre (down, armed, after, acut, keep, bs, ws)) (hR : R (bs.length : Int) down armed after acut keep bs ws) : disk_Disk_Blocks.vc R down armed after acut keep bs ws := hR
theorem disk_Blocks_nil.ok (R : Int → Prop) (hR : R 0) : disk_Blocks_nil.vc R := hR
theorem disk_Disk_in.ok (R : Bool → Bool → Bool → Int → Bool → List Int → List (List (List UInt8)) → List (Int × List (List UInt8)) → Prop) (i : Int) (down armed : Bool) (after : Int) (acut : Bool) (keep : List Int) (bs : List (List Str)) (ws : List (Int × List Str))
    (h : Sp.dPre (down, armed, after, acut, keep, bs, ws)) (hR : R (Sp.inD i (down, armed, after, acut, keep, bs, ws)) down armed after acut keep bs ws) : disk_Disk_in.vc R i down armed after acut keep bs ws := by
  unfold disk_Disk_in.vc
  unfold Sp.inD at hR
  rw [cond_dec]
  split
  · rename_i c1
    refine ⟨h, ?_⟩
    have : decide (0 ≤ i ∧ i < (Sp.DSt.bs (down, armed, after, acut, keep, bs, ws)).length) = decide (i < ((Sp.DSt.bs (down, armed, after, acut, keep, bs, ws)).length : Int)) := by simp [c1]
    rw [this] at hR
    exact hR
  · rename_i c1
    rw [decide_eq_false (fun e => c1 e.1)] at hR
    exact hR
theorem disk_in_nil.ok (R : Bool → Prop) (i : Int) (hR : R false) : disk_in_nil.vc R i := by
  unfold disk_in_nil.vc
  rw [cond_dec]
  split
  · rw [decide_eq_false (by omega)]; exact hR
  · exact hR
theorem disk_Disk_Up.ok (R : Bool → Bool → Bool → Int → Bool → List Int → List (List (List UInt8)) → List (Int × List (List UInt8)) → Prop) (down armed : Bool) (after : Int) (acut : Bool) (keep : List Int) (bs : List (List Str)) (ws : List (Int × List Str))
    (_ : Sp.dPre (down, armed, after, acut, keep, bs, ws)) (hR : R (Sp.upD (down, armed, after, acut, keep, bs, ws)) down armed after acut keep bs ws) : disk_Disk_Up.vc R down armed after acut keep bs ws := hR
theorem disk_Up_nil.ok (R : Bool → Prop) (hR : R false) : disk_Up_nil.vc R := hR
namespace Sp
theorem in_iff {i : Int} {d : DSt} : inD i d = true ↔ 0 ≤ i ∧ i < d.bs.length := by unfold inD; rw [decide_eq_true_iff]
theorem lastW_ok {i : Int} : ∀ {ws : List Wr} {b : Blk}, bOk b → (∀ w, w ∈ ws → bOk w.2) → bOk (lastW i b ws)
  | [], b, h, _ => h
  | w :: l, b, h, hw => by
    rw [lastW]
    refine lastW_ok ?_ (fun x hx => hw x (by simp [hx]))
    split
    · exact hw w (by simp)
    · exact h
theorem lastW_app (i : Int) : ∀ (ws vs : List Wr) (b : Blk), lastW i b (ws ++ vs) = lastW i (lastW i b ws) vs
  | [], _, _ => rfl
  | w :: l, vs, b => by rw [List.cons_append, lastW, lastW, lastW_app i l vs]
theorem four {b : Blk} (h : bOk b) : [b.headD [], b.tail.headD [], b.tail.tail.headD [], b.tail.tail.tail.headD []] = b := by
  match b, h.1 with
  | [a1, a2, a3, a4], _ => rfl
end Sp

theorem disk_Disk_Lasts.ok (R : List UInt8 → Bool → Bool → Int → Bool → List Int → List (List (List UInt8)) → List (Int × List (List UInt8)) → Prop) (i : Int) (down armed : Bool) (after : Int) (acut : Bool) (keep : List Int) (bs : List (List Str)) (ws : List (Int × List Str))
    (h : Sp.dPre (down, armed, after, acut, keep, bs, ws)) (hR : R (Sp.dLasts i (down, armed, after, acut, keep, bs, ws)) down armed after acut keep bs ws) : disk_Disk_Lasts.vc R i down armed after acut keep bs ws := by
  refine ⟨h, ?_⟩
  unfold Sp.dLasts at hR
  cases hi : Sp.inD i (down, armed, after, acut, keep, bs, ws) with
  | false => rw [hi] at hR; exact hR
  | true =>
    rw [hi] at hR
    have hi' := Sp.in_iff.1 hi
    rw [if_neg (by simp)] at hR
    have hn := Sp.nth_def ([] : Sp.Blk) (List.replicate 4 ([] : Str)) hi'.1 hi'.2
    have hm := Sp.nth_get (d := List.replicate 4 ([] : Str)) hi'.1 hi'.2
    rw [hn] at hR
    exact ⟨hi', h.2.1 _ hm, hR⟩
theorem disk_Lasts_nil.ok (R : List UInt8 → Prop) (i : Int) (hR : R []) : disk_Lasts_nil.vc R i := hR

theorem disk_Disk_Read.ok (R : List UInt8 → Int → Bool → Bool → Int → Bool → List Int → List (List (List UInt8)) → List (Int × List (List UInt8)) → Prop) (i : Int) (down armed : Bool) (after : Int) (acut : Bool) (keep : List Int) (bs : List (List Str)) (ws : List (Int × List Str))
    (h : Sp.dPre (down, armed, after, acut, keep, bs, ws)) (hR : R (Sp.dRead i (down, armed, after, acut, keep, bs, ws)).1 (Sp.dRead i (down, armed, after, acut, keep, bs, ws)).2 down armed after acut keep bs ws) : disk_Disk_Read.vc R i down armed after acut keep bs ws := by
  refine ⟨h, ?_⟩
  unfold Sp.dRead at hR
  cases hi : Sp.inD i (down, armed, after, acut, keep, bs, ws) with
  | false => rw [hi] at hR; exact hR
  | true =>
    rw [hi, if_neg (by simp)] at hR
    refine ⟨h, ?_⟩
    cases hd : down with
    | true => subst hd; exact hR
    | false =>
      subst hd
      rw [if_neg (by simp)] at hR
      have hi' := Sp.in_iff.1 hi
      have hn := Sp.nth_def ([] : Sp.Blk) (List.replicate 4 ([] : Str)) hi'.1 hi'.2
      have hb := h.2.1 _ (Sp.nth_get (d := List.replicate 4 ([] : Str)) hi'.1 hi'.2)
      have hw := h.2.2.2.1
      have hwl := h.2.2.1
      rw [hn] at hR
      simp only [Sp.DSt.bs, Sp.DSt.ws] at hi' hb hw hwl hR
      refine ⟨hi', rfl, ?_⟩
      generalize nth bs i (List.replicate 4 ([] : Str)) = b at *
      refine Lp_rule (fun v => ∃ p : Nat, v = (i, (ws.length : Int), (p : Int), false, armed, after, acut, keep, bs, ws, Sp.lastW i b (ws.take p), ()) ∧ p ≤ ws.length) (fun v => ws.length - v.2.2.1.toNat) ?_ ⟨0, rfl, Nat.zero_le _⟩
      rintro _ K ⟨p, rfl, hp⟩ hK
      have hlo : Sp.bOk (Sp.lastW i b (ws.take p)) := Sp.lastW_ok hb (fun w hw' => (hw w (List.mem_of_mem_take hw')).2.2)
      simp only [disk_Disk_Read.L0, cond_dec, ix_iff, rg64, ln_iff]
      split
      · rename_i c1
        have hp' : p < ws.length := by omega
        have hts := take_succ (d := ((0 : Int), List.replicate 4 ([] : Str))) hp'
        have hmem := Sp.nth_get (l := ws) (d := ((0 : Int), List.replicate 4 ([] : Str))) (show 0 ≤ (p : Int) by omega) (by omega)
        have hwb := hw _ hmem
        have hnext : Sp.lastW i b (ws.take (p + 1)) = if (nth ws (p : Int) ((0 : Int), List.replicate 4 ([] : Str))).1 = i then (nth ws (p : Int) ((0 : Int), List.replicate 4 ([] : Str))).2 else Sp.lastW i b (ws.take p) := by
          rw [hts, Sp.lastW_app]; rfl
        refine ⟨by omega, ?_⟩
        split
        · rename_i c2
          refine ⟨hlo.1.symm, by omega, hK _ ⟨p + 1, ?_, by omega⟩ (by simp; omega)⟩
          rw [hnext, if_pos c2, Sp.four hwb.2.2]; rfl
        · rename_i c2
          refine ⟨by omega, hK _ ⟨p + 1, ?_, by omega⟩ (by simp; omega)⟩
          rw [hnext, if_neg c2]; rfl
      · have : p = ws.length := by omega
        subst this
        rw [List.take_length] at hlo ⊢
        exact ⟨hlo.1.symm, hlo, hR⟩
theorem disk_Read_nil.ok (R : List UInt8 → Int → Prop) (i : Int) (hR : R [] 1) : disk_Read_nil.vc R i := hR

namespace Sp
theorem kept_range (keep : List Int) (k : Int) : 0 ≤ kept keep k ∧ kept keep k ≤ 4 := by
  unfold kept mn mx
  split <;> omega
theorem cpA_ok {m : Int} {a b : Blk} (ha : bOk a) (hb : bOk b) (h0 : 0 ≤ m) (h4 : m ≤ 4) : bOk (cpA m a b) := by
  unfold cpA
  refine ⟨?_, fun x hx => ?_⟩
  · rw [List.length_append, List.length_take, List.length_drop, ha.1, hb.1]; omega
  · rcases List.mem_append.1 hx with hx | hx
    · exact ha.2 x (List.mem_of_mem_take hx)
    · exact hb.2 x (List.mem_of_mem_drop hx)
theorem set_ok {bs : List Blk} {k : Nat} {b : Blk} (h : ∀ x, x ∈ bs → bOk x) (hb : bOk b) : ∀ x, x ∈ bs.set k b → bOk x := fun x hx => by
  rcases List.mem_or_eq_of_mem_set hx with hx | hx
  · exact h x hx
  · rw [hx]; exact hb
theorem fallF_ok {keep : List Int} : ∀ {ws : List Wr} {k : Int} {bs : List Blk}, (∀ x, x ∈ bs → bOk x) → (∀ w, w ∈ ws → 0 ≤ w.1 ∧ w.1 < bs.length ∧ bOk w.2) → (fallF keep k bs ws).length = bs.length ∧ ∀ x, x ∈ fallF keep k bs ws → bOk x
  | [], k, bs, h, _ => ⟨rfl, h⟩
  | w :: l, k, bs, h, hw => by
    have h0 := hw w (by simp)
    have hk := kept_range keep k
    have hb := h _ (nth_get (d := []) h0.1 h0.2.1)
    have := fallF_ok (keep := keep) (ws := l) (k := k + 1) (bs := bs.set w.1.toNat (cpA (kept keep k) w.2 (nth bs w.1 []))) (set_ok h (cpA_ok h0.2.2 hb hk.1 hk.2)) (fun x hx => by
      rw [List.length_set]
      exact hw x (by simp [hx]))
    rw [List.length_set] at this
    exact this
theorem dFall_ok {n : Nat} {keep : List Int} {d : DSt} (h : dOk n d) : dOk n (dFall keep d) := by
  obtain ⟨h1, h2, h3, h4, h5, h6, h7⟩ := h
  have := fallF_ok (keep := keep) (k := 0) h2 h4
  exact ⟨by simp only [DSt.bs, dFall]; rw [this.1]; exact h1, this.2, Nat.zero_le _, fun w hw => by simp [DSt.ws, dFall] at hw, h5, h6, h7⟩
end Sp

theorem disk_Disk_fall.ok (R : Bool → Bool → Int → Bool → List Int → List (List (List UInt8)) → List (Int × List (List UInt8)) → Prop) (keep_ : List Int) (down armed : Bool) (after : Int) (acut : Bool) (keep : List Int) (bs : List (List Str)) (ws : List (Int × List Str))
    (h : Sp.dFall.pre keep_ (down, armed, after, acut, keep, bs, ws)) (hR : Sp.ap R (Sp.dFall keep_ (down, armed, after, acut, keep, bs, ws))) : disk_Disk_fall.vc R keep_ down armed after acut keep bs ws := by
  obtain ⟨⟨h1, h2, h3, h4, h5, h6, h7⟩, h8⟩ := h
  simp only [Sp.DSt.bs, Sp.DSt.ws] at h1 h2 h3 h4
  unfold Sp.ap Sp.dFall at hR
  simp only [Sp.DSt.bs, Sp.DSt.ws, Sp.DSt.after, Sp.DSt.acut, Sp.DSt.keep] at hR
  unfold disk_Disk_fall.vc
  refine Lp_rule (fun v => ∃ (p : Nat) (cs : List Sp.Blk), v = (keep_, (ws.length : Int), (p : Int), down, armed, after, acut, keep, cs, ws, ()) ∧ p ≤ ws.length ∧ cs.length = bs.length ∧ (∀ x, x ∈ cs → Sp.bOk x) ∧ Sp.fallF keep_ (p : Int) cs (ws.drop p) = Sp.fallF keep_ 0 bs ws)
    (fun v => ws.length - v.2.2.1.toNat) ?_ ⟨0, bs, rfl, Nat.zero_le _, rfl, h2, rfl⟩
  rintro _ K ⟨p, cs, rfl, hp, hcl, hco, hf⟩ hK
  simp only [disk_Disk_fall.L0, cond_dec, ix_iff, rg64, sb_iff, Eqi]
  split
  · rename_i c1
    have hp' : p < ws.length := by omega
    have hd := drop_cons (d := ((0 : Int), List.replicate 4 ([] : Str))) hp'
    have hmem := Sp.nth_get (l := ws) (d := ((0 : Int), List.replicate 4 ([] : Str))) (show 0 ≤ (p : Int) by omega) (by omega)
    have hwb := h4 _ hmem
    generalize nth ws (p : Int) ((0 : Int), List.replicate 4 ([] : Str)) = w at *
    rw [hd, Sp.fallF] at hf
    have hk := Sp.kept_range keep_ (p : Int)
    have hwl : w.1 < (cs.length : Int) := by omega
    have hnd := Sp.nth_def ([] : Sp.Blk) (List.replicate 4 ([] : Str)) hwb.1 hwl
    have hb := hco _ (Sp.nth_get (d := List.replicate 4 ([] : Str)) hwb.1 hwl)
    rw [hnd] at hf
    have go (k : Int) (hkk : k = Sp.kept keep_ (p : Int)) : K (keep_, (ws.length : Int), (p : Int) + 1, down, armed, after, acut, keep, cs.set w.1.toNat (cpA k [w.2.headD [], w.2.tail.headD [], w.2.tail.tail.headD [], w.2.tail.tail.tail.headD []] (nth cs w.1 (List.replicate 4 []))), ws, ()) := by
      rw [Sp.four hwb.2.2, hkk]
      exact hK _ ⟨p + 1, _, rfl, by omega, by simp [hcl], Sp.set_ok hco (Sp.cpA_ok hwb.2.2 hb hk.1 hk.2), hf⟩ (by simp; omega)
    refine ⟨by omega, ?_⟩
    split
    · rename_i c2
      have hkk : mn (mx (nth keep_ (p : Int) 0) 0) 4 = Sp.kept keep_ (p : Int) := by unfold Sp.kept; rw [if_pos c2]
      rw [hkk]
      exact ⟨by omega, by omega, by omega, by omega, trivial, by omega, go _ rfl⟩
    · rename_i c2
      have hkk : 0 = Sp.kept keep_ (p : Int) := by unfold Sp.kept; rw [if_neg c2]
      exact ⟨by omega, by omega, by omega, trivial, by omega, go _ hkk⟩
  · have : p = ws.length := by omega
    subst this
    rw [List.drop_length, Sp.fallF] at hf
    rw [hf]
    exact hR

namespace Sp
theorem dGoes_ok {n : Nat} {d : DSt} (h : dOk n d) : dOk n (dGoes d).1 ∧ (0 ≤ (dGoes d).2.1 ∧ (dGoes d).2.1 ≤ 271) := by
  unfold dGoes
  split
  · exact ⟨h, by simp⟩
  split
  · rename_i c1 c2
    obtain ⟨h1, h2, h3, h4, h5, h6, h7⟩ := h
    simp only [DSt.after] at c2 h5 h6
    exact ⟨⟨h1, h2, h3, h4, by simp only [DSt.after]; omega, by simp only [DSt.after]; omega, h7⟩, by simp⟩
  split
  · exact ⟨h, by simp⟩
  · exact ⟨dFall_ok h, by simp⟩
end Sp

theorem disk_Disk_goes.ok (R : Int → Bool → Bool → Bool → Int → Bool → List Int → List (List (List UInt8)) → List (Int × List (List UInt8)) → Prop) (down armed : Bool) (after : Int) (acut : Bool) (keep : List Int) (bs : List (List Str)) (ws : List (Int × List Str))
    (h : Sp.dPre (down, armed, after, acut, keep, bs, ws)) (hR : Sp.ap (R (Sp.dGoes (down, armed, after, acut, keep, bs, ws)).2.1 (Sp.dGoes (down, armed, after, acut, keep, bs, ws)).2.2) (Sp.dGoes (down, armed, after, acut, keep, bs, ws)).1) : disk_Disk_goes.vc R down armed after acut keep bs ws := by
  unfold disk_Disk_goes.vc
  unfold Sp.dGoes at hR
  obtain ⟨h1, h2, h3, h4, h5, h6, h7⟩ := h
  simp only [Sp.DSt.after, Sp.DSt.keep] at h5 h6 h7
  cases armed with
  | false => exact hR
  | true =>
    simp only [Bool.not_true, cond_false]
    rw [if_neg (by simp)] at hR
    rw [cond_dec]
    split
    · rename_i c1
      rw [if_pos c1] at hR
      rw [rg64]
      exact ⟨by omega, hR⟩
    · rename_i c1
      rw [if_neg c1] at hR
      cases acut with
      | false => exact hR
      | true =>
        rw [if_neg (by simp)] at hR
        exact ⟨⟨⟨h1, h2, h3, h4, h5, h6, h7⟩, h7⟩, hR⟩

theorem disk_Disk_Write.ok (R : Int → Bool → Bool → Int → Bool → List Int → List (List (List UInt8)) → List (Int × List (List UInt8)) → Prop) (i : Int) (s : Str) (down armed : Bool) (after : Int) (acut : Bool) (keep : List Int) (bs : List (List Str)) (ws : List (Int × List Str))
    (h : Sp.dWrite.pre i s (down, armed, after, acut, keep, bs, ws)) (hR : Sp.ap (R (Sp.dWrite i s (down, armed, after, acut, keep, bs, ws)).2) (Sp.dWrite i s (down, armed, after, acut, keep, bs, ws)).1) : disk_Disk_Write.vc R i s down armed after acut keep bs ws := by
  obtain ⟨h, hs⟩ := h
  refine ⟨h, ?_⟩
  unfold Sp.dWrite at hR
  cases hi : Sp.inD i (down, armed, after, acut, keep, bs, ws) with
  | false => rw [hi] at hR; rw [if_pos (.inl rfl)] at hR; exact hR
  | true =>
    rw [hi] at hR
    simp only [Bool.not_true, cond_false]
    rw [cond_ndec]
    split
    · rename_i c1
      have c1' : List.length s = 256 := by omega
      rw [if_neg (by simp [c1'])] at hR
      refine ⟨h, ?_⟩
      cases down with
      | true => exact hR
      | false =>
        rw [if_neg (by simp)] at hR
        refine ⟨h, ?_⟩
        obtain ⟨g1, g2, g3, _⟩ := (Sp.dGoes_ok h).1
        have hu : Sp.upD (false, armed, after, acut, keep, bs, ws) = true := rfl
        cases hg : (Sp.dGoes (false, armed, after, acut, keep, bs, ws)).2.2 with
        | true => rw [hg, if_pos rfl] at hR; exact hR
        | false =>
          rw [hg, if_neg (by simp)] at hR
          simp only [cond_false]
          rw [Sp.four (Sp.cutB_ok c1'), gr_iff]
          exact ⟨c1', by simp only [Sp.DSt.ws] at g3; omega, hR⟩
    · rename_i c1
      rw [if_pos (.inr (fun e => c1 (by omega)))] at hR
      exact hR
theorem disk_Write_nil.ok (R : Int → Prop) (i : Int) (s : Str) (hR : R 1) : disk_Write_nil.vc R i s := hR

namespace Sp
theorem flushF_ok : ∀ {ws : List Wr} {bs : List Blk}, (∀ x, x ∈ bs → bOk x) → (∀ w, w ∈ ws → bOk w.2) → (flushF bs ws).length = bs.length ∧ ∀ x, x ∈ flushF bs ws → bOk x
  | [], bs, h, _ => ⟨rfl, h⟩
  | w :: l, bs, h, hw => by
    have := flushF_ok (ws := l) (bs := bs.set w.1.toNat w.2) (set_ok h (hw w (by simp))) (fun x hx => hw x (by simp [hx]))
    rw [List.length_set] at this
    exact this
end Sp

theorem disk_Disk_Flush.ok (R : Int → Bool → Bool → Int → Bool → List Int → List (List (List UInt8)) → List (Int × List (List UInt8)) → Prop) (down armed : Bool) (after : Int) (acut : Bool) (keep : List Int) (bs : List (List Str)) (ws : List (Int × List Str))
    (h : Sp.dPre (down, armed, after, acut, keep, bs, ws)) (hR : Sp.ap (R (Sp.dFlush (down, armed, after, acut, keep, bs, ws)).2) (Sp.dFlush (down, armed, after, acut, keep, bs, ws)).1) : disk_Disk_Flush.vc R down armed after acut keep bs ws := by
  refine ⟨h, ?_⟩
  unfold Sp.dFlush at hR
  cases down with
  | true => exact hR
  | false =>
    have hu : Sp.upD (false, armed, after, acut, keep, bs, ws) = true := rfl
    rw [hu]
    simp only [Bool.not_true, cond_false]
    rw [if_neg (by simp)] at hR
    refine ⟨h, ?_⟩
    obtain ⟨g1, g2, g3, g4, _⟩ := (Sp.dGoes_ok h).1
    generalize Sp.dGoes (false, armed, after, acut, keep, bs, ws) = g at *
    obtain ⟨⟨down', armed', after', acut', keep', bs', ws'⟩, e, off⟩ := g
    simp only [Sp.DSt.bs, Sp.DSt.ws] at g1 g2 g3 g4
    cases off with
    | true => rw [if_pos rfl] at hR; exact hR
    | false =>
      rw [if_neg (by simp)] at hR
      simp only [Bool.not_false, cond_true]
      simp only [Sp.ap, Sp.DSt.down, Sp.DSt.armed, Sp.DSt.after, Sp.DSt.acut, Sp.DSt.keep, Sp.DSt.bs, Sp.DSt.ws] at hR
      refine Lp_rule (fun v => ∃ (p : Nat) (cs : List Sp.Blk), v = (e, (ws'.length : Int), (p : Int), down', armed', after', acut', keep', cs, ws', ()) ∧ p ≤ ws'.length ∧ cs.length = bs'.length ∧ Sp.flushF cs (ws'.drop p) = Sp.flushF bs' ws')
        (fun v => ws'.length - v.2.2.1.toNat) ?_ ⟨0, bs', rfl, Nat.zero_le _, rfl, rfl⟩
      rintro _ K ⟨p, cs, rfl, hp, hcl, hf⟩ hK
      simp only [disk_Disk_Flush.L0, cond_dec, ix_iff, rg64]
      split
      · rename_i c1
        have hp' : p < ws'.length := by omega
        have hd := drop_cons (d := ((0 : Int), List.replicate 4 ([] : Str))) hp'
        have hmem := Sp.nth_get (l := ws') (d := ((0 : Int), List.replicate 4 ([] : Str))) (show 0 ≤ (p : Int) by omega) (by omega)
        have hwb := g4 _ hmem
        generalize nth ws' (p : Int) ((0 : Int), List.replicate 4 ([] : Str)) = w at *
        rw [hd, Sp.flushF] at hf
        rw [Sp.four hwb.2.2]
        exact ⟨by omega, by omega, by omega, hK _ ⟨p + 1, _, rfl, by omega, by simp [hcl], hf⟩ (by simp; omega)⟩
      · have : p = ws'.length := by omega
        subst this
        rw [List.drop_length, Sp.flushF] at hf
        rw [hf]
        exact hR
theorem disk_Flush_nil.ok (R : Int → Prop) (hR : R 271) : disk_Flush_nil.vc R := hR

theorem disk_Disk_Set.ok (R : Int → Bool → Bool → Int → Bool → List Int → List (List (List UInt8)) → List (Int × List (List UInt8)) → Prop) (a : Int × (Bool × (List Int))) (down armed : Bool) (after : Int) (acut : Bool) (keep : List Int) (bs : List (List Str)) (ws : List (Int × List Str))
    (h : Sp.dSet.pre a (down, armed, after, acut, keep, bs, ws)) (hR : Sp.ap (R (Sp.dSet a (down, armed, after, acut, keep, bs, ws)).2) (Sp.dSet a (down, armed, after, acut, keep, bs, ws)).1) : disk_Disk_Set.vc R a down armed after acut keep bs ws := by
  obtain ⟨h, hk⟩ := h
  unfold disk_Disk_Set.vc
  unfold Sp.dSet at hR
  rw [cond_dec]
  split
  · rename_i c1; rw [if_pos c1] at hR; exact hR
  · rename_i c1
    rw [if_neg c1] at hR
    refine ⟨h, ?_⟩
    cases down with
    | true => exact hR
    | false => exact ⟨hk, hR⟩
theorem disk_Set_nil.ok (R : Int → Prop) (a : Int × (Bool × (List Int))) (hR : R (Sp.setNil a)) : disk_Set_nil.vc R a := by
  unfold disk_Set_nil.vc
  unfold Sp.setNil at hR
  rw [cond_dec]
  split
  · rename_i c1; rw [if_pos c1] at hR; exact hR
  · rename_i c1; rw [if_neg c1] at hR; exact hR
theorem disk_Disk_Crash.ok (R : Int → Bool → Bool → Int → Bool → List Int → List (List (List UInt8)) → List (Int × List (List UInt8)) → Prop) (keep_ : List Int) (down armed : Bool) (after : Int) (acut : Bool) (keep : List Int) (bs : List (List Str)) (ws : List (Int × List Str))
    (h : Sp.dFall.pre keep_ (down, armed, after, acut, keep, bs, ws)) (hR : Sp.ap (R (Sp.dCrash keep_ (down, armed, after, acut, keep, bs, ws)).2) (Sp.dCrash keep_ (down, armed, after, acut, keep, bs, ws)).1) : disk_Disk_Crash.vc R keep_ down armed after acut keep bs ws := by
  refine ⟨h.1, ?_⟩
  unfold Sp.dCrash at hR
  cases down with
  | true => exact hR
  | false => exact ⟨h, hR⟩
theorem disk_Crash_nil.ok (R : Int → Prop) (keep_ : List Int) (hR : R 271) : disk_Crash_nil.vc R keep_ := hR
theorem disk_Disk_Start.ok (R : Int → Bool → Bool → Int → Bool → List Int → List (List (List UInt8)) → List (Int × List (List UInt8)) → Prop) (down armed : Bool) (after : Int) (acut : Bool) (keep : List Int) (bs : List (List Str)) (ws : List (Int × List Str))
    (_ : Sp.dPre (down, armed, after, acut, keep, bs, ws)) (hR : Sp.ap (R (Sp.dStart (down, armed, after, acut, keep, bs, ws)).2) (Sp.dStart (down, armed, after, acut, keep, bs, ws)).1) : disk_Disk_Start.vc R down armed after acut keep bs ws := by
  unfold Sp.dStart at hR
  cases down with
  | true => exact hR
  | false => exact hR
theorem disk_Start_nil.ok (R : Int → Prop) (hR : R 7) : disk_Start_nil.vc R := hR


namespace Sp
theorem nth_in {α : Type} {l : List α} {i : Int} (d : α) (h0 : 0 ≤ i) (h1 : i < l.length) : l[i.toNat]? = some (nth l i d) := by
  obtain ⟨p, rfl⟩ : ∃ p : Nat, i = p := ⟨i.toNat, by omega⟩
  have h : p < l.length := by omega
  rw [nth_lt h, Int.toNat_natCast, List.getElem?_eq_getElem h]
theorem nth_map {α β : Type} (f : α → β) {l : List α} {i : Int} (d : α) (e : β) (h0 : 0 ≤ i) (h1 : i < l.length) : nth (l.map f) i e = f (nth l i d) := by
  have := nth_in d h0 h1
  have h2 := nth_in (l := l.map f) e h0 (by rw [List.length_map]; exact h1)
  rw [List.getElem?_map, this] at h2
  exact (Option.some.inj h2).symm
end Sp

set_option maxRecDepth 20000 in
theorem rectoref27_New.ok (R : Bool → Bool → Int → Bool → List Int → List (List UInt8) → List (Int × List UInt8) → Prop) (blocks : Int) (h : Sp.rNew.pre blocks) (hR : Sp.ap R (Sp.rNew blocks)) : rectoref27_New.vc R blocks := by
  have h : blocks ≤ 1000 := h
  unfold Sp.ap Sp.rNew at hR
  refine Lp_rule (fun v => ∃ p : Nat, v = (blocks, List.replicate p 0, (p : Int), ()) ∧ p ≤ 256) (fun v => 256 - v.2.2.1.toNat) ?_ ⟨0, rfl, by omega⟩
  rintro _ K ⟨p, rfl, hp⟩ hK
  simp only [rectoref27_New.L0, cond_dec, rg64, List.length_replicate]
  by_cases c1 : (p : Int) < 256
  · rw [if_pos c1]
    exact ⟨by omega, by omega, hK _ ⟨p + 1, by rw [List.replicate_succ']; rfl, by omega⟩ (by simp; omega)⟩
  · rw [if_neg c1]
    have : p = 256 := by omega
    subst this
    clear hK K
    refine Lp_rule (fun v => ∃ q : Nat, v = (blocks, List.replicate 256 0, (q : Int), false, false, 0, false, [], List.replicate q (List.replicate 256 0), [], ()) ∧ q ≤ blocks.toNat) (fun v => blocks.toNat - v.2.2.1.toNat) ?_ ⟨0, rfl, by omega⟩
    rintro _ K ⟨q, rfl, hq⟩ hK
    simp only [rectoref27_New.L1, cond_dec, rg64, gr_iff, List.length_replicate]
    split
    · rename_i c2
      exact ⟨by omega, by omega, hK _ ⟨q + 1, by rw [List.replicate_succ' (n := q)]; rfl, by omega⟩ (by simp; omega)⟩
    · have : q = blocks.toNat := by omega
      subst this
      exact hR

namespace Sp
theorem r_in_iff {i : Int} {d : RSt} : rIn i d = true ↔ 0 ≤ i ∧ i < d.bs.length := by unfold rIn; rw [decide_eq_true_iff]
theorem rLastW_app (i : Int) : ∀ (ws vs : List RWr) (b : Str), rLastW i b (ws ++ vs) = rLastW i (rLastW i b ws) vs
  | [], _, _ => rfl
  | w :: l, vs, b => by rw [List.cons_append, rLastW, rLastW, rLastW_app i l vs]
end Sp

theorem rectoref27_Disk_Read.ok (R : List UInt8 → Int → Bool → Bool → Int → Bool → List Int → List (List UInt8) → List (Int × List UInt8) → Prop) (i : Int) (rdown rarmed : Bool) (rafter : Int) (racut : Bool) (rkeep : List Int) (rbs : List Str) (rws : List (Int × Str))
    (h : Sp.rPre (rdown, rarmed, rafter, racut, rkeep, rbs, rws)) (hR : R (Sp.rRead i (rdown, rarmed, rafter, racut, rkeep, rbs, rws)).1 (Sp.rRead i (rdown, rarmed, rafter, racut, rkeep, rbs, rws)).2 rdown rarmed rafter racut rkeep rbs rws) : rectoref27_Disk_Read.vc R i rdown rarmed rafter racut rkeep rbs rws := by
  unfold rectoref27_Disk_Read.vc
  unfold Sp.rRead at hR
  have hwl := h.2.2.1
  simp only [Sp.RSt.ws] at hwl
  rw [cond_dec, cond_dec]
  split
  · rename_i c1
    have hi : Sp.rIn i (rdown, rarmed, rafter, racut, rkeep, rbs, rws) = false := by unfold Sp.rIn; exact decide_eq_false (fun e => by omega)
    rw [if_pos hi] at hR; exact hR
  split
  · rename_i c1 c2
    have hi : Sp.rIn i (rdown, rarmed, rafter, racut, rkeep, rbs, rws) = false := by unfold Sp.rIn; exact decide_eq_false (fun e => by have := e.2; simp only [Sp.RSt.bs] at this; omega)
    rw [if_pos hi] at hR; exact hR
  · rename_i c1 c2
    have hi : Sp.rIn i (rdown, rarmed, rafter, racut, rkeep, rbs, rws) = true := Sp.r_in_iff.2 ⟨by omega, by simp only [Sp.RSt.bs]; omega⟩
    rw [hi, if_neg (by simp)] at hR
    cases rdown with
    | true => exact hR
    | false =>
      rw [if_neg (by simp)] at hR
      simp only [Sp.RSt.bs, Sp.RSt.ws] at hR
      refine ⟨⟨by omega, by omega⟩, ?_⟩
      generalize nth rbs i [] = b at *
      refine Lp_rule (fun v => ∃ p : Nat, v = (i, Sp.rLastW i b (rws.take p), (rws.length : Int), (p : Int), false, rarmed, rafter, racut, rkeep, rbs, rws, ()) ∧ p ≤ rws.length) (fun v => rws.length - v.2.2.2.1.toNat) ?_ ⟨0, rfl, Nat.zero_le _⟩
      rintro _ K ⟨p, rfl, hp⟩ hK
      simp only [rectoref27_Disk_Read.L0, cond_dec, ix_iff, rg64]
      split
      · rename_i c3
        have hp' : p < rws.length := by omega
        have hts := take_succ (d := ((0 : Int), ([] : Str))) hp'
        have hnext : Sp.rLastW i b (rws.take (p + 1)) = if (nth rws (p : Int) ((0 : Int), ([] : Str))).1 = i then (nth rws (p : Int) ((0 : Int), ([] : Str))).2 else Sp.rLastW i b (rws.take p) := by
          rw [hts, Sp.rLastW_app]; rfl
        refine ⟨by omega, ?_⟩
        split
        · rename_i c4
          refine ⟨by omega, hK _ ⟨p + 1, ?_, by omega⟩ (by simp; omega)⟩
          rw [hnext, if_pos c4]; rfl
        · rename_i c4
          refine ⟨by omega, hK _ ⟨p + 1, ?_, by omega⟩ (by simp; omega)⟩
          rw [hnext, if_neg c4]; rfl
      · have : p = rws.length := by omega
        subst this
        rw [List.take_length]
        exact hR

namespace Sp
theorem rKept_range (keep : List Int) (k : Int) : 0 ≤ rKept keep k ∧ rKept keep k ≤ 4 := by
  unfold rKept
  split
  · split <;> omega
  · omega
end Sp

theorem rectoref27_Disk_Fall.ok (R : Bool → Bool → Int → Bool → List Int → List (List UInt8) → List (Int × List UInt8) → Prop) (keep_ : List Int) (rdown rarmed : Bool) (rafter : Int) (racut : Bool) (rkeep : List Int) (rbs : List Str) (rws : List (Int × Str))
    (h : Sp.rFall.pre keep_ (rdown, rarmed, rafter, racut, rkeep, rbs, rws)) (hR : Sp.ap R (Sp.rFall keep_ (rdown, rarmed, rafter, racut, rkeep, rbs, rws))) : rectoref27_Disk_Fall.vc R keep_ rdown rarmed rafter racut rkeep rbs rws := by
  obtain ⟨⟨h1, h2, h3, h4, h5, h6, h7⟩, h8⟩ := h
  simp only [Sp.RSt.bs, Sp.RSt.ws] at h1 h2 h3 h4
  unfold Sp.ap Sp.rFall at hR
  simp only [Sp.RSt.bs, Sp.RSt.ws, Sp.RSt.after, Sp.RSt.acut, Sp.RSt.keep] at hR
  unfold rectoref27_Disk_Fall.vc
  refine Lp_rule (fun v => ∃ (p : Nat) (cs : List Str), v = (keep_, (rws.length : Int), (p : Int), rdown, rarmed, rafter, racut, rkeep, cs, rws, ()) ∧ p ≤ rws.length ∧ cs.length = rbs.length ∧ (∀ x, x ∈ cs → x.length = 256) ∧ Sp.rFallF keep_ (p : Int) cs (rws.drop p) = Sp.rFallF keep_ 0 rbs rws)
    (fun v => rws.length - v.2.2.1.toNat) ?_ ⟨0, rbs, rfl, Nat.zero_le _, rfl, h2, rfl⟩
  rintro _ K ⟨p, cs, rfl, hp, hcl, hco, hf⟩ hK
  simp only [rectoref27_Disk_Fall.L0, cond_dec, ix_iff, rg64, sb_iff]
  split
  · rename_i c1
    have hp' : p < rws.length := by omega
    have hd := drop_cons (d := ((0 : Int), ([] : Str))) hp'
    have hmem := Sp.nth_get (l := rws) (d := ((0 : Int), ([] : Str))) (show 0 ≤ (p : Int) by omega) (by omega)
    have hwb := h4 _ hmem
    generalize nth rws (p : Int) ((0 : Int), ([] : Str)) = w at *
    rw [hd, Sp.rFallF] at hf
    have hk := Sp.rKept_range keep_ (p : Int)
    have hwl : w.1 < (cs.length : Int) := by omega
    have hb := hco _ (Sp.nth_get (d := ([] : Str)) hwb.1 hwl)
    have hw2 := hwb.2.2
    have go (k : Int) (hkk : k = Sp.rKept keep_ (p : Int)) :
        (-9223372036854775808 ≤ 64 * k ∧ 64 * k ≤ 9223372036854775807) ∧ (0 ≤ (0 : Int) ∧ 0 ≤ 64 * k ∧ 64 * k ≤ (List.length w.2 : Int)) ∧ (0 ≤ w.1 ∧ w.1 < (cs.length : Int)) ∧ (-9223372036854775808 ≤ 64 * k ∧ 64 * k ≤ 9223372036854775807) ∧
        (0 ≤ 64 * k ∧ 64 * k ≤ (List.length (nth cs w.1 []) : Int) ∧ (List.length (nth cs w.1 []) : Int) ≤ (List.length (nth cs w.1 []) : Int)) ∧
        ((sub w.2 0 (64 * k)).length : Int) + ((sub (nth cs w.1 []) (64 * k) (List.length (nth cs w.1 []) : Int)).length : Int) ≤ 9223372036854775807 ∧
        (0 ≤ w.1 ∧ w.1 < (cs.length : Int)) ∧ (-9223372036854775808 ≤ (p : Int) + 1 ∧ (p : Int) + 1 ≤ 9223372036854775807) ∧
        K (keep_, (rws.length : Int), (p : Int) + 1, rdown, rarmed, rafter, racut, rkeep, cs.set w.1.toNat (sub w.2 0 (64 * k) ++ sub (nth cs w.1 []) (64 * k) (List.length (nth cs w.1 []) : Int)), rws, ()) := by
      have e1 : sub w.2 0 (64 * k) = w.2.take (64 * (Sp.rKept keep_ (p : Int)).toNat) := by
        unfold sub; rw [hkk, show (64 * Sp.rKept keep_ (p : Int)).toNat = 64 * (Sp.rKept keep_ (p : Int)).toNat by omega]; rfl
      have e2 : sub (nth cs w.1 []) (64 * k) (List.length (nth cs w.1 []) : Int) = (nth cs w.1 []).drop (64 * (Sp.rKept keep_ (p : Int)).toNat) := by
        unfold sub; rw [hkk, show (64 * Sp.rKept keep_ (p : Int)).toNat = 64 * (Sp.rKept keep_ (p : Int)).toNat by omega, Int.toNat_natCast, List.take_length]
      rw [e1, e2, hb, hw2]
      refine ⟨by omega, by omega, by omega, by omega, by omega, ?_, by omega, by omega, hK _ ⟨p + 1, _, rfl, by omega, by simp [hcl], ?_, hf⟩ (by simp; omega)⟩
      · rw [List.length_take, List.length_drop, hw2, hb]; omega
      · intro x hx
        rcases List.mem_or_eq_of_mem_set hx with hx | hx
        · exact hco x hx
        · rw [hx, List.length_append, List.length_take, List.length_drop, hw2, hb]; omega
    refine ⟨by omega, ?_⟩
    split
    · rename_i c2
      refine ⟨by omega, ?_⟩
      split
      · rename_i c3
        refine ⟨by omega, ?_⟩
        split
        · rename_i c4
          exact go 4 (by unfold Sp.rKept; rw [if_pos ⟨c2, c3⟩, if_pos c4])
        · rename_i c4
          exact go _ (by unfold Sp.rKept; rw [if_pos ⟨c2, c3⟩, if_neg c4])
      · rename_i c3
        exact go 0 (by unfold Sp.rKept; rw [if_neg (fun e => c3 e.2)])
    · rename_i c2
      exact go 0 (by unfold Sp.rKept; rw [if_neg (fun e => c2 e.1)])
  · have : p = rws.length := by omega
    subst this
    rw [List.drop_length, Sp.rFallF] at hf
    rw [hf]
    exact hR

theorem rectoref27_Disk_goes.ok (R : Int → Bool → Bool → Int → Bool → List Int → List (List UInt8) → List (Int × List UInt8) → Prop) (rdown rarmed : Bool) (rafter : Int) (racut : Bool) (rkeep : List Int) (rbs : List Str) (rws : List (Int × Str))
    (h : Sp.rPre (rdown, rarmed, rafter, racut, rkeep, rbs, rws)) (hR : Sp.ap (R (Sp.rGoes (rdown, rarmed, rafter, racut, rkeep, rbs, rws)).2) (Sp.rGoes (rdown, rarmed, rafter, racut, rkeep, rbs, rws)).1) : rectoref27_Disk_goes.vc R rdown rarmed rafter racut rkeep rbs rws := by
  unfold rectoref27_Disk_goes.vc
  unfold Sp.rGoes at hR
  obtain ⟨h1, h2, h3, h4, h5, h6, h7⟩ := h
  simp only [Sp.RSt.after, Sp.RSt.keep] at h5 h6 h7
  cases rarmed with
  | false => exact hR
  | true =>
    simp only [Bool.not_true, cond_false]
    rw [if_neg (by simp)] at hR
    rw [cond_dec]
    split
    · rename_i c1
      rw [if_pos c1] at hR
      rw [rg64]
      exact ⟨by omega, hR⟩
    · rename_i c1
      rw [if_neg c1] at hR
      cases racut with
      | true => exact ⟨⟨⟨h1, h2, h3, h4, h5, h6, h7⟩, h7⟩, hR⟩
      | false =>
        rw [if_neg (by simp)] at hR
        exact hR

/-! The program's disk is the document's. -/
namespace Sp
theorem bOk_len {b : Blk} (h : bOk b) : b.flatten.length = 256 := by
  match b, h.1 with
  | [a1, a2, a3, a4], _ =>
    have := h.2 a1 (by simp)
    have := h.2 a2 (by simp)
    have := h.2 a3 (by simp)
    have := h.2 a4 (by simp)
    simp; omega
theorem cut_flat {s : Str} (h : s.length = 256) : (cutB s).flatten = s := by
  unfold cutB
  have e : (s.drop 192).take 64 = s.drop 192 := List.take_of_length_le (by rw [List.length_drop]; omega)
  rw [e]
  simp only [List.flatten_cons, List.flatten_nil, List.append_nil]
  have e3 : (s.drop 128).take 64 ++ s.drop 192 = s.drop 128 := by
    have := List.take_append_drop 64 (s.drop 128)
    rwa [List.drop_drop] at this
  have e2 : (s.drop 64).take 64 ++ s.drop 128 = s.drop 64 := by
    have := List.take_append_drop 64 (s.drop 64)
    rwa [List.drop_drop] at this
  rw [e3, e2, List.take_append_drop]
theorem flat_take : ∀ (l : List Str) (k : Nat), (∀ x, x ∈ l → x.length = 64) → (l.take k).flatten = l.flatten.take (64 * k)
  | [], k, _ => by simp
  | x :: l, 0, _ => by simp
  | x :: l, k + 1, h => by
    have hx := h x (by simp)
    rw [List.take_succ_cons, List.flatten_cons, List.flatten_cons, flat_take l k (fun y hy => h y (by simp [hy])), List.take_append, List.take_of_length_le (i := 64 * (k + 1)) (by omega), hx, show 64 * (k + 1) - 64 = 64 * k by omega]
theorem flat_drop : ∀ (l : List Str) (k : Nat), (∀ x, x ∈ l → x.length = 64) → (l.drop k).flatten = l.flatten.drop (64 * k)
  | [], k, _ => by simp
  | x :: l, 0, _ => by simp
  | x :: l, k + 1, h => by
    have hx := h x (by simp)
    rw [List.drop_succ_cons, List.flatten_cons, flat_drop l k (fun y hy => h y (by simp [hy])), List.drop_append, List.drop_of_length_le (i := 64 * (k + 1)) (by omega), hx, show 64 * (k + 1) - 64 = 64 * k by omega, List.nil_append]
theorem cpA_flat {a b : Blk} {k : Int} (ha : bOk a) (hb : bOk b) : (cpA k a b).flatten = a.flatten.take (64 * k.toNat) ++ b.flatten.drop (64 * k.toNat) := by
  unfold cpA
  rw [List.flatten_append, flat_take _ _ ha.2, flat_drop _ _ hb.2]

def absW (w : Wr) : RWr := (w.1, w.2.flatten)
def abs (d : DSt) : RSt := (d.down, d.armed, d.after, d.acut, d.keep, d.bs.map List.flatten, d.ws.map absW)
theorem abs_ok {n : Nat} {d : DSt} (h : dOk n d) : rOk n (abs d) := by
  obtain ⟨h1, h2, h3, h4, h5, h6, h7⟩ := h
  refine ⟨by simpa [abs, RSt.bs] using h1, fun b hb => ?_, by simpa [abs, RSt.ws] using h3, fun w hw => ?_, h5, h6, h7⟩
  · simp only [abs, RSt.bs, List.mem_map] at hb
    obtain ⟨b', hb', rfl⟩ := hb
    exact bOk_len (h2 b' hb')
  · simp only [abs, RSt.ws, List.mem_map] at hw
    obtain ⟨w', hw', rfl⟩ := hw
    have := h4 w' hw'
    exact ⟨this.1, by simpa [abs, RSt.bs, absW] using this.2.1, bOk_len this.2.2⟩
theorem abs_in (i : Int) (d : DSt) : rIn i (abs d) = inD i d := by simp [rIn, inD, abs, RSt.bs]
theorem abs_last (i : Int) : ∀ (ws : List Wr) (b : Blk), rLastW i b.flatten (ws.map absW) = (lastW i b ws).flatten
  | [], b => rfl
  | w :: l, b => by
    rw [List.map_cons, rLastW, lastW, ← abs_last i l]
    congr 1
    show (if w.1 = i then w.2.flatten else b.flatten) = _
    by_cases c : w.1 = i
    · rw [if_pos c, if_pos c]
    · rw [if_neg c, if_neg c]
theorem abs_read (i : Int) (d : DSt) : rRead i (abs d) = dRead i d := by
  unfold rRead dRead
  rw [abs_in]
  cases hi : inD i d with
  | false => rfl
  | true =>
    rw [if_neg (c := true = false) (by simp), if_neg (c := true = false) (by simp)]
    have hi' := in_iff.1 hi
    show (if d.down = true then _ else _) = _
    split
    · rfl
    · have := nth_map List.flatten (l := d.bs) ([] : Blk) ([] : Str) hi'.1 hi'.2
      show (rLastW i (nth (d.bs.map List.flatten) i []) (d.ws.map absW), (0 : Int)) = _
      rw [this, abs_last]
theorem kept_r (keep : List Int) (k : Int) : rKept keep k = kept keep k := by
  unfold rKept kept mn mx
  by_cases c1 : k < keep.length
  · rw [if_pos c1]
    by_cases c2 : 0 < nth keep k 0
    · rw [if_pos ⟨c1, c2⟩]
      split <;> omega
    · rw [if_neg (fun e => c2 e.2)]; omega
  · rw [if_neg c1, if_neg (fun e => c1 e.1)]
theorem abs_fallF {keep : List Int} : ∀ {ws : List Wr} {k : Int} {bs : List Blk}, (∀ x, x ∈ bs → bOk x) → (∀ w, w ∈ ws → 0 ≤ w.1 ∧ w.1 < bs.length ∧ bOk w.2) → rFallF keep k (bs.map List.flatten) (ws.map absW) = (fallF keep k bs ws).map List.flatten
  | [], k, bs, h, _ => rfl
  | w :: l, k, bs, h, hw => by
    have h0 := hw w (by simp)
    have hk := kept_range keep k
    have hb := h _ (nth_get (d := []) h0.1 h0.2.1)
    rw [List.map_cons, rFallF, fallF, ← abs_fallF (set_ok h (cpA_ok h0.2.2 hb hk.1 hk.2)) (fun x hx => by
      rw [List.length_set]
      exact hw x (by simp [hx])), List.map_set, cpA_flat h0.2.2 hb, kept_r]
    have := nth_map List.flatten (l := bs) ([] : Blk) ([] : Str) h0.1 h0.2.1
    simp only [absW, this]
theorem abs_fall {n : Nat} {keep : List Int} {d : DSt} (h : dOk n d) : rFall keep (abs d) = abs (dFall keep d) := by
  have := abs_fallF (keep := keep) (k := 0) h.2.1 h.2.2.2.1
  show (true, false, d.after, d.acut, d.keep, rFallF keep 0 (d.bs.map List.flatten) (d.ws.map absW), []) = _
  rw [this]; rfl
theorem abs_goes {n : Nat} {d : DSt} (h : dOk n d) : rGoes (abs d) = (abs (dGoes d).1, (dGoes d).2.1) := by
  unfold rGoes dGoes
  show (if d.armed = false then _ else if 0 < d.after then _ else if d.acut = true then _ else _) = _
  split
  · rfl
  split
  · rfl
  cases hc : d.acut with
  | false =>
    rw [if_neg (by simp), if_pos rfl]
    show ((d.down, false, d.after, d.acut, d.keep, _, _), (270 : Int)) = ((d.down, false, d.after, false, d.keep, _, _), (270 : Int))
    rw [hc]; rfl
  | true => rw [if_pos rfl, if_neg (by simp)]; show (rFall d.keep (abs d), _) = (abs (dFall d.keep d), _); rw [abs_fall h]
theorem goes_off (d : DSt) : (dGoes d).2.2 = true ↔ ¬ (dGoes d).2.1 = 0 := by
  unfold dGoes
  split
  · simp
  split
  · simp
  split
  · simp
  · simp
theorem abs_write {n : Nat} {d : DSt} (i : Int) (s : Str) (h : dOk n d) : rWrite i s (abs d) = (abs (dWrite i s d).1, (dWrite i s d).2) := by
  unfold rWrite dWrite
  rw [abs_in, abs_goes h]
  split
  · rfl
  · rename_i c1
    have hs : s.length = 256 := by
      rcases Nat.decEq s.length 256 with hh | hh
      · exact absurd (.inr hh) c1
      · exact hh
    show (if d.down = true then _ else _) = _
    split
    · rfl
    · have := goes_off d
      cases hg : (dGoes d).2.2 with
      | true =>
        rw [if_neg (this.1 hg), if_pos rfl]
      | false =>
        have h0 : (dGoes d).2.1 = 0 := by
          rcases Int.decEq (dGoes d).2.1 0 with hh | hh
          · have := this.2 hh; rw [hg] at this; exact absurd this (by simp)
          · exact hh
        rw [if_pos h0, if_neg (by simp)]
        simp only [abs, RSt.down, RSt.armed, RSt.after, RSt.acut, RSt.keep, RSt.bs, RSt.ws, DSt.down, DSt.armed, DSt.after, DSt.acut, DSt.keep, DSt.bs, DSt.ws, List.map_append, List.map_cons, List.map_nil, absW, cut_flat hs, h0]
theorem abs_flushF : ∀ (ws : List Wr) (bs : List Blk), rFlushF (bs.map List.flatten) (ws.map absW) = (flushF bs ws).map List.flatten
  | [], bs => rfl
  | w :: l, bs => by rw [List.map_cons, rFlushF, flushF, ← abs_flushF l, List.map_set]; rfl
theorem abs_flush {n : Nat} {d : DSt} (h : dOk n d) : rFlush (abs d) = (abs (dFlush d).1, (dFlush d).2) := by
  unfold rFlush dFlush
  rw [abs_goes h]
  show (if d.down = true then _ else _) = _
  split
  · rfl
  · have := goes_off d
    cases hg : (dGoes d).2.2 with
    | true =>
      simp only
      rw [if_neg (this.1 hg)]; rfl
    | false =>
      have h0 : (dGoes d).2.1 = 0 := by
        rcases Int.decEq (dGoes d).2.1 0 with hh | hh
        · have := this.2 hh; rw [hg] at this; exact absurd this (by simp)
        · exact hh
      simp only
      rw [if_pos h0]
      show (( _, _, _, _, _, rFlushF ((dGoes d).1.bs.map List.flatten) ((dGoes d).1.ws.map absW), _), _) = _
      rw [abs_flushF]; rfl
theorem abs_set (a : Int × Bool × List Int) (d : DSt) : rSet a (abs d) = (abs (dSet a d).1, (dSet a d).2) := by
  unfold rSet dSet
  show (if a.1 < 0 then _ else if d.down = true then _ else _) = _
  split
  · rfl
  split <;> rfl
theorem abs_crash {n : Nat} {d : DSt} (keep : List Int) (h : dOk n d) : rCrash keep (abs d) = (abs (dCrash keep d).1, (dCrash keep d).2) := by
  unfold rCrash dCrash
  show (if d.down = true then _ else _) = _
  split
  · rfl
  · rw [abs_fall h]
theorem abs_start (d : DSt) : rStart (abs d) = (abs (dStart d).1, (dStart d).2) := by
  unfold rStart dStart
  show (if d.down = false then _ else _) = _
  split <;> rfl
end Sp

theorem rectoref27_Disk_Write.ok (R : Int → Bool → Bool → Int → Bool → List Int → List (List UInt8) → List (Int × List UInt8) → Prop) (i : Int) (s : Str) (rdown rarmed : Bool) (rafter : Int) (racut : Bool) (rkeep : List Int) (rbs : List Str) (rws : List (Int × Str))
    (h : Sp.rWrite.pre i s (rdown, rarmed, rafter, racut, rkeep, rbs, rws)) (hR : Sp.ap (R (Sp.rWrite i s (rdown, rarmed, rafter, racut, rkeep, rbs, rws)).2) (Sp.rWrite i s (rdown, rarmed, rafter, racut, rkeep, rbs, rws)).1) : rectoref27_Disk_Write.vc R i s rdown rarmed rafter racut rkeep rbs rws := by
  obtain ⟨h, hs⟩ := h
  unfold rectoref27_Disk_Write.vc
  unfold Sp.rWrite at hR
  rw [cond_dec, cond_dec, cond_ndec]
  split
  · rename_i c1
    have hi : Sp.rIn i (rdown, rarmed, rafter, racut, rkeep, rbs, rws) = false := by unfold Sp.rIn; exact decide_eq_false (fun e => by omega)
    rw [if_pos (.inl hi)] at hR; exact hR
  split
  · rename_i c1 c2
    have hi : Sp.rIn i (rdown, rarmed, rafter, racut, rkeep, rbs, rws) = false := by unfold Sp.rIn; exact decide_eq_false (fun e => by have := e.2; simp only [Sp.RSt.bs] at this; omega)
    rw [if_pos (.inl hi)] at hR; exact hR
  · rename_i c1 c2
    have hi : Sp.rIn i (rdown, rarmed, rafter, racut, rkeep, rbs, rws) = true := Sp.r_in_iff.2 ⟨by omega, by simp only [Sp.RSt.bs]; omega⟩
    rw [hi] at hR
    split
    · rename_i c3
      have c3' : List.length s = 256 := by omega
      rw [if_neg (by simp [c3'])] at hR
      cases rdown with
      | true => exact hR
      | false =>
        rw [if_neg (by simp)] at hR
        refine ⟨h, ?_⟩
        have hg : (Sp.rGoes (false, rarmed, rafter, racut, rkeep, rbs, rws)).1.2.2.2.2.2.2.length ≤ 100000 := by
          have h3 := h.2.2.1
          unfold Sp.rGoes
          split
          · exact h3
          split
          · exact h3
          split
          · exact Nat.zero_le _
          · exact h3
        rw [cond_dec, gr_iff]
        split
        · rename_i c4
          rw [if_pos c4] at hR
          exact ⟨by omega, hR⟩
        · rename_i c4
          rw [if_neg c4] at hR
          exact hR
    · rename_i c3
      rw [if_pos (.inr (fun e => c3 (by omega)))] at hR
      exact hR

theorem rectoref27_Disk_Flush.ok (R : Int → Bool → Bool → Int → Bool → List Int → List (List UInt8) → List (Int × List UInt8) → Prop) (rdown rarmed : Bool) (rafter : Int) (racut : Bool) (rkeep : List Int) (rbs : List Str) (rws : List (Int × Str))
    (h : Sp.rPre (rdown, rarmed, rafter, racut, rkeep, rbs, rws)) (hR : Sp.ap (R (Sp.rFlush (rdown, rarmed, rafter, racut, rkeep, rbs, rws)).2) (Sp.rFlush (rdown, rarmed, rafter, racut, rkeep, rbs, rws)).1) : rectoref27_Disk_Flush.vc R rdown rarmed rafter racut rkeep rbs rws := by
  unfold rectoref27_Disk_Flush.vc
  unfold Sp.rFlush at hR
  cases rdown with
  | true => exact hR
  | false =>
    rw [if_neg (by simp)] at hR
    refine ⟨h, ?_⟩
    have hg : (Sp.rGoes (false, rarmed, rafter, racut, rkeep, rbs, rws)).2 = 0 → (Sp.rGoes (false, rarmed, rafter, racut, rkeep, rbs, rws)).1.bs = rbs ∧ (Sp.rGoes (false, rarmed, rafter, racut, rkeep, rbs, rws)).1.ws = rws := by
      unfold Sp.rGoes
      split
      · exact fun _ => ⟨rfl, rfl⟩
      split
      · exact fun _ => ⟨rfl, rfl⟩
      split
      · exact fun e => absurd e (by simp)
      · exact fun _ => ⟨rfl, rfl⟩
    obtain ⟨g1, g2, g3, g4, _⟩ := h
    simp only [Sp.RSt.bs, Sp.RSt.ws] at g1 g2 g3 g4
    generalize Sp.rGoes (false, rarmed, rafter, racut, rkeep, rbs, rws) = g at *
    obtain ⟨⟨down', armed', after', acut', keep', bs', ws'⟩, e⟩ := g
    rw [cond_dec]
    simp only [Sp.ap, Sp.RSt.down, Sp.RSt.armed, Sp.RSt.after, Sp.RSt.acut, Sp.RSt.keep, Sp.RSt.bs, Sp.RSt.ws] at hR hg ⊢
    split
    · rename_i c1
      rw [if_pos c1] at hR
      obtain ⟨rfl, rfl⟩ := hg c1
      refine Lp_rule (fun v => ∃ (p : Nat) (cs : List Str), v = (e, (ws'.length : Int), (p : Int), down', armed', after', acut', keep', cs, ws', ()) ∧ p ≤ ws'.length ∧ cs.length = bs'.length ∧ Sp.rFlushF cs (ws'.drop p) = Sp.rFlushF bs' ws')
        (fun v => ws'.length - v.2.2.1.toNat) ?_ ⟨0, bs', rfl, Nat.zero_le _, rfl, rfl⟩
      rintro _ K ⟨p, cs, rfl, hp, hcl, hf⟩ hK
      simp only [rectoref27_Disk_Flush.L0, cond_dec, ix_iff, rg64]
      split
      · rename_i c1
        have hp' : p < ws'.length := by omega
        have hd := drop_cons (d := ((0 : Int), ([] : Str))) hp'
        have hmem := Sp.nth_get (l := ws') (d := ((0 : Int), ([] : Str))) (show 0 ≤ (p : Int) by omega) (by omega)
        have hwb := g4 _ hmem
        generalize nth ws' (p : Int) ((0 : Int), ([] : Str)) = w at *
        rw [hd, Sp.rFlushF] at hf
        exact ⟨by omega, by omega, by omega, hK _ ⟨p + 1, _, rfl, by omega, by simp [hcl], hf⟩ (by simp; omega)⟩
      · have : p = ws'.length := by omega
        subst this
        rw [List.drop_length, Sp.rFlushF] at hf
        rw [hf]
        exact hR
    · rename_i c1
      rw [if_neg c1] at hR
      exact hR

theorem rectoref27_Disk_Set.ok (R : Int → Bool → Bool → Int → Bool → List Int → List (List UInt8) → List (Int × List UInt8) → Prop) (a : Int × (Bool × (List Int))) (rdown rarmed : Bool) (rafter : Int) (racut : Bool) (rkeep : List Int) (rbs : List Str) (rws : List (Int × Str))
    (_ : Sp.rSet.pre a (rdown, rarmed, rafter, racut, rkeep, rbs, rws)) (hR : Sp.ap (R (Sp.rSet a (rdown, rarmed, rafter, racut, rkeep, rbs, rws)).2) (Sp.rSet a (rdown, rarmed, rafter, racut, rkeep, rbs, rws)).1) : rectoref27_Disk_Set.vc R a rdown rarmed rafter racut rkeep rbs rws := by
  unfold rectoref27_Disk_Set.vc
  unfold Sp.rSet at hR
  rw [cond_dec]
  split
  · rename_i c1; rw [if_pos c1] at hR; exact hR
  · rename_i c1
    rw [if_neg c1] at hR
    cases rdown with
    | true => exact hR
    | false => exact hR
theorem rectoref27_Disk_Crash.ok (R : Int → Bool → Bool → Int → Bool → List Int → List (List UInt8) → List (Int × List UInt8) → Prop) (keep_ : List Int) (rdown rarmed : Bool) (rafter : Int) (racut : Bool) (rkeep : List Int) (rbs : List Str) (rws : List (Int × Str))
    (h : Sp.rFall.pre keep_ (rdown, rarmed, rafter, racut, rkeep, rbs, rws)) (hR : Sp.ap (R (Sp.rCrash keep_ (rdown, rarmed, rafter, racut, rkeep, rbs, rws)).2) (Sp.rCrash keep_ (rdown, rarmed, rafter, racut, rkeep, rbs, rws)).1) : rectoref27_Disk_Crash.vc R keep_ rdown rarmed rafter racut rkeep rbs rws := by
  unfold Sp.rCrash at hR
  cases rdown with
  | true => exact hR
  | false => exact ⟨h, hR⟩
theorem rectoref27_Disk_Start.ok (R : Int → Bool → Bool → Int → Bool → List Int → List (List UInt8) → List (Int × List UInt8) → Prop) (rdown rarmed : Bool) (rafter : Int) (racut : Bool) (rkeep : List Int) (rbs : List Str) (rws : List (Int × Str))
    (_ : Sp.rPre (rdown, rarmed, rafter, racut, rkeep, rbs, rws)) (hR : Sp.ap (R (Sp.rStart (rdown, rarmed, rafter, racut, rkeep, rbs, rws)).2) (Sp.rStart (rdown, rarmed, rafter, racut, rkeep, rbs, rws)).1) : rectoref27_Disk_Start.vc R rdown rarmed rafter racut rkeep rbs rws := by
  unfold Sp.rStart at hR
  cases rdown with
  | true => exact hR
  | false => exact hR


namespace Sp
abbrev q7 {α β γ : Type} (d : Bool × Bool × Int × Bool × List Int × List α × List β) (r : γ) : Bool × Bool × Int × Bool × List Int × List α × List β × γ := (d.1, d.2.1, d.2.2.1, d.2.2.2.1, d.2.2.2.2.1, d.2.2.2.2.2.1, d.2.2.2.2.2.2, r)
theorem dOk_up {n : Nat} {d : DSt} (h : dOk n d) (hn : n ≤ 100000) : dPre d := ⟨h.1, h.2.1, by have := h.2.2.1; omega, h.2.2.2⟩
theorem dOk_le {n m : Nat} {d : DSt} (h : dOk n d) (hn : n ≤ m) : dOk m d := ⟨h.1, h.2.1, by have := h.2.2.1; omega, h.2.2.2⟩
theorem rOk_up {n : Nat} {d : RSt} (h : rOk n d) (hn : n ≤ 100000) : rPre d := ⟨h.1, h.2.1, by have := h.2.2.1; omega, h.2.2.2⟩
theorem new_ok {n : Int} (h : n ≤ 1000) : dOk 0 (dNew n) := by
  refine ⟨by simp [dNew, DSt.bs]; omega, fun b hb => ?_, Nat.le_refl _, fun w hw => absurd hw List.not_mem_nil, by show (-9223372036854775808 : Int) ≤ 0; omega, by show (0 : Int) ≤ 9223372036854775807; omega, Nat.zero_le _⟩
  have : b = zeroB := List.eq_of_mem_replicate hb
  rw [this]; exact zeroB_ok
theorem zero_flat : zeroB.flatten = List.replicate 256 (0 : UInt8) := by decide +kernel
theorem abs_new (n : Int) : abs (dNew n) = rNew n := by
  show (false, false, 0, false, [], (List.replicate n.toNat zeroB).map List.flatten, ([] : List Wr).map absW) = _
  rw [List.map_replicate, zero_flat]; rfl
theorem goes_bs {n : Nat} {d : DSt} (h : dOk n d) : (dGoes d).1.bs.length = d.bs.length := by
  unfold dGoes
  split
  · rfl
  split
  · rfl
  split
  · rfl
  · exact (fallF_ok (keep := d.keep) (k := 0) h.2.1 h.2.2.2.1).1
theorem write_bs {n : Nat} {d : DSt} (i : Int) (s : Str) (h : dOk n d) : (dWrite i s d).1.bs.length = d.bs.length := by
  unfold dWrite
  split
  · rfl
  split
  · rfl
  split
  · exact goes_bs h
  · exact goes_bs h
theorem flush_bs {n : Nat} {d : DSt} (h : dOk n d) : (dFlush d).1.bs.length = d.bs.length := by
  unfold dFlush
  split
  · rfl
  · have hg := (dGoes_ok h).1
    cases (dGoes d).2.2 with
    | true => exact goes_bs h
    | false =>
      have := (flushF_ok (ws := (dGoes d).1.ws) hg.2.1 (fun w hw => (hg.2.2.2.1 w hw).2.2)).1
      exact this.trans (goes_bs h)
theorem lasts_abs {d : DSt} {i : Int} (h0 : 0 ≤ i) (h1 : i < d.bs.length) : dLasts i d = nth (abs d).bs i [] := by
  unfold dLasts
  rw [if_neg (by rw [in_iff.2 ⟨h0, h1⟩]; simp)]
  exact (nth_map List.flatten (l := d.bs) ([] : Blk) ([] : Str) h0 h1).symm
end Sp

namespace Sp
theorem t0 : dOk 0 (dNew 4) := new_ok (by omega)
theorem write_ok {n : Nat} {d : DSt} {i : Int} {s : Str} (h : dOk n d) (ha : -9223372036854775808 ≤ i ∧ i ≤ 9223372036854775807) (hs : s.length = 256) : dOk (n + 1) (dWrite i s d).1 := by
  have wk : ∀ {d : DSt}, dOk n d → dOk (n + 1) d := fun h => dOk_le h (by omega)
  have hg := (dGoes_ok h).1
  unfold dWrite
  split
  · exact wk h
  split
  · exact wk h
  split
  · exact wk hg
  · rename_i c1 c2 c3
    obtain ⟨h1, h2, h3, h4, h5, h6, h7⟩ := hg
    have hi : inD i d = true := by
      cases hi : inD i d with
      | true => rfl
      | false => exact absurd (.inl hi) c1
    have hi' := in_iff.1 hi
    have hbl := goes_bs h
    refine ⟨h1, h2, by simp only [DSt.ws, List.length_append, List.length_cons, List.length_nil] at h3 ⊢; omega, fun w hw => ?_, h5, h6, h7⟩
    rcases List.mem_append.1 hw with hw | hw
    · exact h4 w hw
    · rw [List.mem_singleton] at hw
      subst hw
      exact ⟨hi'.1, by have := hi'.2; show i < ((dGoes d).1.bs.length : Int); omega, cutB_ok hs⟩
theorem crash_ok {n : Nat} {d : DSt} (keep : List Int) (h : dOk n d) : dOk n (dCrash keep d).1 := by
  unfold dCrash
  split
  · exact h
  · exact dFall_ok h
theorem start_ok {n : Nat} {d : DSt} (h : dOk n d) : dOk n (dStart d).1 := by
  unfold dStart
  split
  · exact h
  · exact h
theorem flush_ok {n : Nat} {d : DSt} (h : dOk n d) : dOk n (dFlush d).1 := by
  unfold dFlush
  split
  · exact h
  · obtain ⟨h1, h2, h3, h4, h5, h6, h7⟩ := (dGoes_ok h).1
    cases (dGoes d).2.2 with
    | true => exact ⟨h1, h2, Nat.zero_le _, fun w hw => absurd hw List.not_mem_nil, h5, h6, h7⟩
    | false =>
      have := flushF_ok (ws := (dGoes d).1.ws) h2 (fun w hw => (h4 w hw).2.2)
      exact ⟨by show (flushF (dGoes d).1.bs (dGoes d).1.ws).length ≤ 1000; rw [this.1]; exact h1, this.2, Nat.zero_le _, fun w hw => absurd hw List.not_mem_nil, h5, h6, h7⟩
end Sp

namespace Sp
theorem mk_eta {α β : Type} (x : α × β) : (x.1, x.2) = x := rfl
end Sp

namespace Sp
theorem new_write {n i : Int} {s : Str} (h0 : 0 ≤ i) (h1 : i < n) (hs : s.length = 256) : dWrite i s (dNew n) = ((false, false, 0, false, [], List.replicate n.toNat zeroB, [(i, cutB s)]), 0) := by
  have hi : inD i (dNew n) = true := in_iff.2 ⟨h0, by show i < (((List.replicate n.toNat zeroB).length : Nat) : Int); rw [List.length_replicate]; omega⟩
  unfold dWrite
  rw [if_neg (by rw [hi, hs]; simp), if_neg (by simp [dNew, DSt.down]), if_neg (by simp [dGoes, dNew, DSt.armed])]
  rfl
end Sp

namespace Sp
theorem abs_bs_len (d : DSt) : (abs d).bs.length = d.bs.length := by show (d.bs.map List.flatten).length = _; rw [List.length_map]
end Sp

namespace Sp
end Sp
