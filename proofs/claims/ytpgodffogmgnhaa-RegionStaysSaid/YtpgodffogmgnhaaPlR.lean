/- A journal that lasts: what is told, shown of the conditions. Plain theorems. -/
import Derived.Test.YtpgodffogmgnhaaVcR
import Derived.Test.YtpgodffogmgnhaaPlL
import Derived.Test.YtpgodffogmgnhaaPlS
set_option linter.unnecessarySimpa false
set_option linter.unusedVariables false
set_option linter.unusedSectionVars false
set_option linter.unusedSimpArgs false
set_option autoImplicit false
open Go Vi

namespace Sp
theorem gPre_up {d : DSt} (h : gPre d) : dPre d := dOk_up h.1 (by omega)
theorem gPre_9 {d : DSt} (h : gPre d) : dOk 90000 d := dOk_le h.1 (by omega)
theorem half_range {d : DSt} (h : gPre d) : 1 ≤ halfD d ∧ halfD d ≤ 63 ∧ 2 + 2 * halfD d ≤ d.bs.length ∧ halfD d = ((d.bs.length : Int) - 2) / 2 := by
  obtain ⟨_, h2, h3⟩ := h
  unfold halfD mx
  omega
theorem op_lOk {f n s : Int} {d : DSt} {m : Nat} (hd : dOk m d) (hf : f ≤ 1000) (hn : n ≤ 1000) (h : opErr f n s d = 0) : lOk (f, n, opS f s d, s) ∧ ((opS f s d).length : Int) = s ∧ wholeB (opS f s d) = true := by
  unfold opErr at h
  split at h
  · omega
  rename_i c1
  split at h
  · rename_i c; exact absurd h c
  rename_i c2
  split at h
  · omega
  rename_i c3
  have c1 : ¬ (f < 0 ∨ n < 1 ∨ d.bs.length < n ∨ d.bs.length - n < f ∨ s < 0 ∨ n * 256 < s) := by
    unfold opBad at c1
    exact fun q => c1 (decide_eq_true q)
  have hbl := blocksOf_nat (n := s) (by omega)
  have hl : (opS f s d).length = s.toNat := by
    unfold opS opRd at *
    have := rd_len hd (blocksOf s).toNat f (by omega)
    rw [List.length_take, this]
    omega
  refine ⟨?_, by omega, ?_⟩
  · unfold lOk
    simp only [LSt.frm, LSt.blocks, LSt.b, LSt.sealed]
    omega
  · unfold opS
    cases hw : wholeB ((opRd f s d).1.take s.toNat) with
    | true => rfl
    | false => exact absurd hw c3
theorem rg_lOk {r s : Int} {d : DSt} (hd : gPre d) (hr : 0 ≤ r ∧ r ≤ 1) (h : rgErr r s d = 0) : lOk (rgF r d, halfD d, rgS r s d, s) := by
  have hh := half_range hd
  have hf : rgF r d ≤ 1000 := by
    unfold rgF
    have : r = 0 ∨ r = 1 := by omega
    rcases this with rfl | rfl <;> omega
  exact (op_lOk hd.1 hf (by omega) h).1
theorem rgNil_of {r s : Int} {d : DSt} (h : rgErr r s d = 0) : rgNil r s d = false := by
  have h : opErr (rgF r d) (halfD d) s d = 0 := h
  unfold rgNil opNil; rw [decide_eq_true h]; rfl
theorem rgNil_ne {r s : Int} {d : DSt} (h : ¬ rgErr r s d = 0) : rgNil r s d = true := by
  have h : ¬ opErr (rgF r d) (halfD d) s d = 0 := h
  unfold rgNil opNil; rw [decide_eq_false h]; rfl
theorem choose_range {d : DSt} (h : (chooseS d).2.2 = 0) : 0 ≤ (chooseS d).1.2.1 ∧ (chooseS d).1.2.1 ≤ 1 ∧ 0 ≤ (chooseS d).1.2.2.1 ∧ (chooseS d).1.2.2.1 ≤ 65536 ∧ 0 ≤ (chooseS d).1.2.2.2 ∧ (chooseS d).1.2.2.2 ≤ 65536 := by
  have key (a b : Slot × Bool) (ha : a.2 = true → rightS a.1 = true) (hb : b.2 = true → rightS b.1 = true) (h : (choose2 a b).2.2 = 0) : rightS (choose2 a b).1 = true := by
    unfold choose2 at h ⊢
    split at h
    · simp at h
    rename_i c1
    rw [if_neg c1]
    split
    · rename_i c2
      refine hb ?_
      cases e : b.2 with
      | true => rfl
      | false => rcases c2 with c2 | c2
                 · exact absurd ⟨c2, e⟩ c1
                 · rw [e] at c2; simp at c2
    · rename_i c2
      refine ha ?_
      cases e : a.2 with
      | true => rfl
      | false => exact absurd (.inl e) c2
  have rd (b : Str) : (readS b).2 = true → rightS (readS b).1 = true := by
    intro h
    rcases readS_cases b with e | ⟨x, e, hx, _⟩
    · rw [e] at h; simp at h
    · rw [e]; exact hx
  unfold chooseS at h ⊢
  split at h
  · rename_i c; exact absurd h c
  rename_i c1
  split at h
  · rename_i c; exact absurd h c
  rename_i c2
  rw [if_neg c1, if_neg c2]
  have := rightS_iff.1 (key _ _ (rd _) (rd _) h)
  omega
theorem lFill_ok : ∀ {recs : List Str} {l : LSt}, lOk l → lOk (lFill recs l).1
  | [], _, h => h
  | s :: r, l, h => by
    rw [lFill]
    split
    · exact lAdd_ok h
    · exact lFill_ok (lAdd_ok h)
theorem wrF_okg {l : LSt} (h1 : 0 ≤ l.frm) (h2 : l.frm ≤ 1000) : ∀ (k : Nat) (i : Nat) {n : Nat} {d : DSt}, i + k ≤ 1000 → dOk n d → dOk (n + k) (wrF l k (i : Int) d).1 ∧ (wrF l k (i : Int) d).1.bs.length = d.bs.length
  | 0, i, n, d, _, h => ⟨h, rfl⟩
  | k + 1, i, n, d, hk, h => by
    have hw := write_ok (i := l.frm + (i : Int)) h (by omega) (page_len l.b (i : Int))
    have hb := write_bs (l.frm + (i : Int)) (pageB l.b (i : Int)) h
    rw [wrF]
    split
    · exact ⟨dOk_le hw (by omega), hb⟩
    · rw [show ((i : Int) + 1) = ((i + 1 : Nat) : Int) by omega]
      have := wrF_okg h1 h2 k (i + 1) (by omega) hw
      exact ⟨dOk_le this.1 (by omega), this.2.trans hb⟩
theorem lWrite_okg {l : LSt} {n : Nat} {d : DSt} (hl : lOk l) (h : dOk n d) : dOk (n + 1000) (lWrite l d).1 ∧ (lWrite l d).1.bs.length = d.bs.length := by
  obtain ⟨h1, h2, h3, h4, h5, h6, h7⟩ := hl
  have hbl := blocksOf_nat (n := (l.b.length : Int)) (by omega)
  unfold lWrite
  split
  · obtain ⟨i0, hi0⟩ : ∃ i0 : Nat, l.sealed / 256 = i0 := ⟨(l.sealed / 256).toNat, by omega⟩
    rw [hi0]
    have := wrF_okg h1 h2 (blocksOf (l.b.length : Int) - (i0 : Int)).toNat i0 (by omega) h
    exact ⟨dOk_le this.1 (by omega), this.2⟩
  · exact ⟨dOk_le h (by omega), rfl⟩
theorem put_bs {n : Nat} {d : DSt} (s : Slot) (h : dOk n d) : (putS s d).1.bs.length = d.bs.length := by
  unfold putS
  split
  · rfl
  split
  · rfl
  rename_i c1 c2
  have hr : rightS (nextS (chooseS d).1 s) = true := by cases e : rightS (nextS (chooseS d).1 s) with | true => rfl | false => exact absurd e c2
  have hcf := choose_facts (d := d) (by omega)
  have hw := write_ok (i := 1 - (chooseS d).2.1) h (by omega) (plainS_len hr)
  have hb := write_bs (1 - (chooseS d).2.1) (plainS (nextS (chooseS d).1 s)) h
  split
  · exact hb
  · exact (flush_bs hw).trans hb
theorem format_bs {n : Nat} {d : DSt} (h : dOk n d) : (formatS d).1.bs.length = d.bs.length := by
  have w1 := write_ok (i := 0) h (by omega) first_len
  have w2 := write_ok (i := 1) w1 (by omega) pad0_len
  have b1 := write_bs 0 firstS h
  have b2 := write_bs 1 (padS []) w1
  unfold formatS
  split
  · exact b1
  split
  · exact b2.trans b1
  · exact (flush_bs w2).trans (b2.trans b1)
theorem jLast_ok {n : Nat} {l : LSt} {r : Int} {d : DSt} (hl : lOk l) (h : dOk n d) : dOk (n + 1001) (jLast l r d).1 ∧ (jLast l r d).1.bs.length = d.bs.length := by
  have hw := lWrite_okg hl h
  have hf := flush_ok hw.1
  have hfb := flush_bs hw.1
  unfold jLast
  split
  · exact ⟨dOk_le hw.1 (by omega), hw.2⟩
  split
  · exact ⟨dOk_le hf (by omega), hfb.trans hw.2⟩
  · exact ⟨dOk_le (put_ok _ hf) (by omega), (put_bs _ hf).trans (hfb.trans hw.2)⟩
end Sp

theorem region_rows_half.ok (R : Int → Bool → Bool → Int → Bool → List Int → List (List (List UInt8)) → List (Int × List (List UInt8)) → Prop) (down armed : Bool) (after : Int) (acut : Bool) (keep : List Int) (bs : List (List Str)) (ws : List (Int × List Str)) (h : Sp.gPre (down, armed, after, acut, keep, bs, ws))
    (hR : R (Sp.halfD (down, armed, after, acut, keep, bs, ws)) down armed after acut keep bs ws) : region_rows_half.vc R down armed after acut keep bs ws := by
  have hp := Sp.gPre_up h
  obtain ⟨h1, h2, h3⟩ := h
  have h2 : 4 ≤ bs.length := h2
  have h3 : bs.length ≤ 128 := h3
  refine ⟨hp, ?_, ?_, hR⟩
  · rw [rg64]; show -9223372036854775808 ≤ (bs.length : Int) - 2 ∧ (bs.length : Int) - 2 ≤ 9223372036854775807; omega
  · rw [dv_iff]; show 0 ≤ (bs.length : Int) - 2 ∧ (0 : Int) < 2; omega
theorem region_rows_open.ok (R0 : Int → Bool → Bool → Int → Bool → List Int → List (List (List UInt8)) → List (Int × List (List UInt8)) → Prop) (R1 : Int → Bool → Bool → Int → Bool → List Int → List (List (List UInt8)) → List (Int × List (List UInt8)) → Int → Int → List UInt8 → Int → Prop) (rg se : Int) (down armed : Bool) (after : Int) (acut : Bool) (keep : List Int) (bs : List (List Str)) (ws : List (Int × List Str))
    (h : Sp.rgPre rg se (down, armed, after, acut, keep, bs, ws)) (h0 : Sp.rgNil rg se (down, armed, after, acut, keep, bs, ws) = true → R0 (Sp.rgErr rg se (down, armed, after, acut, keep, bs, ws)) down armed after acut keep bs ws)
    (h1 : Sp.rgNil rg se (down, armed, after, acut, keep, bs, ws) = false → R1 0 down armed after acut keep bs ws (Sp.rgF rg (down, armed, after, acut, keep, bs, ws)) (Sp.halfD (down, armed, after, acut, keep, bs, ws)) (Sp.rgS rg se (down, armed, after, acut, keep, bs, ws)) se) : region_rows_open.vc R0 R1 rg se down armed after acut keep bs ws := by
  obtain ⟨hg, hr1, hr2, hs1, hs2⟩ := h
  have hh := Sp.half_range hg
  have hm : 0 ≤ rg * Sp.halfD (down, armed, after, acut, keep, bs, ws) ∧ rg * Sp.halfD (down, armed, after, acut, keep, bs, ws) ≤ 63 := by
    have : rg = 0 ∨ rg = 1 := by omega
    rcases this with rfl | rfl <;> omega
  refine ⟨hg, by rw [rg64]; omega, by rw [rg64]; omega, hg, Sp.gPre_9 hg, ?_⟩
  exact condP h0 h1
theorem region_Open.ok (R0 : Int → Bool → Bool → Int → Bool → List Int → List (List (List UInt8)) → List (Int × List (List UInt8)) → Prop) (R1 : Int → Bool → Bool → Int → Bool → List Int → List (List (List UInt8)) → List (Int × List (List UInt8)) → Int → Int → Int → List UInt8 → Int → Prop) (down armed : Bool) (after : Int) (acut : Bool) (keep : List Int) (bs : List (List Str)) (ws : List (Int × List Str))
    (h : Sp.gPre (down, armed, after, acut, keep, bs, ws)) (h0 : Sp.joNil (down, armed, after, acut, keep, bs, ws) = true → R0 (Sp.joErr (down, armed, after, acut, keep, bs, ws)) down armed after acut keep bs ws)
    (h1 : Sp.joNil (down, armed, after, acut, keep, bs, ws) = false → R1 0 down armed after acut keep bs ws (Sp.joR (down, armed, after, acut, keep, bs, ws)) (Sp.joL (down, armed, after, acut, keep, bs, ws)).1 (Sp.joL (down, armed, after, acut, keep, bs, ws)).2.1 (Sp.joL (down, armed, after, acut, keep, bs, ws)).2.2.1 (Sp.joL (down, armed, after, acut, keep, bs, ws)).2.2.2) : region_Open.vc R0 R1 down armed after acut keep bs ws := by
  unfold region_Open.vc
  unfold Sp.joNil at h0 h1
  generalize hd : ((down, armed, after, acut, keep, bs, ws) : Sp.DSt) = d at *
  refine ⟨Sp.gPre_up h, ?_⟩
  have h0 : ∀ e : Int, ¬ e = 0 → Sp.joErr d = e → R0 e down armed after acut keep bs ws := fun e he hj => by
    rw [hj, decide_eq_false he] at h0; exact h0 rfl
  have h1 : Sp.joErr d = 0 → R1 0 down armed after acut keep bs ws (Sp.joR d) (Sp.joL d).1 (Sp.joL d).2.1 (Sp.joL d).2.2.1 (Sp.joL d).2.2.2 := fun hj => by
    rw [hj] at h1; exact h1 rfl
  unfold Sp.joErr at h0 h1
  rw [cond_ndec]
  split
  case isFalse =>
    rename_i c
    exact h0 _ c (if_pos c)
  rename_i c1
  have c1 : (Sp.chooseS d).2.2 = 0 := c1
  rw [if_neg (fun q => q c1)] at h0 h1
  have hr := Sp.choose_range c1
  refine ⟨⟨h, by omega, by omega, by omega, by omega⟩, ?_⟩
  by_cases c2 : Sp.rgErr (Sp.chooseS d).1.2.1 (Sp.chooseS d).1.2.2.1 d = 0
  · rw [Sp.rgNil_of c2]
    show _ ∧ _
    refine ⟨Sp.rg_lOk h ⟨hr.1, hr.2.1⟩ c2, ?_⟩
    rw [if_neg (by omega), if_neg (fun q => q c2)] at h0 h1
    rw [cond_ndec]
    split
    · rename_i c3
      exact h1 (if_neg (fun q => q c3))
    · rename_i c3
      exact h0 290 (by omega) (if_pos c3)
  · rw [Sp.rgNil_ne c2, cond_true, cond_dec]
    split
    · rename_i c3
      exact h0 290 (by omega) (if_pos c3)
    · rename_i c3
      rw [cond_ndec, if_neg c2]
      exact h0 _ c2 (by rw [if_neg c3, if_pos c2])
theorem region_Format.ok (R0 : Int → Bool → Bool → Int → Bool → List Int → List (List (List UInt8)) → List (Int × List (List UInt8)) → Prop) (R1 : Int → Bool → Bool → Int → Bool → List Int → List (List (List UInt8)) → List (Int × List (List UInt8)) → Int → Int → Int → List UInt8 → Int → Prop) (down armed : Bool) (after : Int) (acut : Bool) (keep : List Int) (bs : List (List Str)) (ws : List (Int × List Str))
    (h : Sp.jfPre (down, armed, after, acut, keep, bs, ws)) (h0 : Sp.jfNil (down, armed, after, acut, keep, bs, ws) = true → Sp.ap (R0 (Sp.jfErr (down, armed, after, acut, keep, bs, ws))) (Sp.formatS (down, armed, after, acut, keep, bs, ws)).1)
    (h1 : Sp.jfNil (down, armed, after, acut, keep, bs, ws) = false → R1 0 (Sp.formatS (down, armed, after, acut, keep, bs, ws)).1.1 (Sp.formatS (down, armed, after, acut, keep, bs, ws)).1.2.1 (Sp.formatS (down, armed, after, acut, keep, bs, ws)).1.2.2.1 (Sp.formatS (down, armed, after, acut, keep, bs, ws)).1.2.2.2.1 (Sp.formatS (down, armed, after, acut, keep, bs, ws)).1.2.2.2.2.1 (Sp.formatS (down, armed, after, acut, keep, bs, ws)).1.2.2.2.2.2.1 (Sp.formatS (down, armed, after, acut, keep, bs, ws)).1.2.2.2.2.2.2 (Sp.joR (Sp.formatS (down, armed, after, acut, keep, bs, ws)).1) (Sp.joL (Sp.formatS (down, armed, after, acut, keep, bs, ws)).1).1 (Sp.joL (Sp.formatS (down, armed, after, acut, keep, bs, ws)).1).2.1 (Sp.joL (Sp.formatS (down, armed, after, acut, keep, bs, ws)).1).2.2.1 (Sp.joL (Sp.formatS (down, armed, after, acut, keep, bs, ws)).1).2.2.2) : region_Format.vc R0 R1 down armed after acut keep bs ws := by
  unfold region_Format.vc
  unfold Sp.jfNil Sp.jfErr at h0 h1
  generalize hd : ((down, armed, after, acut, keep, bs, ws) : Sp.DSt) = d at *
  obtain ⟨hk, hl1, hl2⟩ := h
  refine ⟨Sp.dOk_le hk (by omega), ?_⟩
  have hfo := Sp.format_ok hk
  have hfb := Sp.format_bs hk
  rw [cond_ndec]
  split
  case isFalse =>
    rename_i c
    rw [if_pos c, decide_eq_false c] at h0
    exact h0 rfl
  rename_i c1
  rw [if_neg (fun q => q c1)] at h0 h1
  refine ⟨⟨Sp.dOk_le hfo (by omega), by omega, by omega⟩, ?_⟩
  unfold Sp.joNil
  exact condP h0 h1
theorem region_fill.ok (R : Int → RL) (recs : List Str) (from_ blocks : Int) (b : Str) (sealed : Int) (down armed : Bool) (after : Int) (acut : Bool) (keep : List Int) (bs : List (List Str)) (ws : List (Int × List Str)) (h : Sp.flPre recs (from_, blocks, b, sealed))
    (hR : R (Sp.lFill recs (from_, blocks, b, sealed)).2 (Sp.lFill recs (from_, blocks, b, sealed)).1.1 (Sp.lFill recs (from_, blocks, b, sealed)).1.2.1 (Sp.lFill recs (from_, blocks, b, sealed)).1.2.2.1 (Sp.lFill recs (from_, blocks, b, sealed)).1.2.2.2 down armed after acut keep bs ws) : region_fill.vc R recs from_ blocks b sealed down armed after acut keep bs ws := by
  obtain ⟨hl, hn⟩ := h
  generalize hd : ((from_, blocks, b, sealed) : Sp.LSt) = l0 at *
  have e0 : from_ = l0.1 ∧ blocks = l0.2.1 ∧ b = l0.2.2.1 ∧ sealed = l0.2.2.2 := by subst hd; exact ⟨rfl, rfl, rfl, rfl⟩
  obtain ⟨rfl, rfl, rfl, rfl⟩ := e0
  refine Lp_rule (fun v => ∃ (p : Nat) (l : Sp.LSt), v = (recs, (recs.length : Int), (p : Int), l.1, l.2.1, l.2.2.1, l.2.2.2, down, armed, after, acut, keep, bs, ws, ()) ∧ p ≤ recs.length ∧ Sp.lOk l ∧ Sp.lFill (recs.drop p) l = Sp.lFill recs l0) (fun v => recs.length - v.2.2.1.toNat) ?_
    ⟨0, l0, rfl, Nat.zero_le _, hl, rfl⟩
  rintro _ K ⟨p, l, rfl, hp, hlo, he⟩ hK
  show region_fill.L0 R recs (recs.length : Int) (p : Int) l.1 l.2.1 l.2.2.1 l.2.2.2 down armed after acut keep bs ws K
  unfold region_fill.L0
  simp only [Sp.mk_eta]
  rw [cond_dec]
  split
  · rename_i c1
    rw [drop_cons (d := ([] : Str)) (show p < recs.length by omega), Sp.lFill] at he
    refine ⟨by rw [ix_iff]; omega, hlo, ?_⟩
    rw [cond_ndec]
    split
    · rename_i c2
      rw [if_neg (fun q => q c2)] at he
      exact ⟨by rw [rg64]; omega, hK _ ⟨p + 1, _, rfl, by omega, Sp.lAdd_ok hlo, he⟩ (by simp; omega)⟩
    · rename_i c2
      rw [if_pos c2] at he
      rw [← he] at hR
      exact hR
  · have : p = recs.length := by omega
    subst this
    rw [List.drop_length, Sp.lFill] at he
    rw [← he] at hR
    exact hR

theorem region_Journal_last.ok (R : Int → Int → RL) (rg reg from_ blocks : Int) (b : Str) (sealed : Int) (down armed : Bool) (after : Int) (acut : Bool) (keep : List Int) (bs : List (List Str)) (ws : List (Int × List Str)) (h : Sp.jOk (from_, blocks, b, sealed) rg (down, armed, after, acut, keep, bs, ws))
    (hR : Sp.ap (R (Sp.jLast (from_, blocks, b, sealed) rg (down, armed, after, acut, keep, bs, ws)).2 reg from_ blocks b sealed) (Sp.jLast (from_, blocks, b, sealed) rg (down, armed, after, acut, keep, bs, ws)).1) : region_Journal_last.vc R rg reg from_ blocks b sealed down armed after acut keep bs ws := by
  obtain ⟨hl, hg, _, _⟩ := h
  unfold region_Journal_last.vc
  unfold Sp.jLast at hR
  have hw := Sp.lWrite_okg hl hg.1
  refine ⟨⟨hl, Sp.gPre_9 hg⟩, ?_⟩
  rw [cond_ndec]
  split
  case isFalse => rename_i c; rw [if_pos c] at hR; exact hR
  rename_i c1
  rw [if_neg (fun q => q c1)] at hR
  refine ⟨Sp.dOk_up hw.1 (by omega), ?_⟩
  rw [cond_ndec]
  split
  case isFalse => rename_i c; rw [if_pos c] at hR; exact hR
  rename_i c2
  rw [if_neg (fun q => q c2)] at hR
  exact ⟨hl, Sp.dOk_le (Sp.flush_ok hw.1) (by omega), hR⟩
theorem region_last_new.ok (R : Int → Int → Int → Int → Str → Int → RL) (rg reg nfrom_ nblocks : Int) (nb : Str) (nsealed from_ blocks : Int) (b : Str) (sealed : Int) (down armed : Bool) (after : Int) (acut : Bool) (keep : List Int) (bs : List (List Str)) (ws : List (Int × List Str)) (h : Sp.jOk (nfrom_, nblocks, nb, nsealed) rg (down, armed, after, acut, keep, bs, ws))
    (hR : Sp.ap (R (Sp.jLast (nfrom_, nblocks, nb, nsealed) rg (down, armed, after, acut, keep, bs, ws)).2 reg nfrom_ nblocks nb nsealed from_ blocks b sealed) (Sp.jLast (nfrom_, nblocks, nb, nsealed) rg (down, armed, after, acut, keep, bs, ws)).1) : region_last_new.vc R rg reg nfrom_ nblocks nb nsealed from_ blocks b sealed down armed after acut keep bs ws := by
  obtain ⟨hl, hg, _, _⟩ := h
  unfold region_last_new.vc
  unfold Sp.jLast at hR
  have hw := Sp.lWrite_okg hl hg.1
  refine ⟨⟨hl, Sp.gPre_9 hg⟩, ?_⟩
  rw [cond_ndec]
  split
  case isFalse => rename_i c; rw [if_pos c] at hR; exact hR
  rename_i c1
  rw [if_neg (fun q => q c1)] at hR
  refine ⟨Sp.dOk_up hw.1 (by omega), ?_⟩
  rw [cond_ndec]
  split
  case isFalse => rename_i c; rw [if_pos c] at hR; exact hR
  rename_i c2
  rw [if_neg (fun q => q c2)] at hR
  exact ⟨hl, Sp.dOk_le (Sp.flush_ok hw.1) (by omega), hR⟩
theorem region_Journal_Commit.ok (R : Int → Int → RL) (recs : List Str) (reg from_ blocks : Int) (b : Str) (sealed : Int) (down armed : Bool) (after : Int) (acut : Bool) (keep : List Int) (bs : List (List Str)) (ws : List (Int × List Str)) (h : Sp.jcPre recs (from_, blocks, b, sealed) reg (down, armed, after, acut, keep, bs, ws))
    (hR : Sp.ap (R (Sp.jcE recs (from_, blocks, b, sealed) reg (down, armed, after, acut, keep, bs, ws)) reg (Sp.jcL recs (from_, blocks, b, sealed) reg (down, armed, after, acut, keep, bs, ws)).1 (Sp.jcL recs (from_, blocks, b, sealed) reg (down, armed, after, acut, keep, bs, ws)).2.1 (Sp.jcL recs (from_, blocks, b, sealed) reg (down, armed, after, acut, keep, bs, ws)).2.2.1 (Sp.jcL recs (from_, blocks, b, sealed) reg (down, armed, after, acut, keep, bs, ws)).2.2.2) (Sp.jcD recs (from_, blocks, b, sealed) reg (down, armed, after, acut, keep, bs, ws))) : region_Journal_Commit.vc R recs reg from_ blocks b sealed down armed after acut keep bs ws := by
  obtain ⟨⟨hl, hg, hr1, hr2⟩, hn⟩ := h
  unfold region_Journal_Commit.vc
  unfold Sp.jcE Sp.jcL Sp.jcD at hR
  have hf := Sp.lFill_ok (recs := recs) hl
  refine ⟨⟨hl, hn⟩, ?_⟩
  rw [cond_dec]
  split
  · rename_i c1
    refine ⟨⟨hf, hg, hr1, hr2⟩, ?_⟩
    rw [if_pos c1, if_pos c1] at hR
    rw [cond_ndec]
    split
    · rename_i c2
      have c2 : (Sp.jLast (Sp.lFill recs (from_, blocks, b, sealed)).1 reg (down, armed, after, acut, keep, bs, ws)).2 = 0 := c2
      rw [if_pos ⟨c1, c2⟩, c2] at hR
      exact hR
    · rename_i c2
      rw [if_neg (fun q => c2 q.2)] at hR
      exact ⟨hf, hR⟩
  · rename_i c1
    rw [if_neg c1, if_neg c1, if_neg (fun q => c1 q.1)] at hR
    rw [cond_ndec, if_neg c1]
    exact ⟨hf, hR⟩
theorem region_Commit_nil.ok (R : Int → Prop) (recs : List Str) (hR : R 7) : region_Commit_nil.vc R recs := hR
theorem region_Journal_Rewrite.ok (R : Int → Int → Int → Int → Str → Int → Bool → Bool → Int → Bool → List Int → List (List (List UInt8)) → List (Int × List (List UInt8)) → Int → Int → Str → Int → Prop) (recs : List Str) (reg from_ blocks : Int) (b : Str) (sealed : Int) (down armed : Bool) (after : Int) (acut : Bool) (keep : List Int) (bs : List (List Str)) (ws : List (Int × List Str)) (h : Sp.rwPre recs (from_, blocks, b, sealed) reg (down, armed, after, acut, keep, bs, ws))
    (hR : (fun (d : Sp.DSt) (l : Sp.LSt) => R 0 (Sp.sub1 reg) from_ blocks b sealed d.1 d.2.1 d.2.2.1 d.2.2.2.1 d.2.2.2.2.1 d.2.2.2.2.2.1 d.2.2.2.2.2.2 l.1 l.2.1 l.2.2.1 l.2.2.2) (Sp.rwD recs reg (down, armed, after, acut, keep, bs, ws)) (Sp.rwL recs reg (down, armed, after, acut, keep, bs, ws))) : region_Journal_Rewrite.vc R recs reg from_ blocks b sealed down armed after acut keep bs ws := by
  obtain ⟨⟨⟨hl, hg, hr1, hr2⟩, hn⟩, he⟩ := h
  unfold region_Journal_Rewrite.vc
  unfold Sp.rwE at he
  unfold Sp.rwD Sp.rwL at hR
  unfold Sp.rw0 at he hR
  split at he
  · rename_i c; exact absurd he c
  rename_i c1
  have c1 : Sp.rgErr (1 - reg) 0 (down, armed, after, acut, keep, bs, ws) = 0 := by omega
  split at he
  · rename_i c; exact absurd he c
  rename_i c2
  have c2 : (Sp.lFill recs (Sp.rgF (1 - reg) (down, armed, after, acut, keep, bs, ws), Sp.halfD (down, armed, after, acut, keep, bs, ws), Sp.rgS (1 - reg) 0 (down, armed, after, acut, keep, bs, ws), 0)).2 = 0 := by omega
  have hr0 : Rg IntKind.i64 (1 - reg) := by rw [rg64]; omega
  have hlo := Sp.rg_lOk hg (r := 1 - reg) (by omega) c1
  have hf := Sp.lFill_ok (recs := recs) hlo
  rw [if_pos ⟨c1, c2⟩] at hR
  refine ⟨hr0, ⟨hg, by omega, by omega, by omega, by omega⟩, ?_⟩
  rw [Sp.rgNil_of c1, cond_false]
  refine ⟨⟨hlo, hn⟩, ?_⟩
  rw [cond_ndec, if_pos c2]
  refine ⟨hr0, ⟨hf, hg, by omega, by omega⟩, ?_⟩
  rw [cond_ndec, if_pos he]
  exact ⟨hr0, hR⟩
theorem region_Rewrite_nil.ok (R : Int → Prop) (recs : List Str) (hR : R 7) : region_Rewrite_nil.vc R recs := hR
theorem region_Journal_Records.ok (R : List Str → Int → RL) (reg from_ blocks : Int) (b : Str) (sealed : Int) (down armed : Bool) (after : Int) (acut : Bool) (keep : List Int) (bs : List (List Str)) (ws : List (Int × List Str)) (h : Sp.lOk (from_, blocks, b, sealed))
    (hR : R (Sp.lRecs (from_, blocks, b, sealed)) reg from_ blocks b sealed down armed after acut keep bs ws) : region_Journal_Records.vc R reg from_ blocks b sealed down armed after acut keep bs ws := ⟨h, hR⟩
theorem region_Records_nil.ok (R : List Str → Prop) (hR : R []) : region_Records_nil.vc R := hR
theorem region_Journal_Bytes.ok (R : Int → Int → RL) (reg from_ blocks : Int) (b : Str) (sealed : Int) (down armed : Bool) (after : Int) (acut : Bool) (keep : List Int) (bs : List (List Str)) (ws : List (Int × List Str))
    (hR : R (Sp.lBytes (from_, blocks, b, sealed)) reg from_ blocks b sealed down armed after acut keep bs ws) : region_Journal_Bytes.vc R reg from_ blocks b sealed down armed after acut keep bs ws := hR
theorem region_Bytes_nil.ok (R : Int → Prop) (hR : R 0) : region_Bytes_nil.vc R := hR
theorem region_Journal_Room.ok (R : Int → Int → RL) (reg from_ blocks : Int) (b : Str) (sealed : Int) (down armed : Bool) (after : Int) (acut : Bool) (keep : List Int) (bs : List (List Str)) (ws : List (Int × List Str)) (h : Sp.lOk (from_, blocks, b, sealed))
    (hR : R (Sp.lRoom (from_, blocks, b, sealed)) reg from_ blocks b sealed down armed after acut keep bs ws) : region_Journal_Room.vc R reg from_ blocks b sealed down armed after acut keep bs ws := ⟨h, hR⟩
theorem region_Room_nil.ok (R : Int → Prop) (hR : R 0) : region_Room_nil.vc R := hR
theorem region_Journal_Region.ok (R : Int → Int → RL) (reg from_ blocks : Int) (b : Str) (sealed : Int) (down armed : Bool) (after : Int) (acut : Bool) (keep : List Int) (bs : List (List Str)) (ws : List (Int × List Str))
    (hR : R reg reg from_ blocks b sealed down armed after acut keep bs ws) : region_Journal_Region.vc R reg from_ blocks b sealed down armed after acut keep bs ws := hR
theorem region_Region_nil.ok (R : Int → Prop) (hR : R 0) : region_Region_nil.vc R := hR
theorem Sp.needF_loop (R : Int → Int → Prop) (l : List Str) (h : l.length ≤ 1000000) (hR : R (Sp.needP l).1 (Sp.needP l).2) :
    ∀ (p : Nat) (n : Int), p ≤ l.length → 0 ≤ n → n ≤ 65543 * p → Sp.needF n (l.drop p) = Sp.needP l → ∀ K : Int × List Str × Int × Int × Unit → Prop, (∀ m : Int, p < l.length → 0 ≤ m → m ≤ 65543 * (p + 1) → Sp.needF m (l.drop (p + 1)) = Sp.needP l → K (m, l, (l.length : Int), ((p + 1 : Nat) : Int), ())) → region_Need.L0 R n l (l.length : Int) (p : Int) K := by
  intro p n hp h0 hn he K hK
  unfold region_Need.L0
  rw [cond_dec]
  split
  · rename_i c1
    rw [drop_cons (d := ([] : Str)) (show p < l.length by omega), Sp.needF] at he
    refine ⟨by rw [ix_iff]; omega, ?_⟩
    rw [cond_ndec]
    split
    · rename_i c2
      rw [if_neg (fun q => q c2)] at he
      have hs : ((Sp.textP (nth l (p : Int) [])).1.length : Int) ≤ 65543 := by
        have h1 := (Sp.textP_len c2).1
        have h2 := Sp.textP_size c2
        omega
      exact ⟨by rw [rg64]; omega, by rw [rg64]; omega, hK _ (by omega) (by omega) (by omega) he⟩
    · rename_i c2
      rw [if_pos c2] at he
      rw [← he] at hR
      exact hR
  · have : p = l.length := by omega
    subst this
    rw [List.drop_length, Sp.needF] at he
    rw [← he] at hR
    exact hR
theorem region_Need.ok (R : Int → Int → Prop) (l : List Str) (h : Sp.needP.pre l) (hR : R (Sp.needP l).1 (Sp.needP l).2) : region_Need.vc R l := by
  refine Lp_rule (fun v => ∃ (p : Nat) (n : Int), v = (n, l, (l.length : Int), (p : Int), ()) ∧ p ≤ l.length ∧ 0 ≤ n ∧ n ≤ 65543 * p ∧ Sp.needF n (l.drop p) = Sp.needP l) (fun v => l.length - v.2.2.2.1.toNat) ?_ ⟨0, 0, rfl, Nat.zero_le _, by omega, by omega, rfl⟩
  rintro _ K ⟨p, n, rfl, hp, h0, hn, he⟩ hK
  exact Sp.needF_loop R l h hR p n hp h0 hn he K (fun m h1 h2 h3 h4 => hK _ ⟨p + 1, m, rfl, by omega, h2, by omega, h4⟩ (by simp; omega))
theorem rectoref30_Need.ok (R : Int → Int → Prop) (l : List Str) (h : Sp.needP.pre l) (hR : R (Sp.needP l).1 (Sp.needP l).2) : rectoref30_Need.vc R l := region_Need.ok R l h hR
theorem rectolaw30_put.ok (R : List Str → Prop) (a b : List Str) (h : Sp.putL.pre a b) (hR : R (Sp.putL a b)) : rectolaw30_put.vc R a b := by
  obtain ⟨h1, h2⟩ := h
  exact ⟨by rw [gr_iff]; omega, by rw [gr_iff]; omega, hR⟩
theorem rectolaw30_long.ok (R : Bool → Prop) (l : List Sp.RStep) (h : Sp.long30.pre l) (hR : R (Sp.long30 l)) : rectolaw30_long.vc R l := by
  have h : l.length ≤ 9223372036854775807 := h
  refine Lp_rule (fun v => ∃ (p : Nat) (n : Int), v = (n, l, (l.length : Int), (p : Int), ()) ∧ p ≤ l.length ∧ 0 ≤ n ∧ n ≤ 140000 ∧ Sp.longR (p : Int) n (l.drop p) = Sp.long30 l) (fun v => l.length - v.2.2.2.1.toNat) ?_ ⟨0, 0, rfl, Nat.zero_le _, by omega, by omega, rfl⟩
  rintro _ K ⟨p, n, rfl, hp, h0, hn, hf⟩ hK
  show rectolaw30_long.L0 R n l (l.length : Int) (p : Int) K
  unfold rectolaw30_long.L0
  rw [cond_dec]
  split
  case isFalse =>
    have : p = l.length := by omega
    subst this
    rw [List.drop_length, Sp.longR] at hf
    rw [← hf] at hR; exact hR
  rename_i c1
  rw [drop_cons (d := ((0 : Int), (0 : Int), ([] : List Str), false, ([] : List Int))) (show p < l.length by omega), Sp.longR] at hf
  refine ⟨by rw [ix_iff]; omega, ?_⟩
  generalize nth l (p : Int) (0, 0, [], false, []) = s at *
  rw [cond_dec]
  split
  · rename_i c2
    rw [if_pos (.inl c2)] at hf
    rw [← hf] at hR; exact hR
  rw [cond_dec]
  split
  · rename_i c3
    rw [if_pos (.inr (.inl c3))] at hf
    rw [← hf] at hR; exact hR
  rw [cond_dec]
  split
  · rename_i c4
    rw [if_pos (.inr (.inr c4))] at hf
    rw [← hf] at hR; exact hR
  rename_i c2 c3 c4
  rw [if_neg (fun e => e.elim c2 (fun e => e.elim c3 c4))] at hf
  refine Lp_rule (fun v => ∃ (q : Nat) (m : Int), v = (m, l, (l.length : Int), (p : Int), s.2.2.1, (s.2.2.1.length : Int), (q : Int), ()) ∧ q ≤ s.2.2.1.length ∧ 0 ≤ m ∧ m ≤ 140000 ∧ Sp.longT m (s.2.2.1.drop q) = Sp.longT n s.2.2.1) (fun v => s.2.2.1.length - v.2.2.2.2.2.2.1.toNat) ?_ ⟨0, n, rfl, Nat.zero_le _, by omega, by omega, rfl⟩
  rintro _ K1 ⟨q, m, rfl, hq, h0, hm, hg⟩ hK1
  show rectolaw30_long.L1 R K m l (l.length : Int) (p : Int) s.2.2.1 (s.2.2.1.length : Int) (q : Int) K1
  unfold rectolaw30_long.L1
  rw [cond_dec]
  split
  case isFalse =>
    have : q = s.2.2.1.length := by omega
    subst this
    rw [List.drop_length, Sp.longT] at hg
    rw [← hg] at hf
    exact ⟨by rw [rg64]; omega, hK _ ⟨p + 1, m, rfl, by omega, h0, hm, hf⟩ (by simp; omega)⟩
  rename_i c5
  rw [drop_cons (d := ([] : Str)) (show q < s.2.2.1.length by omega), Sp.longT] at hg
  refine ⟨by rw [ix_iff]; omega, ?_⟩
  generalize nth s.2.2.1 (q : Int) [] = x at *
  rw [cond_dec]
  split
  · rename_i c6
    rw [if_pos (.inl c6)] at hg
    rw [← hg] at hf
    rw [← hf] at hR; exact hR
  rename_i c6
  refine ⟨by rw [rg64]; omega, ?_⟩
  rw [cond_dec]
  split
  · rename_i c7
    rw [if_pos (.inr c7)] at hg
    rw [← hg] at hf
    rw [← hf] at hR; exact hR
  rename_i c7
  rw [if_neg (fun e => e.elim c6 c7)] at hg
  exact ⟨by rw [rg64]; omega, hK1 _ ⟨q + 1, _, rfl, by omega, by omega, by omega, hg⟩ (by simp; omega)⟩
theorem rectolaw30_RegionNil.ok (R : Bool → Prop) (l : List Str) (_ : Sz (.sl .str) l) (hR : R Sp.tt) : rectolaw30_RegionNil.vc R l := hR

/- A journal that lasts: what a commit does. Plain theorems. -/

namespace Sp
/-- A block that has B's bytes, so far as these reach. -/
def AgR (B : Str) (i : Nat) (x : Str) : Prop := x.take (B.length - 256 * i) = (B.drop (256 * i)).take 256
theorem page_agR (B m : Str) (i : Nat) : AgR B i (pageB (B ++ m) (i : Int)) := by
  unfold AgR pageB
  rw [Int.toNat_natCast]
  by_cases c : B.length ≤ 256 * i
  · rw [show B.length - 256 * i = 0 by omega, List.drop_of_length_le c]; rfl
  · have hd : (B ++ m).drop (256 * i) = B.drop (256 * i) ++ m := by rw [List.drop_append_of_le_length (by omega)]
    rw [hd]
    have hl : (B.drop (256 * i)).length = B.length - 256 * i := List.length_drop
    by_cases c2 : 256 ≤ B.length - 256 * i
    · have e : (B.drop (256 * i) ++ m).take 256 = (B.drop (256 * i)).take 256 := List.take_append_of_le_length (by omega)
      have l2 : ((B.drop (256 * i)).take 256).length = 256 := by rw [List.length_take]; omega
      rw [e, l2]
      simp only [Nat.sub_self, List.replicate_zero, List.append_nil]
      rw [List.take_of_length_le (by omega)]
    · have h1 : ((B.drop (256 * i) ++ m).take 256 ++ List.replicate (256 - ((B.drop (256 * i) ++ m).take 256).length) 0).take (B.length - 256 * i) = B.drop (256 * i) := by
        have e : (B.drop (256 * i) ++ m).take 256 = B.drop (256 * i) ++ m.take (256 - (B.length - 256 * i)) := by
          rw [List.take_append, List.take_of_length_le (by omega), hl]
        rw [e, List.append_assoc, List.take_append_of_le_length (by omega), List.take_of_length_le (by omega)]
      rw [h1, List.take_of_length_le (by omega)]
theorem mix_agR {B : Str} {i q : Nat} {x y : Str} (hx : AgR B i x) (hy : AgR B i y) : AgR B i (x.take q ++ y.drop q) := by
  unfold AgR at *
  generalize B.length - 256 * i = r at *
  by_cases c : r ≤ (x.take q).length
  · rw [List.take_append_of_le_length c, List.take_take, show min r q = r by rw [List.length_take] at c; omega]
    exact hx
  · rw [List.take_append, List.take_of_length_le (by omega), List.length_take]
    by_cases c2 : q ≤ x.length
    · rw [show min q x.length = q by omega]
      have c3 : q < r := by rw [List.length_take] at c; omega
      have e1 : x.take q = y.take q := by
        have h1 := congrArg (List.take q) hx
        have h2 := congrArg (List.take q) hy
        rw [List.take_take, show min q r = q by omega] at h1 h2
        rw [h1, h2]
      rw [e1, ← hy]
      have := List.take_append_drop q (y.take r)
      rw [List.take_take, show min q r = q by omega, List.drop_take] at this
      exact this
    · have c3 : x.length < r := by rw [List.length_take] at c; omega
      rw [List.take_of_length_le (by omega)] at hx
      rw [show min q x.length = x.length by omega, List.take_of_length_le (l := x) (by omega)]
      have hl := congrArg List.length hx
      have hl2 := congrArg List.length hy
      rw [List.length_take] at hl2
      have : (y.drop q).take (r - x.length) = [] := by
        apply List.eq_nil_of_length_eq_zero
        rw [List.length_take, List.length_drop]; omega
      rw [this, List.append_nil]; exact hx
theorem agR_mono {B m : Str} {i : Nat} {x : Str} (h : AgR (B ++ m) i x) : AgR B i x := by
  unfold AgR at *
  by_cases c : B.length ≤ 256 * i
  · rw [show B.length - 256 * i = 0 by omega, List.drop_of_length_le c]; rfl
  · have hd : (B ++ m).drop (256 * i) = B.drop (256 * i) ++ m := by rw [List.drop_append_of_le_length (by omega)]
    have hl : (B.drop (256 * i)).length = B.length - 256 * i := List.length_drop
    rw [hd, List.length_append] at h
    have h2 := congrArg (List.take (B.length - 256 * i)) h
    rw [List.take_take, List.take_take, show min (B.length - 256 * i) (B.length + m.length - 256 * i) = B.length - 256 * i by omega, List.take_append_of_le_length (by omega)] at h2
    rw [h2]
    by_cases c2 : 256 ≤ B.length - 256 * i
    · rw [show min (B.length - 256 * i) 256 = 256 by omega]
    · rw [show min (B.length - 256 * i) 256 = B.length - 256 * i by omega, List.take_of_length_le (by omega), List.take_of_length_le (by omega)]
theorem agR_full {B m : Str} {i : Nat} {x : Str} (hx : x.length = 256) (hi : 256 * (i + 1) ≤ B.length) (h : AgR B i x) : AgR (B ++ m) i x := by
  unfold AgR at *
  have hd : (B ++ m).drop (256 * i) = B.drop (256 * i) ++ m := by rw [List.drop_append_of_le_length (by omega)]
  have hl : (B.drop (256 * i)).length = B.length - 256 * i := List.length_drop
  rw [List.take_of_length_le (by omega)] at h
  rw [hd, List.length_append, List.take_of_length_le (by omega), List.take_append_of_le_length (by omega)]
  exact h
theorem agR_past {B : Str} {i : Nat} {x : Str} (h : B.length ≤ 256 * i) : AgR B i x := by
  unfold AgR
  rw [show B.length - 256 * i = 0 by omega, List.drop_of_length_le h]; rfl
theorem fallF_agR {B : Str} {keep : List Int} {i : Nat} : ∀ {ws : List Wr} {k : Int} {bs : List Blk}, (∀ x, x ∈ bs → bOk x) → (∀ w, w ∈ ws → 0 ≤ w.1 ∧ w.1 < bs.length ∧ bOk w.2) → AgR B i (nth bs (2 + (i : Int)) []).flatten → (∀ w, w ∈ ws → w.1 = 2 + (i : Int) → AgR B i w.2.flatten) →
    AgR B i (nth (fallF keep k bs ws) (2 + (i : Int)) []).flatten
  | [], k, bs, _, _, h, _ => h
  | w :: l, k, bs, hb, hw, h, hwa => by
    have h0 := hw w (by simp)
    have hk := kept_range keep k
    have hbb := hb _ (nth_get (d := []) h0.1 h0.2.1)
    rw [fallF]
    refine fallF_agR (set_ok hb (cpA_ok h0.2.2 hbb hk.1 hk.2)) (fun x hx => by rw [List.length_set]; exact hw x (by simp [hx])) ?_ (fun x hx => hwa x (by simp [hx]))
    by_cases c : w.1 = 2 + (i : Int)
    · rw [← c, nth_set_eq h0.1 h0.2.1, cpA_flat h0.2.2 hbb]
      rw [← c] at h
      exact mix_agR (hwa w (by simp) c) h
    · rw [nth_set_ne (by omega) h0.1 c]; exact h
theorem flushF_agR {B : Str} {i : Nat} : ∀ {ws : List Wr} {bs : List Blk}, (∀ w, w ∈ ws → 0 ≤ w.1 ∧ w.1 < bs.length) → AgR B i (nth bs (2 + (i : Int)) []).flatten ∨ (∃ w, w ∈ ws ∧ w.1 = 2 + (i : Int)) → (∀ w, w ∈ ws → w.1 = 2 + (i : Int) → AgR B i w.2.flatten) →
    AgR B i (nth (flushF bs ws) (2 + (i : Int)) []).flatten
  | [], bs, _, h, _ => by
    rcases h with h | ⟨w, hw, _⟩
    · exact h
    · exact absurd hw List.not_mem_nil
  | w :: l, bs, hw, h, hwa => by
    have h0 := hw w (by simp)
    rw [flushF]
    refine flushF_agR (fun x hx => by rw [List.length_set]; exact hw x (by simp [hx])) ?_ (fun x hx => hwa x (by simp [hx]))
    by_cases c : w.1 = 2 + (i : Int)
    · rw [← c, nth_set_eq h0.1 h0.2]
      exact .inl (hwa w (by simp) c)
    · rw [nth_set_ne (by omega) h0.1 c]
      rcases h with h | ⟨x, hx, hx2⟩
      · exact .inl h
      · rcases List.mem_cons.1 hx with rfl | hx
        · exact absurd hx2 c
        · exact .inr ⟨x, hx, hx2⟩
theorem flushF_append : ∀ (a b : List Wr) (bs : List Blk), flushF bs (a ++ b) = flushF (flushF bs a) b
  | [], _, _ => rfl
  | w :: a, b, bs => by rw [List.cons_append, flushF, flushF, flushF_append a b]
/-- What lasts and what waits has B's bytes. -/
def AgDR (h : Nat) (B : Str) (d : DSt) : Prop := ∀ i : Nat, i < h → AgR B i (nth d.bs (2 + (i : Int)) []).flatten ∧ ∀ w, w ∈ d.ws → w.1 = 2 + (i : Int) → AgR B i w.2.flatten

/-- Up, and no arm cuts. -/
def Soft (N : Nat) (d : DSt) : Prop := d.down = false ∧ (d.armed = true → d.acut = false) ∧ d.bs.length = N
theorem soft_goes {N : Nat} {d : DSt} (h : Soft N d) : Soft N (dGoes d).1 ∧ (dGoes d).1.bs = d.bs ∧ (dGoes d).1.ws = d.ws ∧ ((dGoes d).2 = (0, false) ∨ (dGoes d).2 = (270, true)) ∧ (d.armed = false → (dGoes d).2 = (0, false) ∧ (dGoes d).1.armed = false) := by
  obtain ⟨h1, h2, h3⟩ := h
  unfold dGoes
  split
  · rename_i c
    exact ⟨⟨h1, h2, h3⟩, rfl, rfl, .inl rfl, fun _ => ⟨rfl, c⟩⟩
  rename_i c
  split
  · exact ⟨⟨h1, h2, h3⟩, rfl, rfl, .inl rfl, fun e => absurd e c⟩
  split
  · exact ⟨⟨h1, fun e => absurd e (by simp), h3⟩, rfl, rfl, .inr rfl, fun e => absurd e c⟩
  · rename_i c2
    have : d.armed = true := by cases e : d.armed with | true => rfl | false => exact absurd e c
    exact absurd (h2 this) c2
theorem soft_write {N : Nat} {d : DSt} {i : Int} {s : Str} (h : Soft N d) (hi : 0 ≤ i ∧ i < N) (hs : s.length = 256) : Soft N (dWrite i s d).1 ∧ (dWrite i s d).1.bs = d.bs ∧
    (((dWrite i s d).2 = 0 ∧ (dWrite i s d).1.ws = d.ws ++ [(i, cutB s)]) ∨ ((dWrite i s d).2 = 270 ∧ (dWrite i s d).1.ws = d.ws)) ∧ (d.armed = false → (dWrite i s d).2 = 0 ∧ (dWrite i s d).1.armed = false) := by
  have hin : inD i d = true := in_iff.2 ⟨hi.1, by rw [h.2.2]; exact hi.2⟩
  obtain ⟨g1, g2, g3, g4, g5⟩ := soft_goes h
  unfold dWrite
  rw [if_neg (by rw [hin, hs]; simp), if_neg (by rw [h.1]; simp)]
  rcases g4 with g4 | g4
  · rw [g4, if_neg (by simp)]
    exact ⟨g1, g2, .inl ⟨rfl, by show (dGoes d).1.ws ++ _ = _; rw [g3]⟩, fun e => ⟨rfl, (g5 e).2⟩⟩
  · rw [g4, if_pos rfl]
    exact ⟨g1, g2, .inr ⟨rfl, g3⟩, fun e => absurd (g5 e).1 (by rw [g4]; simp)⟩
theorem soft_flush {N n : Nat} {d : DSt} (h : Soft N d) (hd : dOk n d) : Soft N (dFlush d).1 ∧ (dFlush d).1.ws = [] ∧
    (((dFlush d).2 = 0 ∧ (dFlush d).1.bs = flushF d.bs d.ws) ∨ ((dFlush d).2 = 270 ∧ (dFlush d).1.bs = d.bs)) ∧ (d.armed = false → (dFlush d).2 = 0 ∧ (dFlush d).1.armed = false) := by
  obtain ⟨g1, g2, g3, g4, g5⟩ := soft_goes h
  have hb := flush_bs hd
  unfold dFlush at hb ⊢
  rw [if_neg (by rw [h.1]; simp)] at hb ⊢
  refine ⟨⟨g1.1, g1.2.1, hb.trans h.2.2⟩, rfl, ?_, fun e => ⟨by show (dGoes d).2.1 = 0; rw [(g5 e).1], (g5 e).2⟩⟩
  rcases g4 with g4 | g4
  · left
    refine ⟨by rw [g4], ?_⟩
    show (if (dGoes d).2.2 = true then _ else _) = _
    rw [g4, if_neg (by simp), g2, g3]
  · right
    refine ⟨by rw [g4], ?_⟩
    show (if (dGoes d).2.2 = true then _ else _) = _
    rw [g4, if_pos rfl, g2]
theorem soft_wrF {N : Nat} {l : LSt} (hf : l.frm = 2) : ∀ (k i : Nat) (d : DSt), Soft N d → 2 + i + k ≤ N → Soft N (wrF l k (i : Int) d).1 ∧ (wrF l k (i : Int) d).1.bs = d.bs ∧
    (∃ suf, (wrF l k (i : Int) d).1.ws = d.ws ++ suf ∧ (∀ w, w ∈ suf → ∃ j : Nat, i ≤ j ∧ j < i + k ∧ w = (2 + (j : Int), cutB (pageB l.b (j : Int)))) ∧ ((wrF l k (i : Int) d).2 = 0 → ∀ j : Nat, i ≤ j → j < i + k → (2 + (j : Int), cutB (pageB l.b (j : Int))) ∈ suf)) ∧
    (d.armed = false → (wrF l k (i : Int) d).2 = 0 ∧ (wrF l k (i : Int) d).1.armed = false)
  | 0, i, d, h, _ => ⟨h, rfl, ⟨[], by rw [List.append_nil]; rfl, fun w hw => absurd hw List.not_mem_nil, fun _ j h1 h2 => by omega⟩, fun e => ⟨rfl, e⟩⟩
  | k + 1, i, d, h, hk => by
    obtain ⟨w1, w2, w3, w4⟩ := soft_write (i := l.frm + (i : Int)) (s := pageB l.b (i : Int)) h (by omega) (page_len _ _)
    rw [wrF]
    split
    · rename_i c
      rcases w3 with w3 | w3
      · exact absurd w3.1 c
      · exact ⟨w1, w2, ⟨[], by rw [List.append_nil]; exact w3.2, fun w hw => absurd hw List.not_mem_nil, fun e => absurd e c⟩, fun e => absurd (w4 e).1 c⟩
    · rename_i c
      rcases w3 with w3 | w3
      case inr => rw [w3.1] at c; exact absurd (by omega) c
      obtain ⟨i1, i2, ⟨suf, i3, i4, i5⟩, i6⟩ := soft_wrF hf k (i + 1) _ w1 (by omega)
      rw [show ((i : Int) + 1) = ((i + 1 : Nat) : Int) by omega]
      refine ⟨i1, i2.trans w2, ⟨(2 + (i : Int), cutB (pageB l.b (i : Int))) :: suf, ?_, ?_, ?_⟩, fun e => i6 (w4 e).2⟩
      · rw [i3, w3.2, hf, List.append_assoc]; rfl
      · intro w hw
        rcases List.mem_cons.1 hw with rfl | hw
        · exact ⟨i, Nat.le_refl _, by omega, rfl⟩
        · obtain ⟨j, a1, a2, a3⟩ := i4 w hw
          exact ⟨j, by omega, by omega, a3⟩
      · intro e j h1 h2
        by_cases cj : j = i
        · subst cj; simp
        · exact List.mem_cons_of_mem _ (i5 e j (by omega) (by omega))
theorem soft_lWrite {N h : Nat} {l : LSt} {d : DSt} (hl : lOk l) (hf : l.frm = 2) (hb : l.blocks = h) (hN : 2 + h ≤ N) (hs : Soft N d) : Soft N (lWrite l d).1 ∧ (lWrite l d).1.bs = d.bs ∧
    (∃ suf, (lWrite l d).1.ws = d.ws ++ suf ∧ (∀ w, w ∈ suf → ∃ j : Nat, j < h ∧ w = (2 + (j : Int), cutB (pageB l.b (j : Int)))) ∧ ((lWrite l d).2 = 0 → l.sealed < l.b.length → ∀ j : Nat, l.sealed / 256 ≤ j → (j : Int) < blocksOf l.b.length → (2 + (j : Int), cutB (pageB l.b (j : Int))) ∈ suf)) ∧
    (d.armed = false → (lWrite l d).2 = 0 ∧ (lWrite l d).1.armed = false) := by
  obtain ⟨h1, h2, h3, h4, h5, h6, h7⟩ := hl
  have hbl := blocksOf_nat (n := (l.b.length : Int)) (by omega)
  unfold lWrite
  by_cases c : l.sealed < l.b.length
  · rw [if_pos c]
    obtain ⟨i0, hi0⟩ : ∃ i0 : Nat, l.sealed / 256 = i0 := ⟨(l.sealed / 256).toNat, by omega⟩
    obtain ⟨k0, hk0⟩ : ∃ k0 : Nat, (blocksOf (l.b.length : Int) - l.sealed / 256).toNat = k0 := ⟨_, rfl⟩
    have hik : (i0 : Int) + k0 = blocksOf (l.b.length : Int) := by unfold blocksOf at *; omega
    rw [hk0, hi0]
    obtain ⟨a1, a2, ⟨suf, a3, a4, a5⟩, a6⟩ := soft_wrF (N := N) (l := l) hf k0 i0 d hs (by omega)
    refine ⟨a1, a2, ⟨suf, a3, ?_, ?_⟩, a6⟩
    · intro w hw
      obtain ⟨j, b1, b2, b3⟩ := a4 w hw
      exact ⟨j, by omega, b3⟩
    · intro e _ j b1 b2
      exact a5 e j (by omega) (by omega)
  · rw [if_neg c]
    exact ⟨hs, rfl, ⟨[], by rw [List.append_nil], fun w hw => absurd hw List.not_mem_nil, fun _ e => absurd e c⟩, fun e => ⟨rfl, e⟩⟩
/-! Slots. -/
theorem nth_setR {α : Type} {l : List α} {j : Int} {b d : α} (hl : 2 ≤ l.length) (hj : j = 0 ∨ j = 1) : nth (l.set j.toNat b) j d = b ∧ nth (l.set j.toNat b) (1 - j) d = nth l (1 - j) d :=
  ⟨nth_set_eq (by omega) (by omega), nth_set_ne (by omega) (by omega) (by omega)⟩
theorem choose_putR {bs : List Blk} {was x : Slot} {at_ : Int} {b' : Blk} (hl : 2 ≤ bs.length) (hc : chooseB bs = (was, at_, 0)) (hb : bOk b') (hx : rightS x = true) (hn : was.1 < x.1) (h : b'.flatten.take 64 = (plainS x).take 64) : chooseB (bs.set (1 - at_).toNat b') = (x, 1 - at_, 0) := by
  unfold chooseB at hc
  rcases choose2_at hc with ⟨rfl, e⟩ | ⟨rfl, e⟩
  · have h4 := nth_setR (b := b') (d := ([] : Blk)) hl (j := 1 - 0) (.inr rfl)
    unfold chooseB
    rw [show nth (bs.set (1 - 0 : Int).toNat b') 1 [] = b' from h4.1, show nth (bs.set (1 - 0 : Int).toNat b') 0 [] = nth bs 0 [] from h4.2, e, read_head hx hb h]
    simp only [choose2, Bool.true_eq_false, false_and, if_false, true_and, false_or]
    rw [if_pos hn]; rfl
  · have h4 := nth_setR (b := b') (d := ([] : Blk)) hl (j := 1 - 1) (.inl rfl)
    unfold chooseB
    rw [show nth (bs.set (1 - 1 : Int).toNat b') 0 [] = b' from h4.1, show nth (bs.set (1 - 1 : Int).toNat b') 1 [] = nth bs 1 [] from h4.2, e, read_head hx hb h]
    simp only [choose2, Bool.true_eq_false, false_and, if_false, true_and, false_or]
    rw [if_neg (by omega)]; rfl
theorem lastW_else {i : Int} : ∀ {ws : List Wr} {b : Blk}, (∀ w, w ∈ ws → 2 ≤ w.1) → i < 2 → lastW i b ws = b
  | [], _, _, _ => rfl
  | w :: l, b, h, hi => by
    have := h w (by simp)
    rw [lastW, if_neg (by omega)]
    exact lastW_else (fun x hx => h x (by simp [hx])) hi
theorem read_else {d : DSt} {i : Int} (hd : d.down = false) (hw : ∀ w, w ∈ d.ws → 2 ≤ w.1) (h0 : 0 ≤ i) (h2 : i < 2) (h1 : i < d.bs.length) : dRead i d = ((nth d.bs i []).flatten, 0) := by
  unfold dRead
  rw [if_neg (by rw [in_iff.2 ⟨h0, h1⟩]; simp), if_neg (by rw [hd]; simp), lastW_else hw h2]
theorem choose_else {d : DSt} (hd : d.down = false) (hw : ∀ w, w ∈ d.ws → 2 ≤ w.1) (h1 : 2 ≤ d.bs.length) : chooseS d = chooseB d.bs := by
  unfold chooseS
  rw [read_else hd hw (by omega) (by omega) (by omega), read_else hd hw (by omega) (by omega) (by omega), if_neg (by simp), if_neg (by simp)]
  rfl
theorem soft_put {N n : Nat} {d : DSt} {was : Slot} {at_ : Int} (s : Slot) (hd : dOk n d) (h : Soft N d) (hN : 2 ≤ N) (hw : d.ws = []) (hc : chooseB d.bs = (was, at_, 0)) (hr : rightS (nextS was s) = true) :
    Soft N (putS s d).1 ∧ (putS s d).1.ws = [] ∧ (∀ i : Int, 2 ≤ i → nth (putS s d).1.bs i [] = nth d.bs i []) ∧ (((putS s d).2 = 0 ∧ ∃ a, chooseB (putS s d).1.bs = (nextS was s, a, 0)) ∨ (¬ (putS s d).2 = 0 ∧ chooseB (putS s d).1.bs = (was, at_, 0))) ∧
    (d.armed = false → (putS s d).2 = 0 ∧ (putS s d).1.armed = false) := by
  have hch : chooseS d = (was, at_, 0) := (choose_else h.1 (fun w hx => by rw [hw] at hx; exact absurd hx List.not_mem_nil) (by rw [h.2.2]; exact hN)).trans hc
  have hcf := choose_facts (d := d) (by rw [hch])
  rw [hch] at hcf
  simp only at hcf
  have hpl := plainS_len hr
  obtain ⟨w1, w2, w3, w4⟩ := soft_write (i := 1 - at_) (s := plainS (nextS was s)) h (by omega) hpl
  have hwo := write_ok (i := 1 - at_) hd (by omega) hpl
  obtain ⟨f1, f2, f3, f4⟩ := soft_flush w1 hwo
  unfold putS
  rw [hch]
  simp only
  rw [if_neg (by simp), if_neg (by rw [hr]; simp)]
  split
  · rename_i c
    rcases w3 with w3 | w3
    · exact absurd w3.1 c
    · exact ⟨w1, by rw [w3.2, hw], fun i _ => by rw [w2], .inr ⟨c, by rw [w2]; exact hc⟩, fun e => absurd (w4 e).1 c⟩
  · rename_i c
    rcases w3 with w3 | w3
    case inr => rw [w3.1] at c; exact absurd (by omega) c
    refine ⟨f1, f2, ?_, ?_, fun e => f4 (w4 e).2⟩
    · intro i hi
      rcases f3 with f3 | f3
      · rw [f3.2, w3.2, w2, hw]
        show nth (d.bs.set _ _) i [] = _
        exact nth_set_ne (by omega) (by omega) (by omega)
      · rw [f3.2, w2]
    · rcases f3 with f3 | f3
      · left
        refine ⟨f3.1, 1 - at_, ?_⟩
        rw [f3.2, w3.2, w2, hw]
        show chooseB (d.bs.set _ _) = _
        refine choose_putR (by rw [h.2.2]; exact hN) hc (cutB_ok hpl) hr (by unfold nextS; simp only; omega) ?_
        rw [cut_flat hpl]
      · right
        refine ⟨by rw [f3.1]; simp, ?_⟩
        rw [f3.2, w2]; exact hc
end Sp

/- A journal that lasts: commits, one behind the other. Plain theorems. -/

namespace Sp
theorem rd_agR {B : Str} {d : DSt} {n h : Nat} (hok : dOk n d) (hd : d.down = false) (hl : 2 + h ≤ d.bs.length) (hw : d.ws = []) (ha : AgDR h B d) : ∀ (k i : Nat), i + k ≤ h → B.length ≤ 256 * (i + k) → (rdF d k (2 + (i : Int))).2 = 0 ∧ (rdF d k (2 + (i : Int))).1.take (B.length - 256 * i) = B.drop (256 * i)
  | 0, i, _, h => ⟨rfl, by rw [show B.length - 256 * i = 0 by omega, List.drop_of_length_le (by omega)]; rfl⟩
  | k + 1, i, hk, h => by
    have hin : 0 ≤ 2 + (i : Int) ∧ 2 + (i : Int) < d.bs.length := by omega
    have hr : dRead (2 + (i : Int)) d = ((nth d.bs (2 + (i : Int)) []).flatten, 0) := by
      unfold dRead
      rw [if_neg (by rw [in_iff.2 hin]; simp), if_neg (by rw [hd]; simp), hw]; rfl
    have ih := rd_agR hok hd hl hw ha k (i + 1) (by omega) (by omega)
    rw [show (2 + ((i + 1 : Nat) : Int)) = 2 + (i : Int) + 1 by omega] at ih
    have hag := (ha i (by omega)).1
    have hxl : (nth d.bs (2 + (i : Int)) []).flatten.length = 256 := bOk_len (hok.2.1 _ (nth_get hin.1 hin.2))
    rw [rdF, hr]
    simp only [ih.1, ne_eq, not_true_eq_false, if_false]
    refine ⟨trivial, ?_⟩
    unfold AgR at hag
    generalize (nth d.bs (2 + (i : Int)) []).flatten = x at *
    by_cases c : B.length - 256 * i ≤ 256
    · rw [List.take_append_of_le_length (by omega), hag, List.take_of_length_le (by rw [List.length_drop]; omega)]
    · rw [List.take_append, List.take_of_length_le (by omega), hxl, show B.length - 256 * i - 256 = B.length - 256 * (i + 1) by omega, ih.2]
      rw [List.take_of_length_le (by omega)] at hag
      rw [hag, show 256 * (i + 1) = 256 * i + 256 by omega, ← List.drop_drop, List.take_append_drop]
theorem eachR_text (s t : Str) (h : (s.length : Int) ≤ 65536) : eachL (textB s ++ t) = (s, t) :: eachL t := by
  have e := takeText_textB (s := s) (by unfold maxBytes; omega) t
  have hne : textB s ++ t ≠ [] := by unfold textB plain; simp
  have := eachL_cons hne (by rw [e])
  rw [e] at this
  exact this
theorem each_catR : ∀ {l : List Str}, anyLong l = false → recsB (catB l) = l ∧ wholeB (catB l) = true
  | [], _ => ⟨rfl, rfl⟩
  | s :: l, h => by
    rw [anyLong, Bool.or_eq_false_iff] at h
    have hs := of_decide_eq_false h.1
    unfold maxBytes at hs
    have ih := each_catR h.2
    have e := eachR_text s (catB l) (by omega)
    rw [catB]
    unfold recsB wholeB at *
    rw [e]
    refine ⟨by rw [List.map_cons, ih.1], ?_⟩
    have h2 := ih.2
    unfold leftP at h2 ⊢
    cases hl : eachL (catB l) with
    | nil => rw [hl] at h2; exact h2
    | cons y r => rw [hl] at h2; rw [List.getLast?_cons_cons]; exact h2
theorem catB_app : ∀ (l m : List Str), catB (l ++ m) = catB l ++ catB m
  | [], m => by simp [catB]
  | x :: l, m => by rw [List.cons_append, catB, catB, catB_app l m, List.append_assoc]
theorem anyLong_app : ∀ {l m : List Str}, anyLong l = false → anyLong m = false → anyLong (l ++ m) = false
  | [], m, _, h => h
  | x :: l, m, hl, h => by
    rw [anyLong, Bool.or_eq_false_iff] at hl
    rw [List.cons_append, anyLong, Bool.or_eq_false_iff]
    exact ⟨hl.1, anyLong_app hl.2 h⟩
theorem add_casesR (s : Str) (l : LSt) : ((lAdd s l).2 = 0 ∧ (s.length : Int) ≤ 65536 ∧ (lAdd s l).1 = (l.frm, l.blocks, l.b ++ textB s, l.sealed)) ∨ ((lAdd s l).2 ≠ 0 ∧ (lAdd s l).1 = l) := by
  unfold lAdd
  by_cases c : (textP s).2 = 0
  · rw [if_neg (fun q => q c)]
    obtain ⟨h1, h2⟩ := textP_len c
    by_cases c2 : lRoom l < ((textP s).1.length : Int)
    · rw [if_pos c2]; exact .inr ⟨by simp, rfl⟩
    · rw [if_neg c2]; exact .inl ⟨rfl, h1, by rw [h2]; rfl⟩
  · rw [if_pos c]; exact .inr ⟨c, rfl⟩
theorem fill_cases : ∀ (recs : List Str) (l : LSt), ∃ done, (lFill recs l).1 = (l.frm, l.blocks, l.b ++ catB done, l.sealed) ∧ anyLong done = false ∧ ((lFill recs l).2 = 0 → done = recs)
  | [], l => ⟨[], by rw [lFill, catB, List.append_nil], rfl, fun _ => rfl⟩
  | s :: r, l => by
    rw [lFill]
    rcases add_casesR s l with ⟨e1, e2, e3⟩ | ⟨e1, e3⟩
    · rw [if_neg (fun q => q e1)]
      obtain ⟨done, d1, d2, d3⟩ := fill_cases r (lAdd s l).1
      refine ⟨s :: done, ?_, ?_, fun e => by rw [d3 e]⟩
      · rw [d1, e3, catB]
        show (l.frm, l.blocks, (l.b ++ textB s) ++ catB done, l.sealed) = _
        rw [List.append_assoc]
      · rw [anyLong, d2, Bool.or_false]; exact decide_eq_false (by unfold maxBytes; omega)
    · rw [if_pos e1]
      exact ⟨[], by rw [e3, catB, List.append_nil], rfl, fun e => absurd e e1⟩
theorem catB_count : ∀ (l : List Str), l.length ≤ (catB l).length
  | [] => Nat.zero_le _
  | s :: l => by
    have := catB_count l
    rw [catB, List.length_append]
    have : 1 ≤ (textB s).length := by unfold textB plain; simp
    rw [List.length_cons]; omega

/-- A journal of region 0, and its records. -/
def GI (h n : Nat) (recs : List Str) (l : LSt) (d : DSt) : Prop :=
  dOk n d ∧ Soft (2 + 2 * h) d ∧ anyLong recs = false ∧ l = (2, (h : Int), catB recs, ((catB recs).length : Int)) ∧ (catB recs).length ≤ 256 * h ∧ (∀ w, w ∈ d.ws → 2 ≤ w.1) ∧ AgDR h (catB recs) d ∧ ∃ n0 a, chooseB d.bs = ((n0, 0, ((catB recs).length : Int), (recs.length : Int)), a, 0) ∧ n0 ≤ n
theorem GI.lOk {h n : Nat} {recs : List Str} {l : LSt} {d : DSt} (H : GI h n recs l d) (h1 : 1 ≤ h) (h2 : h ≤ 63) : lOk l := by
  obtain ⟨_, _, _, rfl, g, _⟩ := H
  unfold Sp.lOk
  simp only [LSt.frm, LSt.blocks, LSt.b, LSt.sealed]
  omega
theorem GI.gPre {h n : Nat} {recs : List Str} {l : LSt} {d : DSt} (H : GI h n recs l d) (h1 : 1 ≤ h) (h2 : h ≤ 63) (hn : n ≤ 80000) : gPre d := by
  refine ⟨dOk_le H.1 hn, ?_, ?_⟩
  · rw [H.2.1.2.2]; omega
  · rw [H.2.1.2.2]; omega
theorem GI.recs {h n : Nat} {recs : List Str} {l : LSt} {d : DSt} (H : GI h n recs l d) : lRecs l = recs := by
  obtain ⟨_, _, g, rfl, _⟩ := H
  exact (each_catR g).1
theorem flushF_in {n : Nat} {d : DSt} (h : dOk n d) : ∀ w, w ∈ d.ws → 0 ≤ w.1 ∧ w.1 < d.bs.length := fun w hw => ⟨(h.2.2.2.1 w hw).1, (h.2.2.2.1 w hw).2.1⟩
theorem commit {h n : Nat} {recs more : List Str} {l : LSt} {d : DSt} (H : GI h n recs l d) (h1 : 1 ≤ h) (h2 : h ≤ 63) (hn : n ≤ 70000) (hm : more.length ≤ 1000000) :
    jcPre more l 0 d ∧ ((jcE more l 0 d = 0 ∧ GI h (n + 1001) (recs ++ more) (jcL more l 0 d) (jcD more l 0 d)) ∨ (¬ jcE more l 0 d = 0 ∧ GI h (n + 1001) recs (jcL more l 0 d) (jcD more l 0 d))) ∧
    (d.armed = false → (jcD more l 0 d).armed = false ∧ jcE more l 0 d = (lFill more l).2) ∧ (jcE more l 0 d = 0 → jcL more l 0 d = lSeal (lFill more l).1) := by
  have hlo := H.lOk h1 h2
  have hg := H.gPre h1 h2 (by omega)
  refine ⟨⟨⟨hlo, hg, by omega, by omega⟩, hm⟩, ?_⟩
  obtain ⟨hd, hs, hal, rfl, hB, hws, hag, n0, a, hc, hn0⟩ := H
  have hfo := lFill_ok (recs := more) hlo
  obtain ⟨done, q1, q2, q3⟩ := fill_cases more (2, (h : Int), catB recs, ((catB recs).length : Int))
  have hdrop : lDrop (lFill more (2, (h : Int), catB recs, ((catB recs).length : Int))).1 = (2, (h : Int), catB recs, ((catB recs).length : Int)) := by
    rw [q1]
    unfold lDrop
    simp only [LSt.frm, LSt.blocks, LSt.b, LSt.sealed, Int.toNat_natCast]
    rw [List.take_append_of_le_length (Nat.le_refl _), List.take_of_length_le (Nat.le_refl _)]
  have hup {m : Nat} {d' : DSt} (k1 : dOk (n + 1001) d') (k2 : Soft (2 + 2 * h) d') (k3 : ∀ w, w ∈ d'.ws → 2 ≤ w.1) (k4 : AgDR h (catB recs) d') (k5 : chooseB d'.bs = ((n0, 0, ((catB recs).length : Int), (recs.length : Int)), a, 0)) :
      GI h (n + 1001) recs (2, (h : Int), catB recs, ((catB recs).length : Int)) d' := ⟨k1, k2, hal, rfl, hB, k3, k4, n0, a, k5, by omega⟩
  unfold jcE jcL jcD
  by_cases c1 : (lFill more (2, (h : Int), catB recs, ((catB recs).length : Int))).2 = 0
  case neg =>
    rw [if_neg c1, if_neg (fun q => c1 q.1), if_neg c1, hdrop]
    exact ⟨.inr ⟨c1, hup (m := n) (dOk_le hd (by omega)) hs hws hag hc⟩, fun e => ⟨e, rfl⟩, fun e => absurd e c1⟩
  have q3 := q3 c1
  subst q3
  rw [if_pos c1, if_pos c1]
  generalize lFill done (2, (h : Int), catB recs, ((catB recs).length : Int)) = lf at *
  obtain ⟨l1, e1⟩ := lf
  simp only at c1 q1 hdrop hfo ⊢
  subst c1
  subst q1
  simp only [LSt.frm, LSt.blocks, LSt.b, LSt.sealed] at hdrop hfo ⊢
  have hB2 : (catB recs ++ catB done).length ≤ 256 * h := by
    have h7 := hfo.2.2.2.2.2.2
    simp only [LSt.blocks, LSt.b] at h7
    omega
  have hlen : (catB recs ++ catB done).length = (catB recs).length + (catB done).length := List.length_append
  have hal2 := anyLong_app hal q2
  have hrec2 : lRecs (2, (h : Int), catB recs ++ catB done, ((catB recs).length : Int)) = recs ++ done := by
    have := (each_catR hal2).1
    rw [catB_app] at this
    exact this
  have hcount := catB_count (recs ++ done)
  rw [catB_app] at hcount
  obtain ⟨w1, w2, ⟨suf, w3, w4, w5⟩, w6⟩ := soft_lWrite (N := 2 + 2 * h) (h := h) hfo rfl rfl (by omega) hs
  have hwo := (lWrite_okg hfo hd).1
  have hwws : ∀ w, w ∈ (lWrite (2, (h : Int), catB recs ++ catB done, ((catB recs).length : Int)) d).1.ws → 2 ≤ w.1 := by
    intro w hw
    rw [w3] at hw
    rcases List.mem_append.1 hw with hw | hw
    · exact hws w hw
    · obtain ⟨j, _, e⟩ := w4 w hw
      rw [e]; show (2 : Int) ≤ 2 + (j : Int); omega
  have hsufag : ∀ (m B : Str), catB recs ++ catB done = B ++ m → ∀ (i : Nat) w, w ∈ suf → w.1 = 2 + (i : Int) → AgR B i w.2.flatten := by
    intro m B hBm i w hw hwi
    obtain ⟨j, _, e⟩ := w4 w hw
    rw [e] at hwi ⊢
    have : j = i := by have : (2 + (j : Int)) = 2 + (i : Int) := hwi; omega
    subst this
    show AgR B j (cutB _).flatten
    rw [cut_flat (page_len _ _)]
    show AgR B j (pageB (catB recs ++ catB done) _)
    rw [hBm]
    exact page_agR B m j
  have hwag : AgDR h (catB recs) (lWrite (2, (h : Int), catB recs ++ catB done, ((catB recs).length : Int)) d).1 := by
    intro i hi
    refine ⟨by rw [w2]; exact (hag i hi).1, fun w hw hwi => ?_⟩
    rw [w3] at hw
    rcases List.mem_append.1 hw with hw | hw
    · exact (hag i hi).2 w hw hwi
    · exact hsufag _ _ rfl i w hw hwi
  have hwc : chooseB (lWrite (2, (h : Int), catB recs ++ catB done, ((catB recs).length : Int)) d).1.bs = ((n0, 0, ((catB recs).length : Int), (recs.length : Int)), a, 0) := by rw [w2]; exact hc
  unfold jLast
  by_cases c2 : (lWrite (2, (h : Int), catB recs ++ catB done, ((catB recs).length : Int)) d).2 = 0
  case neg =>
    rw [if_pos c2, if_neg (fun q => c2 q.2), hdrop]
    exact ⟨.inr ⟨c2, hup (m := n) (dOk_le hwo (by omega)) w1 hwws hwag hwc⟩, fun e => absurd (w6 e).1 c2, fun e => absurd e c2⟩
  rw [if_neg (fun q => q c2)]
  have w5 := w5 c2
  simp only [LSt.b, LSt.sealed] at w5
  generalize (lWrite (2, (h : Int), catB recs ++ catB done, ((catB recs).length : Int)) d).1 = d1 at *
  obtain ⟨f1, f2, f3, f4⟩ := soft_flush w1 hwo
  have hfo2 := flush_ok hwo
  have hnoW : ∀ {x : DSt}, x.ws = [] → ∀ w, w ∈ x.ws → 2 ≤ w.1 := fun e w hw => by rw [e] at hw; exact absurd hw List.not_mem_nil
  by_cases c3 : (dFlush d1).2 = 0
  case neg =>
    rw [if_pos c3, if_neg (fun q => c3 q.2), hdrop]
    rcases f3 with f3 | f3
    · exact absurd f3.1 c3
    refine ⟨.inr ⟨c3, hup (m := n) (dOk_le hfo2 (by omega)) f1 (hnoW f2) (fun i hi => ⟨by rw [f3.2]; exact (hwag i hi).1, fun w hw => by rw [f2] at hw; exact absurd hw List.not_mem_nil⟩) (by rw [f3.2]; exact hwc)⟩, fun e => absurd (f4 (w6 e).2).1 c3, fun e => absurd e c3⟩
  rw [if_neg (fun q => q c3)]
  rcases f3 with f3 | f3
  case inr => rw [f3.1] at c3; exact absurd c3 (by omega)
  have hf3 := f3.2
  have hwin := flushF_in hwo
  -- what lasts behind the flush has all bytes
  have hfag : AgDR h (catB recs ++ catB done) (dFlush d1).1 := by
    intro i hi
    refine ⟨?_, fun w hw => by rw [f2] at hw; exact absurd hw List.not_mem_nil⟩
    rw [hf3, w3, flushF_append]
    have hdin : ∀ w, w ∈ d.ws → 0 ≤ w.1 ∧ w.1 < d.bs.length := flushF_in hd
    have hfk := flushF_ok (ws := d.ws) (bs := d.bs) hd.2.1 (fun w hw => (hd.2.2.2.1 w hw).2.2)
    rw [w2]
    have hsin : ∀ w, w ∈ suf → 0 ≤ w.1 ∧ w.1 < (flushF d.bs d.ws).length := fun w hw => by
      rw [hfk.1, ← w2]; exact hwin w (by rw [w3]; exact List.mem_append.2 (.inr hw))
    refine flushF_agR hsin ?_ (hsufag [] _ (List.append_nil _).symm i)
    by_cases k1 : (catB recs ++ catB done).length ≤ 256 * i
    · exact .inl (agR_past k1)
    by_cases k3 : ((catB recs).length : Int) < ((catB recs ++ catB done).length : Int)
    case neg =>
      have : catB done = [] := List.eq_nil_of_length_eq_zero (by omega)
      rw [this, List.append_nil]
      exact .inl (flushF_agR hdin (.inl (hag i hi).1) (hag i hi).2)
    by_cases k2 : 256 * (i + 1) ≤ (catB recs).length
    · left
      refine agR_full (bOk_len (hfk.2 _ (nth_get (by omega) (by rw [hfk.1, hs.2.2]; omega)))) k2 ?_
      exact flushF_agR hdin (.inl (hag i hi).1) (hag i hi).2
    · right
      have hbl := blocksOf_nat (n := ((catB recs ++ catB done).length : Int)) (by omega)
      exact ⟨_, w5 k3 i (by omega) (by omega), rfl⟩
  have hfc : chooseB (dFlush d1).1.bs = ((n0, 0, ((catB recs).length : Int), (recs.length : Int)), a, 0) := by
    unfold chooseB
    rw [hf3, flushF_keeps (by omega) (fun w hw => ⟨(hwin w hw).1, by have := hwws w hw; omega⟩), flushF_keeps (by omega) (fun w hw => ⟨(hwin w hw).1, by have := hwws w hw; omega⟩)]
    exact hwc
  have hn0' := choose_facts (d := d) (by rw [choose_else hs.1 hws (by rw [hs.2.2]; omega), hc])
  rw [choose_else hs.1 hws (by rw [hs.2.2]; omega), hc] at hn0'
  simp only at hn0'
  have hsl : jlSlot (2, (h : Int), catB recs ++ catB done, ((catB recs).length : Int)) 0 = (0, 0, ((catB recs ++ catB done).length : Int), ((recs ++ done).length : Int)) := by
    unfold jlSlot; rw [hrec2]; rfl
  rw [hsl]
  have hrs : rightS (nextS (n0, 0, ((catB recs).length : Int), (recs.length : Int)) (0, 0, ((catB recs ++ catB done).length : Int), ((recs ++ done).length : Int))) = true := by
    rw [rightS_iff]
    show 1 ≤ n0 + 1 ∧ n0 + 1 ≤ 1099511627776 ∧ ((0 : Int) = 0 ∨ (0 : Int) = 1) ∧ (0 : Int) ≤ ((catB recs ++ catB done).length : Int) ∧ ((catB recs ++ catB done).length : Int) ≤ 65536 ∧ (0 : Int) ≤ ((recs ++ done).length : Int) ∧ ((recs ++ done).length : Int) ≤ 65536
    omega
  obtain ⟨p1, p2, p3, p4, p5⟩ := soft_put (0, 0, ((catB recs ++ catB done).length : Int), ((recs ++ done).length : Int)) hfo2 f1 (by omega) f2 hfc hrs
  have hpo := put_ok (0, 0, ((catB recs ++ catB done).length : Int), ((recs ++ done).length : Int)) hfo2
  have hpag : AgDR h (catB recs ++ catB done) (putS (0, 0, ((catB recs ++ catB done).length : Int), ((recs ++ done).length : Int)) (dFlush d1).1).1 := fun i hi =>
    ⟨by rw [p3 _ (by omega)]; exact (hfag i hi).1, fun w hw => by rw [p2] at hw; exact absurd hw List.not_mem_nil⟩
  refine ⟨?_, fun e => ⟨(p5 (f4 (w6 e).2).2).2, (p5 (f4 (w6 e).2).2).1⟩, ?_⟩
  · rcases p4 with ⟨k1, b, k2⟩ | ⟨k1, k2⟩
    · left
      rw [if_pos ⟨trivial, k1⟩]
      refine ⟨k1, dOk_le hpo (by omega), p1, hal2, ?_, ?_, hnoW p2, ?_, n0 + 1, b, ?_, by omega⟩
      · unfold lSeal
        simp only [LSt.frm, LSt.blocks, LSt.b, LSt.sealed]
        rw [catB_app]
      · rw [catB_app]; exact hB2
      · rw [catB_app]; exact hpag
      · rw [catB_app]; exact k2
    · right
      rw [if_neg (fun q => k1 q.2), hdrop]
      exact ⟨k1, hup (m := n) (dOk_le hpo (by omega)) p1 (hnoW p2) (fun i hi => ⟨agR_mono (hpag i hi).1, fun w hw => by rw [p2] at hw; exact absurd hw List.not_mem_nil⟩) k2⟩
  · intro e
    rw [if_pos ⟨trivial, e⟩]
theorem crash_open {h n : Nat} {recs : List Str} {l : LSt} {d : DSt} (keep : List Int) (H : GI h n recs l d) (h1 : 1 ≤ h) (h2 : h ≤ 63) (hn : n ≤ 80000) :
    (dCrash keep d).2 = 0 ∧ (dStart (dCrash keep d).1).2 = 0 ∧ dOk n (dCrash keep d).1 ∧ gPre (dStart (dCrash keep d).1).1 ∧ joErr (dStart (dCrash keep d).1).1 = 0 ∧ lRecs (joL (dStart (dCrash keep d).1).1) = recs ∧ lOk (joL (dStart (dCrash keep d).1).1) := by
  have hlo := H.lOk h1 h2
  have hrec := H.recs
  obtain ⟨hd, hs, hal, rfl, hB, hws, hag, n0, a, hc, hn0⟩ := H
  have e1 : dCrash keep d = (dFall keep d, 0) := by unfold dCrash; rw [if_neg (by rw [hs.1]; simp)]
  have e2 : dStart (dFall keep d) = ((false, false, d.after, d.acut, d.keep, fallF keep 0 d.bs d.ws, []), 0) := rfl
  have hco := crash_ok keep hd
  have hso := start_ok hco
  have hf := fallF_ok (keep := keep) (k := 0) hd.2.1 hd.2.2.2.1
  have hk : ∀ i : Int, 0 ≤ i → i < 2 → nth (fallF keep 0 d.bs d.ws) i [] = nth d.bs i [] := fun i h0 h3 => fallF_keeps h0 (fun w hw => ⟨(flushF_in hd w hw).1, by have := hws w hw; omega⟩)
  have hag' : ∀ i : Nat, i < h → AgR (catB recs) i (nth (fallF keep 0 d.bs d.ws) (2 + (i : Int)) []).flatten := fun i hi => fallF_agR hd.2.1 hd.2.2.2.1 (hag i hi).1 (hag i hi).2
  rw [e1] at hco hso ⊢
  simp only at hco hso ⊢
  rw [e2] at hso ⊢
  simp only at hso ⊢
  have hlen : (fallF keep 0 d.bs d.ws).length = 2 + 2 * h := hf.1.trans hs.2.2
  generalize hg : fallF keep 0 d.bs d.ws = bs' at *
  have hag2 : AgDR h (catB recs) (false, false, d.after, d.acut, d.keep, bs', []) := fun i hi => ⟨hag' i hi, fun w hw => absurd hw List.not_mem_nil⟩
  have hch : chooseS (false, false, d.after, d.acut, d.keep, bs', []) = ((n0, 0, ((catB recs).length : Int), (recs.length : Int)), a, 0) := by
    rw [choose_else rfl (fun w hw => absurd hw List.not_mem_nil) (by show 2 ≤ bs'.length; omega)]
    unfold chooseB at hc ⊢
    show choose2 (readS (nth bs' 0 []).flatten) (readS (nth bs' 1 []).flatten) = _
    rw [hk 0 (by omega) (by omega), hk 1 (by omega) (by omega)]
    exact hc
  have hgp : gPre (false, false, d.after, d.acut, d.keep, bs', []) := ⟨dOk_le hso hn, by show 4 ≤ bs'.length; omega, by show bs'.length ≤ 128; omega⟩
  have hhalf : halfD (false, false, d.after, d.acut, d.keep, bs', []) = (h : Int) := by
    rw [(half_range hgp).2.2.2]
    show ((bs'.length : Int) - 2) / 2 = _
    omega
  have hbl := blocksOf_nat (n := ((catB recs).length : Int)) (by omega)
  have hr := rd_agR hso rfl (show 2 + h ≤ bs'.length by omega) rfl hag2 (blocksOf ((catB recs).length : Int)).toNat 0 (by omega) (by omega)
  have hF : rgF 0 (false, false, d.after, d.acut, d.keep, bs', []) = 2 := by unfold rgF; omega
  have hS : rgS 0 ((catB recs).length : Int) (false, false, d.after, d.acut, d.keep, bs', []) = catB recs := by
    unfold rgS opS opRd
    rw [hF, Int.toNat_natCast]
    exact hr.2
  have hE : rgErr 0 ((catB recs).length : Int) (false, false, d.after, d.acut, d.keep, bs', []) = 0 := by
    unfold rgErr
    rw [hF, hhalf]
    have hbad : opBad 2 (h : Int) ((catB recs).length : Int) (false, false, d.after, d.acut, d.keep, bs', []) = false := by
      unfold opBad
      refine decide_eq_false ?_
      show ¬ ((2 : Int) < 0 ∨ (h : Int) < 1 ∨ (bs'.length : Int) < h ∨ (bs'.length : Int) - h < 2 ∨ ((catB recs).length : Int) < 0 ∨ (h : Int) * 256 < ((catB recs).length : Int))
      omega
    unfold opErr
    rw [hbad, if_neg (by simp)]
    have hrd : (opRd 2 ((catB recs).length : Int) (false, false, d.after, d.acut, d.keep, bs', [])).2 = 0 ∧ (opRd 2 ((catB recs).length : Int) (false, false, d.after, d.acut, d.keep, bs', [])).1.take (catB recs).length = catB recs := ⟨hr.1, hr.2⟩
    rw [if_neg (fun q => q hrd.1), Int.toNat_natCast, hrd.2, (each_catR hal).2, if_neg (by simp)]
  have hjL : joL (false, false, d.after, d.acut, d.keep, bs', []) = (2, (h : Int), catB recs, ((catB recs).length : Int)) := by
    unfold joL
    rw [hch]
    simp only
    rw [hF, hhalf, hS]
  refine ⟨trivial, trivial, hco, hgp, ?_, by rw [hjL]; exact hrec, by rw [hjL]; exact hlo⟩
  unfold joErr
  rw [hch]
  simp only
  rw [hE, if_neg (by simp), if_neg (by simp), if_neg (by simp), hS, (each_catR hal).1, if_neg (by simp)]
theorem GI.set {h n : Nat} {recs : List Str} {l : LSt} {d : DSt} (t : Int) (H : GI h n recs l d) (ht : t ≤ 9223372036854775807) : GI h n recs l (dSet (t, false, []) d).1 := by
  obtain ⟨hd, hs, hr⟩ := H
  unfold dSet
  split
  · exact ⟨hd, hs, hr⟩
  split
  · exact ⟨hd, hs, hr⟩
  · rename_i c _
    have c : ¬ t < 0 := c
    exact ⟨⟨hd.1, hd.2.1, hd.2.2.1, hd.2.2.2.1, by show -9223372036854775808 ≤ t; omega, ht, by show 0 ≤ 1000000; omega⟩, ⟨hs.1, fun _ => rfl, hs.2.2⟩, hr⟩
theorem need_fill : ∀ (recs : List Str) (n : Int) (l : LSt), 0 ≤ lRoom l →
    ((needF n recs).2 ≠ 0 → (lFill recs l).2 ≠ 0) ∧
    ((needF n recs).2 = 0 → n ≤ (needF n recs).1 ∧ ((lFill recs l).2 = 0 ↔ (needF n recs).1 - n ≤ lRoom l) ∧ ((lFill recs l).2 = 0 → lRoom (lFill recs l).1 = lRoom l - ((needF n recs).1 - n)) ∧ ((lFill recs l).2 ≠ 0 → (lFill recs l).2 = 5))
  | [], n, l, h => by
    rw [needF, lFill]
    exact ⟨fun e => absurd rfl e, fun _ => ⟨Int.le_refl _, ⟨fun _ => by show n - n ≤ lRoom l; omega, fun _ => rfl⟩, fun _ => by show lRoom l = lRoom l - (n - n); omega, fun e => absurd rfl e⟩⟩
  | s :: r, n, l, h => by
    rw [needF, lFill]
    by_cases c : (textP s).2 = 0
    case neg =>
      have e : lAdd s l = (l, (textP s).2) := by unfold lAdd; rw [if_pos c]
      rw [if_pos c, e, if_pos c]
      exact ⟨fun _ => c, fun e => absurd e c⟩
    rw [if_neg (fun q => q c)]
    by_cases c2 : lRoom l < ((textP s).1.length : Int)
    · have e : lAdd s l = (l, 5) := by unfold lAdd; rw [if_neg (fun q => q c), if_pos c2]
      rw [e, if_pos (by simp)]
      have ih := need_fill r (n + ((textP s).1.length : Int)) l h
      refine ⟨fun _ => by simp, fun e => ⟨?_, ?_, fun e => absurd e (by simp), fun _ => rfl⟩⟩
      · have := (ih.2 e).1; omega
      · have := (ih.2 e).1
        constructor
        · intro e; exact absurd e (by simp)
        · intro e; omega
    · have e : lAdd s l = ((l.frm, l.blocks, l.b ++ (textP s).1, l.sealed), 0) := by unfold lAdd; rw [if_neg (fun q => q c), if_neg c2]
      rw [e, if_neg (by simp)]
      have hrm : lRoom (l.frm, l.blocks, l.b ++ (textP s).1, l.sealed) = lRoom l - ((textP s).1.length : Int) := by
        unfold lRoom
        simp only [LSt.blocks, LSt.b, List.length_append]
        omega
      have ih := need_fill r (n + ((textP s).1.length : Int)) (l.frm, l.blocks, l.b ++ (textP s).1, l.sealed) (by rw [hrm]; omega)
      refine ⟨ih.1, fun e => ?_⟩
      obtain ⟨i1, i2, i3, i4⟩ := ih.2 e
      rw [hrm] at i2 i3
      exact ⟨by omega, i2.trans ⟨fun q => by omega, fun q => by omega⟩, fun q => by rw [i3 q]; omega, i4⟩
end Sp

/- A journal that lasts: the laws. Plain theorems. -/

namespace Sp
theorem eta_d {d : DSt} (h : (d.1, d.2.1, d.2.2.2.1) = (false, false, false)) : ((false, false, d.2.2.1, false, d.2.2.2.2) : DSt) = d := by
  obtain ⟨a, b, c, e, f⟩ := d
  simp only [Prod.mk.injEq] at h
  obtain ⟨rfl, rfl, rfl⟩ := h
  rfl
def AB : List Str := [[97], [98]]
def F6 : DSt := (formatS (dNew 6)).1
def A6 : DSt := jcD AB (joL F6) (joR F6) F6
def L6 : LSt := jcL AB (joL F6) (joR F6) F6
def B6 : DSt := rwD [[99]] (joR F6) A6
theorem f6_1 : (F6.1, F6.2.1, F6.2.2.2.1) = (false, false, false) := by decide +kernel
theorem f6_2 : joR F6 = 0 ∧ joL F6 = (2, 2, [], 0) := by decide +kernel
theorem a6_1 : (A6.1, A6.2.1, A6.2.2.2.1) = (false, false, false) := by decide +kernel
theorem a6_3 : rwE [[99]] (joR F6) A6 = 0 := by decide +kernel
theorem l6 : lOk L6 := by unfold lOk; decide +kernel
theorem l6_2 : (lRecs L6).length = 2 := by decide +kernel
theorem b6_1 : (B6.1, B6.2.1, B6.2.2.2.1) = (false, false, false) := by decide +kernel
theorem b6_2 : lOk (joL B6) := by unfold lOk; decide +kernel
theorem b6_3 : (lRecs (joL B6)).length = 1 := by decide +kernel
theorem jcD_ok {n : Nat} {recs : List Str} {l : LSt} {r : Int} {d : DSt} (hl : lOk l) (h : dOk n d) : dOk (n + 1001) (jcD recs l r d) ∧ (jcD recs l r d).bs.length = d.bs.length := by
  unfold jcD
  split
  · exact jLast_ok (lFill_ok hl) h
  · exact ⟨dOk_le h (by omega), rfl⟩
theorem rwD_ok {n : Nat} {recs : List Str} {r : Int} {d : DSt} (h : dOk n d) (hg : gPre d) (hr : 0 ≤ r ∧ r ≤ 1) : dOk (n + 1001) (rwD recs r d) ∧ (rwD recs r d).bs.length = d.bs.length := by
  unfold rwD
  split
  · rename_i c
    exact jLast_ok (lFill_ok (rg_lOk hg (by omega) c.1)) h
  · exact ⟨dOk_le h (by omega), rfl⟩
end Sp

theorem rectolaw30_abc.ok (R : Bool → Prop) (hR : R Sp.tt) : rectolaw30_abc.vc R := by
  unfold rectolaw30_abc.vc
  have h0 : Sp.dOk 0 (Sp.dNew 6) := Sp.new_ok (by omega)
  have hf : Sp.dOk 2 Sp.F6 := Sp.format_ok h0
  have hfb : (Sp.DSt.bs Sp.F6).length = 6 := by
    unfold Sp.F6
    rw [Sp.format_bs h0]
    show (List.replicate (6 : Int).toNat Sp.zeroB).length = 6
    rw [List.length_replicate]; rfl
  have hl0 : Sp.lOk (Sp.joL Sp.F6) := by rw [Sp.f6_2.2]; unfold Sp.lOk; decide
  obtain ⟨ha, hab⟩ := Sp.jcD_ok (recs := Sp.AB) (r := Sp.joR Sp.F6) hl0 hf
  have ha : Sp.dOk 1003 Sp.A6 := ha
  have hab : (Sp.DSt.bs Sp.A6).length = 6 := (by unfold Sp.A6; exact hab.trans hfb)
  have hga : Sp.gPre Sp.A6 := ⟨Sp.dOk_le ha (by omega), by omega, by omega⟩
  have hgf : Sp.gPre Sp.F6 := ⟨Sp.dOk_le hf (by omega), by omega, by omega⟩
  obtain ⟨hb, hbb⟩ := Sp.rwD_ok (recs := [[99]]) (r := Sp.joR Sp.F6) ha hga (by rw [Sp.f6_2.1]; omega)
  have hb : Sp.dOk 2004 Sp.B6 := hb
  have hgb : Sp.gPre Sp.B6 := ⟨Sp.dOk_le hb (by omega), by unfold Sp.B6; omega, by unfold Sp.B6; omega⟩
  have e0 : ((false, false, (Sp.dNew 6).2.2.1, false, (Sp.dNew 6).2.2.2.2) : Sp.DSt) = Sp.dNew 6 := rfl
  have e1 : ((false, false, Sp.F6.2.2.1, false, Sp.F6.2.2.2.2) : Sp.DSt) = Sp.F6 := Sp.eta_d Sp.f6_1
  have e2 : ((false, false, Sp.A6.2.2.1, false, Sp.A6.2.2.2.2) : Sp.DSt) = Sp.A6 := Sp.eta_d Sp.a6_1
  have e3 : ((false, false, Sp.B6.2.2.1, false, Sp.B6.2.2.2.2) : Sp.DSt) = Sp.B6 := Sp.eta_d Sp.b6_1
  have f0 : (Sp.formatS (Sp.dNew 6)).1 = Sp.F6 := rfl
  rw [e0, f0, e1]
  rw [show Sp.jcD [[97], [98]] (Sp.joL Sp.F6) (Sp.joR Sp.F6) Sp.F6 = Sp.A6 from rfl, show Sp.jcL [[97], [98]] (Sp.joL Sp.F6) (Sp.joR Sp.F6) Sp.F6 = Sp.L6 from rfl, e2]
  rw [show Sp.rwD [[99]] (Sp.joR Sp.F6) Sp.A6 = Sp.B6 from rfl, e3]
  have hr : 0 ≤ Sp.joR Sp.F6 ∧ Sp.joR Sp.F6 ≤ 1 := by rw [Sp.f6_2.1]; omega
  refine ⟨⟨Sp.dOk_le h0 (by omega), by decide +kernel, by decide +kernel⟩, ⟨⟨hl0, hgf, hr.1, hr.2⟩, by decide⟩, Sp.l6, ⟨⟨⟨Sp.l6, hga, hr.1, hr.2⟩, by decide⟩, Sp.a6_3⟩, hgb, by unfold Sp.needP.pre; decide, ?_, Sp.b6_2, ?_, Sp.b6_2, hR⟩
  · unfold Sp.eqL.pre; rw [Sp.l6_2]; omega
  · unfold Sp.eqL.pre; rw [Sp.b6_3]; omega

namespace Sp
theorem gi_new {N : Int} {h : Nat} (hN : N = 2 + 2 * h) (h1 : 1 ≤ h) (h2 : h ≤ 63) (e : (((formatS (dNew N)).1.1, (formatS (dNew N)).1.2.1, (formatS (dNew N)).1.2.2.2.1) = (false, false, false)))
    (e2 : chooseB (formatS (dNew N)).1.2.2.2.2.2.1 = ((1, 0, 0, 0), 0, 0)) (e3 : (formatS (dNew N)).1.2.2.2.2.2.2 = []) (e4 : joL (formatS (dNew N)).1 = (2, (h : Int), [], 0)) : GI h 2 [] (joL (formatS (dNew N)).1) (formatS (dNew N)).1 := by
  have h0 : dOk 0 (dNew N) := new_ok (by omega)
  have hf := format_ok h0
  have hb := format_bs h0
  generalize hF : (formatS (dNew N)).1 = F at *
  simp only [Prod.mk.injEq] at e
  have hl : (DSt.bs F).length = 2 + 2 * h := by
    rw [hb]
    show (List.replicate N.toNat zeroB).length = _
    rw [List.length_replicate]; omega
  refine ⟨hf, ⟨e.1, fun q => by rw [show DSt.armed F = F.2.1 from rfl, e.2.1] at q; exact absurd q (by simp), hl⟩, rfl, e4, Nat.zero_le _, fun w hw => ?_, fun i hi => ⟨agR_past (Nat.zero_le _), fun w hw => ?_⟩, 1, 0, e2, by omega⟩
  · rw [show DSt.ws F = F.2.2.2.2.2.2 from rfl, e3] at hw; exact absurd hw List.not_mem_nil
  · rw [show DSt.ws F = F.2.2.2.2.2.2 from rfl, e3] at hw; exact absurd hw List.not_mem_nil
theorem gi_12 : GI 5 2 [] (joL (formatS (dNew 12)).1) (formatS (dNew 12)).1 :=
  gi_new (by omega) (by omega) (by omega) (by decide +kernel) (by decide +kernel) (by decide +kernel) (by decide +kernel)
theorem gi_8 : GI 3 2 [] (joL (formatS (dNew 8)).1) (formatS (dNew 8)).1 :=
  gi_new (by omega) (by omega) (by omega) (by decide +kernel) (by decide +kernel) (by decide +kernel) (by decide +kernel)
theorem fl_12 : ((formatS (dNew 12)).1.1, (formatS (dNew 12)).1.2.1, (formatS (dNew 12)).1.2.2.2.1) = (false, false, false) := by decide +kernel
theorem fl_8 : ((formatS (dNew 8)).1.1, (formatS (dNew 8)).1.2.1, (formatS (dNew 8)).1.2.2.2.1) = (false, false, false) := by decide +kernel
theorem jr_12 : joR (formatS (dNew 12)).1 = 0 := by decide +kernel
theorem jr_8 : joR (formatS (dNew 8)).1 = 0 := by decide +kernel
theorem longR_false : ∀ {l : List RStep} {i n : Int}, longR i n l = false → ∀ s, s ∈ l → s.2.2.2.2.length ≤ 60 ∧ s.2.2.1.length ≤ 20
  | [], _, _, _ => fun s hs => absurd hs List.not_mem_nil
  | x :: l, i, n, h => by
    rw [longR] at h
    split at h
    · exact absurd h (by simp)
    rename_i c
    intro s hs
    rcases List.mem_cons.1 hs with rfl | hs
    · omega
    · split at h
      · exact absurd h (by simp)
      · exact longR_false h s hs
end Sp

theorem rectolaw30_RegionNeeds.ok (R : Bool → Prop) (l m : List Str) (h : Sz (.sl .str) l ∧ Sz (.sl .str) m) (hR : R Sp.tt) : rectolaw30_RegionNeeds.vc R l m := by
  unfold rectolaw30_RegionNeeds.vc
  refine ⟨by unfold Sp.long30.pre; simp, ?_⟩
  cases hlong : Sp.long30 [(0, 0, l, false, []), (0, 0, m, false, [])] with
  | true => exact hR
  | false =>
  have hln := (Sp.longR_false hlong (0, 0, l, false, []) (by simp)).2
  have hmn := (Sp.longR_false hlong (0, 0, m, false, []) (by simp)).2
  simp only at hln hmn
  have g0 := Sp.gi_8
  have hN : Sp.jfPre (Sp.dNew 8) := ⟨Sp.dOk_le (Sp.new_ok (by omega)) (by omega), by decide +kernel, by decide +kernel⟩
  obtain ⟨p0, q0, r0, s0⟩ := Sp.commit (more := m) g0 (by omega) (by omega) (by omega) (by omega)
  have u0 : (Sp.DSt.armed (Sp.formatS (Sp.dNew 8)).1) = false := by decide +kernel
  have u1 := (r0 u0).1
  rw [show ((false, false, (Sp.dNew 8).2.2.1, false, (Sp.dNew 8).2.2.2.2) : Sp.DSt) = Sp.dNew 8 from rfl, Sp.eta_d Sp.fl_8, Sp.jr_8]
  clear u0 r0 s0
  obtain ⟨recs, g1⟩ : ∃ recs, Sp.GI 3 1003 recs (Sp.jcL m (Sp.joL (Sp.formatS (Sp.dNew 8)).1) 0 (Sp.formatS (Sp.dNew 8)).1) (Sp.jcD m (Sp.joL (Sp.formatS (Sp.dNew 8)).1) 0 (Sp.formatS (Sp.dNew 8)).1) := by
    rcases q0 with ⟨_, q⟩ | ⟨_, q⟩
    · exact ⟨_, q⟩
    · exact ⟨_, q⟩
  clear q0
  generalize Sp.jcL m (Sp.joL (Sp.formatS (Sp.dNew 8)).1) 0 (Sp.formatS (Sp.dNew 8)).1 = L at *
  generalize Sp.jcD m (Sp.joL (Sp.formatS (Sp.dNew 8)).1) 0 (Sp.formatS (Sp.dNew 8)).1 = D at *
  obtain ⟨p1, q1, r1, s1⟩ := Sp.commit (more := l) g1 (by omega) (by omega) (by omega) (by omega)
  have hLo := g1.lOk (by omega) (by omega)
  have hroom : 0 ≤ Sp.lRoom L ∧ Sp.lRoom L ≤ 256000 := by
    obtain ⟨h1, h2, h3, h4, h5, h6, h7⟩ := hLo
    unfold Sp.lRoom
    omega
  obtain ⟨n1, n2⟩ := Sp.need_fill l 0 L hroom.1
  have hE := (r1 u1).2
  have hLo2 : Sp.lOk (Sp.jcL l L 0 D) := by
    rcases q1 with ⟨_, q⟩ | ⟨_, q⟩
    · exact q.lOk (by omega) (by omega)
    · exact q.lOk (by omega) (by omega)
  have hsame : ¬ Sp.jcE l L 0 D = 0 → Sp.jcL l L 0 D = L := by
    intro e
    rcases q1 with ⟨k, _⟩ | ⟨_, q⟩
    · exact absurd k e
    · rw [q.2.2.2.1, g1.2.2.2.1]
  have hseal : Sp.jcE l L 0 D = 0 → Sp.lRoom (Sp.jcL l L 0 D) = Sp.lRoom (Sp.lFill l L).1 := fun e => by rw [s1 e]; rfl
  rw [hE] at hsame hseal ⊢
  change (Sp.needP l).2 ≠ 0 → _ at n1
  change (Sp.needP l).2 = 0 → _ ≤ (Sp.needP l).1 ∧ (_ ↔ (Sp.needP l).1 - 0 ≤ _) ∧ (_ → _ = _ - ((Sp.needP l).1 - 0)) ∧ _ at n2
  generalize (Sp.lFill l L).2 = e at *
  generalize Sp.needP l = nd at *
  rw [cond_false]
  refine ⟨by unfold Sp.needP.pre; omega, by unfold Sp.needP.pre; omega, hN, ?_⟩
  rw [cond_ndec, if_pos rfl, cond_ndec, if_pos rfl]
  refine ⟨p0, hLo, p1, ?_⟩
  rw [cond_ndec]
  split
  · rename_i c
    obtain ⟨k1, k2, k3, k4⟩ := n2 c
    by_cases ce : e = 0
    · have hle := k2.1 ce
      have hq : eqB (decide (e = 0)) (decide (nd.1 ≤ Sp.lRoom L)) = true := by
        rw [decide_eq_true ce, decide_eq_true (show nd.1 ≤ Sp.lRoom L by omega)]; rfl
      rw [hq, cond_true, cond_dec, if_pos ce]
      refine ⟨hLo2, by rw [rg64]; omega, ?_⟩
      rw [cond_dec, if_pos (by rw [hseal ce, k3 ce]; omega)]
      exact hR
    · have hle : ¬ nd.1 ≤ Sp.lRoom L := fun q => ce (k2.2 (by omega))
      have hq : eqB (decide (e = 0)) (decide (nd.1 ≤ Sp.lRoom L)) = true := by
        rw [decide_eq_false ce, decide_eq_false hle]; rfl
      rw [hq, cond_true, cond_dec, if_neg ce, cond_dec, if_pos (k4 ce)]
      refine ⟨hLo2, ?_⟩
      rw [cond_dec, if_pos (by rw [hsame ce])]
      exact hR
  · rename_i c
    have ce := n1 c
    rw [cond_ndec, if_neg ce]
    refine ⟨hLo2, ?_⟩
    rw [cond_dec, if_pos (by rw [hsame ce])]
    exact hR


theorem rectolaw30_RegionStays.ok (R : Bool → Prop) (first : List Str) (more : Sp.RStep) (later : List Str)
    (h : Sz (.sl .str) first ∧ Sz (.pair (.int .i64) (.pair (.int .i64) (.pair (.sl .str) (.pair .bool (.sl (.int .i64)))))) more ∧ Sz (.sl .str) later) (hR : R Sp.tt) : rectolaw30_RegionStays.vc R first more later := by
  unfold rectolaw30_RegionStays.vc
  refine ⟨by unfold Sp.long30.pre; simp, ?_⟩
  cases hlong : Sp.long30 [(0, 0, first, false, []), more, (0, 0, later, false, [])] with
  | true => exact hR
  | false =>
  have hfn := (Sp.longR_false hlong (0, 0, first, false, []) (by simp)).2
  have hln := (Sp.longR_false hlong (0, 0, later, false, []) (by simp)).2
  obtain ⟨hkn, hmn⟩ := Sp.longR_false hlong more (by simp)
  simp only at hfn hln
  have hta := h.2.1.pair.2.pair.1.int
  have g0 := Sp.gi_12
  have hN : Sp.jfPre (Sp.dNew 12) := ⟨Sp.dOk_le (Sp.new_ok (by omega)) (by omega), by decide +kernel, by decide +kernel⟩
  obtain ⟨p0, q0, _, _⟩ := Sp.commit (more := first) g0 (by omega) (by omega) (by omega) (by omega)
  rw [show ((false, false, (Sp.dNew 12).2.2.1, false, (Sp.dNew 12).2.2.2.2) : Sp.DSt) = Sp.dNew 12 from rfl, Sp.eta_d Sp.fl_12, Sp.jr_12]
  obtain ⟨recs, g1⟩ : ∃ recs, Sp.GI 5 1003 recs (Sp.jcL first (Sp.joL (Sp.formatS (Sp.dNew 12)).1) 0 (Sp.formatS (Sp.dNew 12)).1) (Sp.jcD first (Sp.joL (Sp.formatS (Sp.dNew 12)).1) 0 (Sp.formatS (Sp.dNew 12)).1) := by
    rcases q0 with ⟨_, q⟩ | ⟨_, q⟩
    · exact ⟨_, q⟩
    · exact ⟨_, q⟩
  clear q0
  generalize Sp.jcL first (Sp.joL (Sp.formatS (Sp.dNew 12)).1) 0 (Sp.formatS (Sp.dNew 12)).1 = L at *
  generalize Sp.jcD first (Sp.joL (Sp.formatS (Sp.dNew 12)).1) 0 (Sp.formatS (Sp.dNew 12)).1 = D at *
  rw [cond_false]
  refine ⟨hN, p0, g1.lOk (by omega) (by omega), ⟨Sp.dOk_up g1.1 (by omega), by show 0 ≤ 1000000; omega⟩, ?_⟩
  have g1' := g1.set more.2.1 hta.2
  obtain ⟨p1, q1, _, _⟩ := Sp.commit (more := more.2.2.1) g1' (by omega) (by omega) (by omega) (by omega)
  generalize Sp.jcL more.2.2.1 L 0 (Sp.dSet (more.2.1, false, []) D).1 = L2 at *
  generalize Sp.jcD more.2.2.1 L 0 (Sp.dSet (more.2.1, false, []) D).1 = D2 at *
  generalize Sp.jcE more.2.2.1 L 0 (Sp.dSet (more.2.1, false, []) D).1 = e2 at *
  refine ⟨p1, ?_⟩
  obtain ⟨recs2, g2⟩ : ∃ recs, Sp.GI 5 2004 recs L2 D2 := by
    rcases q1 with ⟨_, q⟩ | ⟨_, q⟩
    · exact ⟨_, q⟩
    · exact ⟨_, q⟩
  have g2' := g2.set 1099511627776 (by omega)
  obtain ⟨p2, q2, _, _⟩ := Sp.commit (more := later) g2' (by omega) (by omega) (by omega) (by omega)
  generalize Sp.jcL later L2 0 (Sp.dSet (1099511627776, false, []) D2).1 = L3 at *
  generalize Sp.jcD later L2 0 (Sp.dSet (1099511627776, false, []) D2).1 = D3 at *
  generalize Sp.jcE later L2 0 (Sp.dSet (1099511627776, false, []) D2).1 = e3 at *
  have hcnt {n : Nat} {r : List Str} {l : Sp.LSt} {d : Sp.DSt} (g : Sp.GI 5 n r l d) : (Sp.lRecs l).length ≤ 1280 := by
    rw [g.recs]
    exact Nat.le_trans (Sp.catB_count r) g.2.2.2.2.1
  have eqR : ∀ r : List Str, Sp.eqL r r = true := Sp.eqL_refl
  -- what is found behind the crash
  have tail : ∀ W : List Str, (∃ n, n ≤ 4000 ∧ Sp.GI 5 n W L3 D3) → Sp.lOk L3 ∧ Sp.eqL.pre (Sp.lRecs L3) W ∧ bif !Sp.eqL (Sp.lRecs L3) W then R false else
      Sp.dFall.pre more.2.2.2.2 D3 ∧ bif !decide ((Sp.dCrash more.2.2.2.2 D3).2 = 0) then R false else
      Sp.dPre (Sp.dCrash more.2.2.2.2 D3).1 ∧ bif !decide ((Sp.dStart (Sp.dCrash more.2.2.2.2 D3).1).2 = 0) then R false else
      Sp.gPre (Sp.dStart (Sp.dCrash more.2.2.2.2 D3).1).1 ∧ bif Sp.joNil (Sp.dStart (Sp.dCrash more.2.2.2.2 D3).1).1 then bif decide (Sp.joErr (Sp.dStart (Sp.dCrash more.2.2.2.2 D3).1).1 = 0) then R false else R false else
      Sp.lOk (Sp.joL (Sp.dStart (Sp.dCrash more.2.2.2.2 D3).1).1) ∧ Sp.eqL.pre (Sp.lRecs (Sp.joL (Sp.dStart (Sp.dCrash more.2.2.2.2 D3).1).1)) W ∧ bif Sp.eqL (Sp.lRecs (Sp.joL (Sp.dStart (Sp.dCrash more.2.2.2.2 D3).1).1)) W then R Sp.tt else R false := by
    rintro W ⟨n, hn, g3⟩
    have hc3 := hcnt g3
    obtain ⟨k1, k2, k3, k4, k5, k6, k7⟩ := Sp.crash_open more.2.2.2.2 g3 (by omega) (by omega) (by omega)
    refine ⟨g3.lOk (by omega) (by omega), by unfold Sp.eqL.pre; omega, ?_⟩
    rw [g3.recs, eqR, Bool.not_true, cond_false]
    refine ⟨⟨Sp.dOk_up g3.1 (by omega), by omega⟩, ?_⟩
    rw [cond_ndec, if_pos k1]
    refine ⟨Sp.dOk_up k3 (by omega), ?_⟩
    rw [cond_ndec, if_pos k2]
    refine ⟨k4, ?_⟩
    rw [show Sp.joNil (Sp.dStart (Sp.dCrash more.2.2.2.2 D3).1).1 = false by unfold Sp.joNil; rw [k5]; rfl, cond_false]
    refine ⟨k7, by rw [k6, ← g3.recs]; unfold Sp.eqL.pre; omega, ?_⟩
    rw [k6, eqR, cond_true]
    exact hR
  have hl2 := g2.lOk (by omega) (by omega)
  have hs2 : Sp.dSet.pre (1099511627776, false, []) D2 := ⟨Sp.dOk_up g2.1 (by omega), by show 0 ≤ 1000000; omega⟩
  have hc2 := hcnt g2
  have rest : bif decide (e3 = 0) then Sp.putL.pre (Sp.lRecs L2) later ∧ Sp.lOk L3 ∧ Sp.eqL.pre (Sp.lRecs L3) (Sp.putL (Sp.lRecs L2) later) ∧ bif !Sp.eqL (Sp.lRecs L3) (Sp.putL (Sp.lRecs L2) later) then R false else
      Sp.dFall.pre more.2.2.2.2 D3 ∧ bif !decide ((Sp.dCrash more.2.2.2.2 D3).2 = 0) then R false else
      Sp.dPre (Sp.dCrash more.2.2.2.2 D3).1 ∧ bif !decide ((Sp.dStart (Sp.dCrash more.2.2.2.2 D3).1).2 = 0) then R false else
      Sp.gPre (Sp.dStart (Sp.dCrash more.2.2.2.2 D3).1).1 ∧ bif Sp.joNil (Sp.dStart (Sp.dCrash more.2.2.2.2 D3).1).1 then bif decide (Sp.joErr (Sp.dStart (Sp.dCrash more.2.2.2.2 D3).1).1 = 0) then R false else R false else
      Sp.lOk (Sp.joL (Sp.dStart (Sp.dCrash more.2.2.2.2 D3).1).1) ∧ Sp.eqL.pre (Sp.lRecs (Sp.joL (Sp.dStart (Sp.dCrash more.2.2.2.2 D3).1).1)) (Sp.putL (Sp.lRecs L2) later) ∧ bif Sp.eqL (Sp.lRecs (Sp.joL (Sp.dStart (Sp.dCrash more.2.2.2.2 D3).1).1)) (Sp.putL (Sp.lRecs L2) later) then R Sp.tt else R false
      else Sp.lOk L3 ∧ Sp.eqL.pre (Sp.lRecs L3) (Sp.lRecs L2) ∧ bif !Sp.eqL (Sp.lRecs L3) (Sp.lRecs L2) then R false else
      Sp.dFall.pre more.2.2.2.2 D3 ∧ bif !decide ((Sp.dCrash more.2.2.2.2 D3).2 = 0) then R false else
      Sp.dPre (Sp.dCrash more.2.2.2.2 D3).1 ∧ bif !decide ((Sp.dStart (Sp.dCrash more.2.2.2.2 D3).1).2 = 0) then R false else
      Sp.gPre (Sp.dStart (Sp.dCrash more.2.2.2.2 D3).1).1 ∧ bif Sp.joNil (Sp.dStart (Sp.dCrash more.2.2.2.2 D3).1).1 then bif decide (Sp.joErr (Sp.dStart (Sp.dCrash more.2.2.2.2 D3).1).1 = 0) then R false else R false else
      Sp.lOk (Sp.joL (Sp.dStart (Sp.dCrash more.2.2.2.2 D3).1).1) ∧ Sp.eqL.pre (Sp.lRecs (Sp.joL (Sp.dStart (Sp.dCrash more.2.2.2.2 D3).1).1)) (Sp.lRecs L2) ∧ bif Sp.eqL (Sp.lRecs (Sp.joL (Sp.dStart (Sp.dCrash more.2.2.2.2 D3).1).1)) (Sp.lRecs L2) then R Sp.tt else R false := by
    rcases q2 with ⟨c, q⟩ | ⟨c, q⟩
    · rw [decide_eq_true c, cond_true]
      refine ⟨⟨by omega, by omega⟩, tail _ ⟨2004 + 1001, (by omega), ?_⟩⟩
      rw [g2.recs]; exact q
    · rw [decide_eq_false c, cond_false]
      refine tail _ ⟨2004 + 1001, (by omega), ?_⟩
      rw [g2.recs]; exact q
  rw [cond_ndec]
  split
  · exact ⟨hl2, hs2, p2, rest⟩
  · rename_i c
    have hsame : Sp.lRecs L2 = Sp.lRecs L := by
      rcases q1 with ⟨k, _⟩ | ⟨_, q⟩
      · exact absurd k c
      · rw [q.recs, g1.recs]
    refine ⟨hl2, by unfold Sp.eqL.pre; omega, ?_⟩
    rw [← hsame, eqR, Bool.not_true, cond_false]
    exact ⟨hl2, hs2, p2, rest⟩
