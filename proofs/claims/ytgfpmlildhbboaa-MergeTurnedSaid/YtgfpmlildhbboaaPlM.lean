/- Lists of nodes lined up: what is told, shown of the conditions. Plain theorems. -/
import Derived.Test.YtgfpmlildhbboaaVcM
import Derived.Test.YtgfpmlildhbboaaPlB
import Derived.Test.YtgfpmlildhbboaaViThree
set_option linter.unnecessarySimpa false
set_option linter.unusedVariables false
set_option linter.unusedSectionVars false
set_option linter.unusedSimpArgs false
set_option autoImplicit false
open Go Vi

namespace Sp
theorem dg_small {n : Nat} (h : n < 10) : dg n = [UInt8.ofNat (48 + n)] := by rw [dg, if_pos h]
theorem dg_big {n : Nat} (h : ¬ n < 10) : dg n = dg (n / 10) ++ [UInt8.ofNat (48 + n % 10)] := by rw [dg, if_neg h]
theorem dig_nat {n : Nat} (h : n < 10) : (UInt8.ofNat (48 + n)).toNat = 48 + n := UInt8.toNat_ofNat_of_lt' (by show 48 + n < 256; omega)
theorem dg_range : ∀ (k n : Nat), n ≤ k → ∀ x ∈ dg n, 48 ≤ x.toNat ∧ x.toNat ≤ 57
  | k, n, hk, x, hx => by
    by_cases h : n < 10
    · rw [dg_small h, List.mem_singleton] at hx
      subst hx
      rw [dig_nat h]; omega
    · rw [dg_big h, List.mem_append, List.mem_singleton] at hx
      rcases hx with hx | hx
      · match k with
        | 0 => omega
        | k + 1 => exact dg_range k (n / 10) (by omega) x hx
      · subst hx
        rw [dig_nat (Nat.mod_lt _ (by omega))]
        have := Nat.mod_lt n (show 10 > 0 by omega)
        omega
def dval (s : Str) : Nat := s.foldl (fun a x => a * 10 + (x.toNat - 48)) 0
theorem dval_dg : ∀ (k n : Nat), n ≤ k → dval (dg n) = n
  | k, n, hk => by
    by_cases h : n < 10
    · rw [dg_small h]
      unfold dval
      simp only [List.foldl_cons, List.foldl_nil, dig_nat h]
      omega
    · rw [dg_big h]
      match k with
      | 0 => omega
      | k + 1 =>
        have ih := dval_dg k (n / 10) (by omega)
        unfold dval at *
        rw [List.foldl_append, ih]
        simp only [List.foldl_cons, List.foldl_nil, dig_nat (Nat.mod_lt n (show 10 > 0 by omega))]
        omega
theorem dg_inj {n m : Nat} (h : dg n = dg m) : n = m := by
  rw [← dval_dg n n (Nat.le_refl _), ← dval_dg m m (Nat.le_refl _), h]
theorem dg_len : ∀ (k n : Nat), n < 10 ^ (k + 1) → (dg n).length ≤ k + 1
  | k, n, hk => by
    by_cases h : n < 10
    · rw [dg_small h]; simp
    · rw [dg_big h]
      match k with
      | 0 => simp at hk; omega
      | k + 1 =>
        have e : 10 ^ (k + 1 + 1) = 10 ^ (k + 1) * 10 := Nat.pow_succ _ _
        have := dg_len k (n / 10) (by omega)
        simp only [List.length_append, List.length_cons, List.length_nil]
        omega

theorem mark_split {m : UInt8} : ∀ (u v : Str), (∀ x ∈ u, x ≠ m) → (∀ x ∈ v, x ≠ m) → ∀ r s, u ++ m :: r = v ++ m :: s → u = v ∧ r = s
  | [], [], _, _, r, s, h => by simpa using h
  | [], y :: v, _, h2, r, s, h => by
    simp only [List.nil_append, List.cons_append, List.cons.injEq] at h
    exact absurd h.1.symm (h2 y (by simp))
  | x :: u, [], h1, _, r, s, h => by
    simp only [List.nil_append, List.cons_append, List.cons.injEq] at h
    exact absurd h.1 (h1 x (by simp))
  | x :: u, y :: v, h1, h2, r, s, h => by
    simp only [List.cons_append, List.cons.injEq] at h
    have := mark_split u v (fun z hz => h1 z (by simp [hz])) (fun z hz => h2 z (by simp [hz])) r s h.2
    exact ⟨by rw [h.1, this.1], this.2⟩

/-- What stands ahead of the mark. -/
def dgh (n : Int) : Str := if n < 0 then 45 :: dg (-1 - n).toNat else dg n.toNat
theorem dgs_h (n : Int) : dgs n = dgh n ++ [46] := rfl
theorem dgh_no (n : Int) : ∀ x ∈ dgh n, x ≠ 46 := by
  intro x hx e
  subst e
  unfold dgh at hx
  split at hx
  · rcases List.mem_cons.1 hx with h | h
    · exact absurd h (by decide)
    · have := dg_range _ _ (Nat.le_refl _) _ h
      simp at this
  · have := dg_range _ _ (Nat.le_refl _) _ hx
    simp at this
theorem dgh_inj {a b : Int} (h : dgh a = dgh b) : a = b := by
  have no (k : Nat) (l : Str) (e : 45 :: l = dg k) : False := by
    have := dg_range k k (Nat.le_refl _) 45 (by rw [← e]; simp)
    simp at this
  unfold dgh at h
  split at h
  · split at h
    · simp only [List.cons.injEq, true_and] at h
      have := dg_inj h
      omega
    · exact (no _ _ h).elim
  · split at h
    · exact (no _ _ h.symm).elim
    · have := dg_inj h
      omega
theorem dgs_inj {a b : Int} {r s : Str} (h : dgs a ++ r = dgs b ++ s) : a = b ∧ r = s := by
  rw [dgs_h, dgs_h, List.append_assoc, List.append_assoc] at h
  have := mark_split _ _ (dgh_no a) (dgh_no b) r s h
  exact ⟨dgh_inj this.1, this.2⟩
theorem dgs_len {a : Int} (h : dgs.pre a) : (dgs a).length ≤ 21 := by
  unfold dgs.pre at h
  rw [dgs_h, List.length_append]
  unfold dgh
  split
  · have := dg_len 18 (-1 - a).toNat (by omega)
    simp; omega
  · have := dg_len 18 a.toNat (by omega)
    simp; omega
theorem dgs_pos (a : Int) : 1 ≤ (dgs a).length := by rw [dgs_h]; simp
theorem dgs_neg {n : Int} (h : n < 0) : dgs n = 45 :: dgs (-1 - n) := by
  unfold dgs
  rw [if_pos h, if_neg (by omega)]; rfl
theorem dgs_small {n : Int} (h0 : 0 ≤ n) (h : n < 10) : dgs n = [UInt8.ofNat (48 + n.toNat), 46] := by
  unfold dgs
  rw [if_neg (by omega), dg_small (by omega)]; rfl
theorem dgs_big {n : Int} (h : 10 ≤ n) : dgs n = sub (dgs (n / 10)) 0 (((dgs (n / 10)).length : Int) - 1) ++ [UInt8.ofNat (48 + (n % 10).toNat), 46] := by
  have e1 : (n / 10).toNat = n.toNat / 10 := by omega
  have e2 : (n % 10).toNat = n.toNat % 10 := by omega
  have e3 : sub (dgs (n / 10)) 0 (((dgs (n / 10)).length : Int) - 1) = dgh (n / 10) := by
    rw [dgs_h]
    unfold sub
    rw [show (((dgh (n / 10) ++ [(46 : UInt8)]).length : Int) - 1).toNat = (dgh (n / 10)).length by simp]
    simp
  rw [e3, e2]
  unfold dgs dgh
  rw [if_neg (by omega), if_neg (by omega), dg_big (n := n.toNat) (by omega), e1]
  simp

theorem tx_inj {a b r s : Str} (h : tx a ++ r = tx b ++ s) : a = b ∧ r = s := by
  unfold tx at h
  rw [List.append_assoc, List.append_assoc] at h
  obtain ⟨h1, h2⟩ := dgs_inj h
  exact List.append_inj h2 (by omega)
theorem atx_cons (x : Str × Str) (a : List (Str × Str)) : atx (x :: a) = tx x.1 ++ tx x.2 ++ atx a := by unfold atx; simp
theorem atx_inj : ∀ {a b : List (Str × Str)} {r s : Str}, a.length = b.length → atx a ++ r = atx b ++ s → a = b ∧ r = s
  | [], [], r, s, _, h => ⟨rfl, by simpa [atx] using h⟩
  | [], _ :: _, _, _, hl, _ => by simp at hl
  | _ :: _, [], _, _, hl, _ => by simp at hl
  | x :: a, y :: b, r, s, hl, h => by
    rw [atx_cons, atx_cons] at h
    simp only [List.append_assoc] at h
    obtain ⟨h1, h2⟩ := tx_inj h
    obtain ⟨h3, h4⟩ := tx_inj h2
    obtain ⟨h5, h6⟩ := atx_inj (by simpa using hl) h4
    exact ⟨by rw [h5, Prod.ext h1 h3], h6⟩
mutual
theorem key_cut : ∀ (n m : Nd) (r s : Str), key n ++ r = key m ++ s → n = m ∧ r = s
  | .mk k p n a t c, .mk k' p' n' a' t' c', r, s, h => by
    rw [key, key] at h
    simp only [List.append_assoc] at h
    obtain ⟨h1, h⟩ := dgs_inj h
    obtain ⟨h2, h⟩ := dgs_inj h
    obtain ⟨h3, h⟩ := tx_inj h
    obtain ⟨h4, h⟩ := tx_inj h
    obtain ⟨h5, h⟩ := dgs_inj h
    obtain ⟨h6, h⟩ := atx_inj (by omega) h
    obtain ⟨h7, h⟩ := dgs_inj h
    obtain ⟨h8, h⟩ := keys_cut c c' r s (by omega) h
    exact ⟨by rw [h1, h2, h3, h4, h6, h8], h⟩
theorem keys_cut : ∀ (l m : List Nd) (r s : Str), l.length = m.length → keys l ++ r = keys m ++ s → l = m ∧ r = s
  | [], [], r, s, _, h => by rw [keys] at h; exact ⟨rfl, h⟩
  | [], _ :: _, _, _, hl, _ => by simp at hl
  | _ :: _, [], _, _, hl, _ => by simp at hl
  | x :: l, y :: m, r, s, hl, h => by
    rw [keys, keys, List.append_assoc, List.append_assoc] at h
    obtain ⟨h1, h⟩ := key_cut x y _ _ h
    obtain ⟨h2, h⟩ := keys_cut l m r s (by simpa using hl) h
    exact ⟨by rw [h1, h2], h⟩
end
theorem key_iff {n m : Nd} : key n = key m ↔ n = m :=
  ⟨fun h => (key_cut n m [] [] (by rw [h])).1, fun h => by rw [h]⟩
theorem keysOf_iff {a b : List Nd} : keysOf a = keysOf b ↔ a = b := by
  unfold keysOf
  exact ⟨fun h => (List.map_inj_right (fun x y hxy => key_iff.1 hxy)).1 h, fun h => by rw [h]⟩
theorem eqNd_iff {a b : Nd} : eqNd a b = true ↔ a = b := by unfold eqNd; rw [decide_eq_true_iff, key_iff]
theorem eqNs_iff {a b : List Nd} : eqNs a b = true ↔ a = b := by unfold eqNs; rw [decide_eq_true_iff, keysOf_iff]
theorem label_iff {n m : Nd} : label n = label m ↔ n.kind = m.kind ∧ n.space = m.space ∧ n.name = m.name := by
  unfold label
  constructor
  · intro h
    rw [List.append_assoc, List.append_assoc] at h
    obtain ⟨h1, h⟩ := dgs_inj h
    obtain ⟨h2, h⟩ := dgs_inj h
    exact ⟨h1, h2, h⟩
  · rintro ⟨h1, h2, h3⟩; rw [h1, h2, h3]

theorem okN_iff {n : Nd} : okN n ↔ dgs.pre n.kind ∧ dgs.pre n.space ∧ n.attrs.length ≤ 140737488351232 ∧ n.kids.length ≤ 140737488351232 ∧ okL n.kids := by
  cases n; rw [okN]; rfl
theorem okL_iff : ∀ {l : List Nd}, okL l ↔ ∀ n ∈ l, okN n
  | [] => by rw [okL]; simp
  | n :: l => by rw [okL, okL_iff (l := l)]; simp
theorem szN_eq (n : Nd) : szN n = 1 + szL n.kids := by cases n; rw [szN]; rfl
theorem szL_mem : ∀ {l : List Nd} {n : Nd}, n ∈ l → szN n ≤ szL l
  | [], _, h => by cases h
  | m :: l, n, h => by
    rw [szL]
    rcases List.mem_cons.1 h with h | h
    · subst h; omega
    · have := szL_mem h; omega
theorem key_eq (n : Nd) : key n = (dgs n.kind ++ dgs n.space ++ tx n.name ++ tx n.text ++ dgs n.attrs.length) ++ atx n.attrs ++ dgs n.kids.length ++ keys n.kids := by
  cases n; rw [key]; rfl
theorem keys_len_mem : ∀ {l : List Nd} {n : Nd}, n ∈ l → (key n).length ≤ (keys l).length
  | [], _, h => by cases h
  | m :: l, n, h => by
    rw [keys, List.length_append]
    rcases List.mem_cons.1 h with h | h
    · subst h; omega
    · have := keys_len_mem h; omega
theorem key_pos (n : Nd) : 1 ≤ (key n).length := by
  rw [key_eq]
  have := dgs_pos n.kind
  simp only [List.length_append]
  omega
theorem keys_len : ∀ (l : List Nd), l.length ≤ (keys l).length
  | [] => Nat.zero_le _
  | n :: l => by
    have := keys_len l
    have := key_pos n
    rw [keys, List.length_append, List.length_cons]
    omega
theorem keys_app : ∀ (a b : List Nd), keys (a ++ b) = keys a ++ keys b
  | [], b => by simp [keys]
  | n :: l, b => by rw [List.cons_append, keys, keys, keys_app l b, List.append_assoc]
theorem nth_mem {α : Type} {l : List α} {p : Nat} {d : α} (h : p < l.length) : nth l (p : Int) d ∈ l := by
  rw [nth_lt h]; exact List.getElem_mem h
theorem tx_len (s : Str) : s.length ≤ (tx s).length := by unfold tx; simp
end Sp


namespace Sp
theorem m_bytesOf_ints (s : Str) : bytesOf (ints s) = s := by
  unfold bytesOf ints
  rw [List.map_map]
  conv => rhs; rw [← List.map_id s]
  apply List.map_congr_left
  intro x _
  simp
theorem m_bytesOf_wr (x : List Int) (s : Str) : bytesOf (wr x s) = bytesOf x ++ s := by
  unfold wr
  have := m_bytesOf_ints s
  unfold bytesOf at *
  rw [List.map_append, this]
theorem m_bytesOf_len (x : List Int) : (bytesOf x).length = x.length := by unfold bytesOf; simp
theorem m_wrap8 {n : Int} (h0 : 0 ≤ n) (h : n < 256) : IntKind.u8.wrap n = n := by
  show n % 256 = n
  omega
theorem dig_bytes {n : Int} (h0 : 0 ≤ n) (h : n < 10) : bytesOf [IntKind.u8.wrap (48 + n), 46] = [UInt8.ofNat (48 + n.toNat), 46] := by
  rw [m_wrap8 (by omega) (by omega)]
  unfold bytesOf
  simp only [List.map_cons, List.map_nil]
  rw [show (48 + n).toNat = 48 + n.toNat by omega]
  rfl
end Sp

theorem strings_Builder_WriteString.ok (R : Int → List Int → Prop) (s : Str) (x : List Int) (h : Sp.wr.pre x s) (hR : R (s.length : Int) (Sp.wr x s)) : strings_Builder_WriteString.vc R s x := by
  unfold Sp.wr.pre at h
  refine ⟨?_, hR⟩
  rw [gr_iff, List.length_map]; omega
theorem strings_Builder_String.ok (R : List UInt8 → Prop) (x : List Int) (hR : R (bytesOf x)) : strings_Builder_String.vc R x := ⟨rfl, hR⟩

theorem keys_digits.ok (nn : Nat) (R : List UInt8 → Prop) (n : Int) (h : Sp.dgs.pre n ∧ Sp.dgm n < nn + 1) (hR : R (Sp.dgs n)) : keys_digits.vc R nn n := by
  obtain ⟨h1, h2⟩ := h
  have h1' := h1
  unfold Sp.dgs.pre at h1'
  unfold Sp.dgm at h2
  unfold keys_digits.vc
  rw [cond_dec, cond_dec]
  split
  · rename_i c
    rw [if_pos c] at h2
    have hp : Sp.dgs.pre (cpl n) := by unfold Sp.dgs.pre cpl; omega
    have hd := Sp.dgs_len hp
    refine ⟨by rw [rg64]; unfold cpl; omega, ⟨hp, ?_⟩, by omega, ?_⟩
    · unfold Sp.dgm cpl; rw [if_neg (by omega)]; omega
    · rw [Sp.dgs_neg c] at hR; exact hR
  · rename_i c
    rw [if_neg c] at h2
    split
    · rename_i c2
      refine ⟨by rw [rg64]; omega, ?_⟩
      rw [Sp.dig_bytes (by omega) c2, ← Sp.dgs_small (by omega) c2]
      exact hR
    · rename_i c2
      have hp : Sp.dgs.pre (n / 10) := by unfold Sp.dgs.pre; omega
      have hd := Sp.dgs_len hp
      have hd1 := Sp.dgs_pos (n / 10)
      have hs : (sub (Sp.dgs (n / 10)) 0 (((Sp.dgs (n / 10)).length : Int) - 1)).length ≤ 21 := Nat.le_trans (Sp.sub_le _ _ _) hd
      rw [Sp.dig_bytes (by omega) (by omega)]
      refine ⟨⟨by omega, by omega⟩, ⟨hp, ?_⟩, by rw [rg64]; omega, by rw [sb_iff]; omega, ⟨by omega, by omega⟩, by rw [rg64]; omega, ?_, ?_⟩
      · unfold Sp.dgm; rw [if_neg (by omega)]; omega
      · simp only [List.length_cons, List.length_nil]; omega
      · rw [← Sp.dgs_big (by omega)]; exact hR

theorem keys_text.ok (R : List UInt8 → Prop) (s : Str) (h : Sp.tx.pre s) (hR : R (Sp.tx s)) : keys_text.vc R s := by
  unfold Sp.tx.pre at h
  have hp : Sp.dgs.pre (s.length : Int) := by unfold Sp.dgs.pre; omega
  have := Sp.dgs_len hp
  exact ⟨hp, by omega, hR⟩

theorem keys_Label.ok (R : List UInt8 → Prop) (n : Vi.Node) (h : Sp.label.pre n) (hR : R (Sp.label n)) : keys_Label.vc R n := by
  obtain ⟨h1, h2, h3⟩ := h
  have := Sp.dgs_len h1
  have := Sp.dgs_len h2
  exact ⟨h1, h2, by omega, by simp only [List.length_append]; omega, hR⟩

theorem keys_Key.ok (nn : Nat) (R : List UInt8 → Prop) (n : Vi.Node) (h : Sp.key.pre n ∧ Sp.szN n < nn + 1) (hR : R (Sp.key n)) : keys_Key.vc R nn n := by
  obtain ⟨⟨h1, h2⟩, h3⟩ := h
  obtain ⟨o1, o2, o3, o4, o5⟩ := Sp.okN_iff.1 h1
  have hk := Sp.key_eq n
  have hl := congrArg List.length hk
  simp only [List.length_append] at hl
  have d1 := Sp.dgs_len o1
  have d2 := Sp.dgs_len o2
  have t1 := Sp.tx_len n.name
  have t2 := Sp.tx_len n.text
  have p3 : Sp.dgs.pre (n.attrs.length : Int) := by unfold Sp.dgs.pre; omega
  have p4 : Sp.dgs.pre (n.kids.length : Int) := by unfold Sp.dgs.pre; omega
  have d3 := Sp.dgs_len p3
  have d4 := Sp.dgs_len p4
  rw [Sp.szN_eq] at h3
  unfold keys_Key.vc
  refine ⟨o1, o2, by omega, by unfold Sp.tx.pre; omega, by simp only [List.length_append]; omega, by unfold Sp.tx.pre; omega, by simp only [List.length_append]; omega, p3, by simp only [List.length_append]; omega, by unfold Sp.wr.pre; simp only [List.length_append, List.length_nil]; omega, ?_⟩
  refine Lp_rule (fun v => ∃ (p : Nat) (x : List Int), v = (n.attrs, (n.attrs.length : Int), (p : Int), n.kind, n.space, n.name, n.attrs, n.text, n.kids, x, ()) ∧ p ≤ n.attrs.length ∧
      bytesOf x ++ (Sp.atx (n.attrs.drop p) ++ (Sp.dgs n.kids.length ++ Sp.keys n.kids)) = Sp.key n)
    (fun v => n.attrs.length - v.2.2.1.toNat) ?_ ⟨0, _, rfl, Nat.zero_le _, by rw [Sp.m_bytesOf_wr, hk]; simp [bytesOf]⟩
  rintro _ K ⟨p, x, rfl, hp, hx⟩ hK
  have hxl := congrArg List.length hx
  simp only [List.length_append, Sp.m_bytesOf_len] at hxl
  simp only [keys_Key.L0]
  rw [cond_dec]
  split
  · rename_i c
    have hp' : p < n.attrs.length := by omega
    rw [drop_cons (d := ([], [])) hp', Sp.atx_cons] at hx hxl
    generalize nth n.attrs (p : Int) ([], []) = q at *
    simp only [List.length_append] at hxl
    have u1 := Sp.tx_len q.1
    have u2 := Sp.tx_len q.2
    simp only [rg64, ix_iff]
    refine ⟨by omega, by unfold Sp.tx.pre; omega, by unfold Sp.tx.pre; omega, by omega, by unfold Sp.wr.pre; simp only [List.length_append]; omega, by omega, hK _ ⟨p + 1, _, rfl, by omega, ?_⟩ (by simp; omega)⟩
    rw [Sp.m_bytesOf_wr, ← hx]
    simp only [List.append_assoc]
  · rename_i c
    have e : p = n.attrs.length := by omega
    subst e
    rw [List.drop_length] at hx hxl
    refine ⟨p4, by unfold Sp.wr.pre; omega, ?_⟩
    refine Lp_rule (fun v => ∃ (p : Nat) (x : List Int), v = (n.kids, (n.kids.length : Int), (p : Int), x, ()) ∧ p ≤ n.kids.length ∧ bytesOf x ++ Sp.keys (n.kids.drop p) = Sp.key n)
      (fun v => n.kids.length - v.2.2.1.toNat) ?_ ⟨0, _, rfl, Nat.zero_le _, by rw [Sp.m_bytesOf_wr, ← hx]; simp [Sp.atx]⟩
    clear hK hx hxl
    rintro _ K ⟨p, x, rfl, hp, hx⟩ hK
    have hxl := congrArg List.length hx
    simp only [List.length_append, Sp.m_bytesOf_len] at hxl
    simp only [keys_Key.L1, Node.eta]
    rw [cond_dec]
    split
    · rename_i c
      have hp' : p < n.kids.length := by omega
      have hm : nth n.kids (p : Int) (Vi.Node.mk 0 0 [] [] [] []) ∈ n.kids := Sp.nth_mem hp'
      rw [drop_cons (d := Vi.Node.mk 0 0 [] [] [] []) hp', Sp.keys] at hx hxl
      generalize nth n.kids (p : Int) (Vi.Node.mk 0 0 [] [] [] []) = q at *
      simp only [List.length_append] at hxl
      have := Sp.szL_mem hm
      simp only [rg64, ix_iff]
      refine ⟨by omega, ⟨⟨Sp.okL_iff.1 o5 q hm, by omega⟩, by omega⟩, by unfold Sp.wr.pre; omega, by omega, hK _ ⟨p + 1, _, rfl, by omega, ?_⟩ (by simp; omega)⟩
      rw [Sp.m_bytesOf_wr, ← hx, List.append_assoc]
    · rename_i c
      have e : p = n.kids.length := by omega
      subst e
      rw [List.drop_length, Sp.keys, List.append_nil] at hx
      rw [hx]
      exact hR

theorem match_texts_key.ok (R : List (List UInt8) → Prop) (l : List Vi.Node) (h : Sp.keysOf.pre l) (hR : R (Sp.keysOf l)) : match_texts_key.vc R l := by
  obtain ⟨h1, h2, h3⟩ := h
  refine Lp_rule (fun v => ∃ (p : Nat) (x : List Str), v = (l, (l.length : Int), (p : Int), x, ()) ∧ p ≤ l.length ∧ x.length ≤ p ∧ x ++ Sp.keysOf (l.drop p) = Sp.keysOf l)
    (fun v => l.length - v.2.2.1.toNat) ?_ ⟨0, _, rfl, Nat.zero_le _, Nat.zero_le _, rfl⟩
  rintro _ K ⟨p, x, rfl, hp, hl, hx⟩ hK
  simp only [match_texts_key.L0, Node.eta]
  rw [cond_dec]
  split
  · rename_i c
    have hp' : p < l.length := by omega
    have hm : nth l (p : Int) (Vi.Node.mk 0 0 [] [] [] []) ∈ l := Sp.nth_mem hp'
    rw [drop_cons (d := Vi.Node.mk 0 0 [] [] [] []) hp'] at hx
    generalize nth l (p : Int) (Vi.Node.mk 0 0 [] [] [] []) = q at *
    have := Sp.keys_len_mem hm
    simp only [rg64, ix_iff, gr_iff]
    refine ⟨by omega, ⟨Sp.okL_iff.1 h1 q hm, by omega⟩, by omega, by omega, hK _ ⟨p + 1, _, rfl, by omega, by simp; omega, ?_⟩ (by simp; omega)⟩
    rw [← hx, List.append_assoc]; rfl
  · rename_i c
    rw [drop_end (by omega)] at hx
    rw [show x = Sp.keysOf l by rw [← hx]; simp [Sp.keysOf]]
    exact hR

theorem Sp.name_len (n : Vi.Node) : n.name.length ≤ (Sp.key n).length := by
  rw [Sp.key_eq]
  have := Sp.tx_len n.name
  simp only [List.length_append]
  omega

theorem match_texts_label.ok (R : List (List UInt8) → Prop) (l : List Vi.Node) (h : Sp.labelsOf.pre l) (hR : R (Sp.labelsOf l)) : match_texts_label.vc R l := by
  obtain ⟨h1, h2, h3⟩ := h
  refine Lp_rule (fun v => ∃ (p : Nat) (x : List Str), v = (l, (l.length : Int), (p : Int), x, ()) ∧ p ≤ l.length ∧ x.length ≤ p ∧ x ++ Sp.labelsOf (l.drop p) = Sp.labelsOf l)
    (fun v => l.length - v.2.2.1.toNat) ?_ ⟨0, _, rfl, Nat.zero_le _, Nat.zero_le _, rfl⟩
  rintro _ K ⟨p, x, rfl, hp, hl, hx⟩ hK
  simp only [match_texts_label.L0, Node.eta]
  rw [cond_dec]
  split
  · rename_i c
    have hp' : p < l.length := by omega
    have hm : nth l (p : Int) (Vi.Node.mk 0 0 [] [] [] []) ∈ l := Sp.nth_mem hp'
    rw [drop_cons (d := Vi.Node.mk 0 0 [] [] [] []) hp'] at hx
    generalize nth l (p : Int) (Vi.Node.mk 0 0 [] [] [] []) = q at *
    have := Sp.keys_len_mem hm
    have := Sp.name_len q
    have ho := Sp.okN_iff.1 (Sp.okL_iff.1 h1 q hm)
    simp only [rg64, ix_iff, gr_iff]
    refine ⟨by omega, ⟨ho.1, ho.2.1, by omega⟩, by omega, by omega, hK _ ⟨p + 1, _, rfl, by omega, by simp; omega, ?_⟩ (by simp; omega)⟩
    rw [← hx, List.append_assoc]; rfl
  · rename_i c
    rw [drop_end (by omega)] at hx
    rw [show x = Sp.labelsOf l by rw [← hx]; simp [Sp.labelsOf]]
    exact hR


namespace Sp
theorem firstAt_le (s : Str) (y : List Str) : ∀ (n : Nat) (j : Int), firstAt s y n j = -1 ∨ (j ≤ firstAt s y n j ∧ firstAt s y n j < j + n)
  | 0, j => .inl rfl
  | n + 1, j => by
    rw [firstAt]
    split
    · right; omega
    · rcases firstAt_le s y n (j + 1) with h | h
      · exact .inl h
      · right; omega
theorem alikeAt_len (x y : List Str) (to : Int) : ∀ (n : Nat) (i f : Int), (alikeAt x y to n i f).length ≤ n
  | 0, i, f => Nat.le_refl _
  | n + 1, i, f => by
    rw [alikeAt]
    have h1 := alikeAt_len x y to n (i + 1)
    split
    · have := h1 f; omega
    · have := h1 (firstAt (nth x i []) y (to - f).toNat f + 1)
      simp only [List.length_cons]; omega
end Sp

theorem match_gap_alike.ok (R : List (Int × Int × Bool) → Prop) (g : Int × Int × Int × Int) (a b : List Str) (h : Sp.alike.pre g a b) (hR : R (Sp.alike g a b)) : match_gap_alike.vc R g a b := by
  obtain ⟨ga, gb, ta, tb⟩ := g
  obtain ⟨h1, h2, h3, h4, h5, h6⟩ := h
  simp only at h1 h2 h3 h4
  unfold Sp.alike at hR
  simp only at hR
  unfold match_gap_alike.vc
  simp only
  refine Lp_rule (fun v => ∃ (f i : Int) (out : List Sp.NPair), v = (a, b, f, i, ga, gb, ta, tb, out, ()) ∧ ga ≤ i ∧ 0 ≤ f ∧ (out.length : Int) ≤ i - ga ∧ out ++ Sp.alikeAt a b tb (ta - i).toNat i f = Sp.alikeAt a b tb (ta - ga).toNat ga gb)
    (fun v => (ta - v.2.2.2.1).toNat) ?_ ⟨gb, ga, [], rfl, Int.le_refl _, h3, by simp, rfl⟩
  rintro _ K ⟨f, i, out, rfl, hi, hf, ho, he⟩ hK
  simp only [match_gap_alike.L0]
  rw [cond_dec]
  split
  · rename_i c
    obtain ⟨m, hm⟩ : ∃ m, (ta - i).toNat = m + 1 := ⟨(ta - i).toNat - 1, by omega⟩
    have hm' : (ta - (i + 1)).toNat = m := by omega
    rw [hm, Sp.alikeAt] at he
    refine Lp_rule (fun v => ∃ j : Int, v = (a, b, f, i, j, ga, gb, ta, tb, out, ()) ∧ f ≤ j ∧ Sp.firstAt (nth a i []) b (tb - j).toNat j = Sp.firstAt (nth a i []) b (tb - f).toNat f)
      (fun v => (tb - v.2.2.2.2.1).toNat) ?_ ⟨f, rfl, Int.le_refl _, rfl⟩
    rintro _ K1 ⟨j, rfl, hj, hfa⟩ hK1
    simp only [match_gap_alike.L1]
    rw [cond_dec]
    split
    · rename_i c2
      obtain ⟨q, hq⟩ : ∃ q, (tb - j).toNat = q + 1 := ⟨(tb - j).toNat - 1, by omega⟩
      have hq' : (tb - (j + 1)).toNat = q := by omega
      rw [hq, Sp.firstAt] at hfa
      rw [cond_dec]
      simp only [rg64, ix_iff, gr_iff]
      refine ⟨by omega, by omega, ?_⟩
      split
      · rename_i c3
        rw [if_pos c3] at hfa
        rw [← hfa, if_neg (by omega)] at he
        refine ⟨by omega, by omega, by omega, hK _ ⟨j + 1, i + 1, _, rfl, by omega, by omega, by simp; omega, ?_⟩ (by simp; omega)⟩
        rw [hm', ← he, List.append_assoc]; rfl
      · rename_i c3
        rw [if_neg c3] at hfa
        exact ⟨by omega, hK1 _ ⟨j + 1, rfl, by omega, by rw [hq']; exact hfa⟩ (by simp; omega)⟩
    · rename_i c2
      rw [show (tb - j).toNat = 0 by omega, Sp.firstAt] at hfa
      rw [← hfa, if_pos (by omega)] at he
      refine ⟨by rw [rg64]; omega, hK _ ⟨f, i + 1, _, rfl, by omega, hf, by omega, ?_⟩ (by simp; omega)⟩
      rw [hm']; exact he
  · rename_i c
    rw [show (ta - i).toNat = 0 by omega, Sp.alikeAt, List.append_nil] at he
    rw [he]; exact hR

namespace Sp
/-- As 'listsAt', the end being a pair. -/
def listsE (x y : List Str) : Int → Int → List NPair → List NPair
  | _, _, [] => []
  | i, j, p :: r => alikeAt x y p.2.1 (p.1 - i).toNat i j ++ p :: listsE x y (p.1 + 1) (p.2.1 + 1) r
theorem listsE_end (x y : List Str) (ea eb : Int) : ∀ (l : List NPair) (i j : Int), listsE x y i j (l ++ [(ea, eb, true)]) = listsAt x y ea eb i j l ++ [(ea, eb, true)]
  | [], i, j => rfl
  | p :: r, i, j => by
    have := listsE_end x y ea eb r (p.1 + 1) (p.2.1 + 1)
    simp only [List.cons_append, listsE, listsAt, List.append_assoc, this]
theorem rises_end (n m : Nat) (b : Bool) : ∀ (l : List Pair) (i j : Nat), Rises n m i j l → i ≤ n → j ≤ m → Rises (n + 1) (m + 1) i j (l ++ [((n : Int), (m : Int), b)])
  | [], i, j, _, h1, h2 => ⟨by simp only; omega, by simp only; omega, by simp only; omega, by simp only; omega, trivial⟩
  | p :: r, i, j, ⟨h1, h2, h3, h4, h5⟩, _, _ => ⟨h1, by omega, h3, by omega, rises_end n m b r _ _ h5 (by omega) (by omega)⟩
theorem labels_len (l : List Nd) : (labelsOf l).length = l.length := by unfold labelsOf; simp
theorem keysOf_len (l : List Nd) : (keysOf l).length = l.length := by unfold keysOf; simp
end Sp

theorem match_Lists.ok (R : List (Int × Int × Bool) → Prop) (a b : List Vi.Node) (h : Sp.lists.pre a b) (hR : R (Sp.lists a b)) : match_Lists.vc R a b := by
  obtain ⟨h1, h2⟩ := h
  have h3 := h1.2.1
  have h4 := h2.2.1
  have ws := Sp.lines_size (Sp.keysOf a) (Sp.keysOf b)
  have hri := Sp.lines_rises (Sp.keysOf a) (Sp.keysOf b)
  rw [Sp.keysOf_len] at ws
  rw [Sp.keysOf_len, Sp.keysOf_len] at hri
  unfold Sp.lists at hR
  unfold match_Lists.vc
  generalize Sp.lines (Sp.keysOf a) (Sp.keysOf b) = W at *
  refine ⟨h1, h2, ⟨by rw [Sp.keysOf_len]; omega, by rw [Sp.keysOf_len]; omega⟩, h1, h2, by rw [gr_iff]; omega, ?_⟩
  have hrE := Sp.rises_end a.length b.length true W 0 0 hri (Nat.zero_le _) (Nat.zero_le _)
  have hE := Sp.listsE_end (Sp.labelsOf a) (Sp.labelsOf b) a.length b.length W 0 0
  have hWl : (W ++ [((a.length : Int), (b.length : Int), true)]).length ≤ 1000001 := by simp; omega
  generalize W ++ [((a.length : Int), (b.length : Int), true)] = WE at *
  have la := Sp.labels_len a
  have lb := Sp.labels_len b
  generalize Sp.labelsOf a = x at *
  generalize Sp.labelsOf b = y at *
  refine Lp_rule (fun v => ∃ (p ga gb : Nat) (out : List Sp.NPair) (u w : Int), v = (x, y, (WE.length : Int), (p : Int), out, (ga : Int), (gb : Int), u, w, WE, ()) ∧ p ≤ WE.length ∧ out.length ≤ ga ∧ (ga ≤ 1000001) ∧ Sp.Rises (a.length + 1) (b.length + 1) ga gb (WE.drop p) ∧
      out ++ Sp.listsE x y ga gb (WE.drop p) = Sp.listsAt x y a.length b.length 0 0 W ++ [((a.length : Int), (b.length : Int), true)])
    (fun v => WE.length - v.2.2.2.1.toNat) ?_ ⟨0, 0, 0, [], 0, 0, rfl, Nat.zero_le _, Nat.le_refl _, by omega, hrE, hE⟩
  rintro _ K ⟨p, ga, gb, out, u, w, rfl, hp, ho, hg, hr, he⟩ hK
  simp only [match_Lists.L0]
  rw [cond_dec]
  split
  · rename_i c
    have hp' : p < WE.length := by omega
    rw [drop_cons (d := (0, 0, false)) hp'] at hr he
    generalize nth WE (p : Int) (0, 0, false) = q at *
    obtain ⟨q1, q2, q3⟩ := q
    obtain ⟨r1, r2, r3, r4, r5⟩ := hr
    simp only at r1 r2 r3 r4 r5
    simp only [Sp.listsE] at he
    have hal := Sp.alikeAt_len x y q2 (q1 - ga).toNat ga gb
    have hal' : (Sp.alike ((ga : Int), (gb : Int), q1, q2) x y) = Sp.alikeAt x y q2 (q1 - ga).toNat ga gb := rfl
    rw [hal']
    simp only [rg64, ix_iff, gr_iff, List.length_append]
    refine ⟨by omega, ⟨by simp only; omega, by simp only; omega, by simp only; omega, by simp only; omega, by omega, by omega⟩, by omega, by omega, by omega, by omega, by omega, ?_⟩
    obtain ⟨n1, rfl⟩ : ∃ n : Nat, q1 = n := ⟨q1.toNat, by omega⟩
    obtain ⟨n2, rfl⟩ : ∃ n : Nat, q2 = n := ⟨q2.toNat, by omega⟩
    refine hK _ ⟨p + 1, n1 + 1, n2 + 1, _, _, _, rfl, by omega, by simp only [List.length_append, List.length_cons, List.length_nil]; omega, by omega, r5, ?_⟩ (by simp; omega)
    rw [← he]
    simp
  · rename_i c
    rw [drop_end (by omega), Sp.listsE, List.append_nil] at he
    have hl := congrArg List.length he
    simp only [List.length_append, List.length_cons, List.length_nil] at hl
    simp only [rg64, sb_iff]
    refine ⟨by omega, by omega, ?_⟩
    have e : List.take ((out.length : Int) - 1).toNat out = Sp.listsAt x y a.length b.length 0 0 W := by
      rw [he, show (((Sp.listsAt x y a.length b.length 0 0 W ++ [((a.length : Int), (b.length : Int), true)]).length : Int) - 1).toNat = (Sp.listsAt x y a.length b.length 0 0 W).length by simp]
      simp
    rw [e]; exact hR

theorem rectoplain_Attrs.ok (R : Bool → Prop) (a b : List (Str × Str)) (h : Sp.eqAt.pre a b) (hR : R (Sp.eqAt a b)) : rectoplain_Attrs.vc R a b := by
  unfold Sp.eqAt.pre at h
  unfold Sp.eqAt at hR
  have ne (hne : a ≠ b) : R false := by rw [decide_eq_false hne] at hR; exact hR
  refine Lp_rule (fun v => ∃ p : Nat, v = (a, b, (a.length : Int), (p : Int), ()) ∧ p ≤ a.length ∧ p ≤ b.length ∧ a.take p = b.take p) (fun v => a.length - v.2.2.2.1.toNat) ?_ ⟨0, rfl, Nat.zero_le _, Nat.zero_le _, rfl⟩
  rintro _ K ⟨p, rfl, hp, hp2, ht⟩ hK
  simp only [rectoplain_Attrs.L0]
  rw [cond_dec, cond_dec]
  split
  · rename_i c
    split
    · rename_i c2; exact ne fun e => by subst e; omega
    · rename_i c2
      have h1' : p < a.length := by omega
      have h2' : p < b.length := by omega
      have t1 := take_succ (d := (([] : Str), ([] : Str))) h1'
      have t2 := take_succ (d := (([] : Str), ([] : Str))) h2'
      simp only [rg64, ix_iff]
      refine ⟨by omega, by omega, ?_⟩
      unfold eqS
      by_cases e : nth a (p : Int) ([], []) = nth b (p : Int) ([], [])
      · rw [e]
        simp only [decide_true, Bool.and_self, Bool.not_true, cond_false]
        exact ⟨by omega, hK _ ⟨p + 1, rfl, by omega, by omega, by rw [t1, t2, ht, e]⟩ (by simp; omega)⟩
      · have : (decide ((nth a (p : Int) ([], [])).fst = (nth b (p : Int) ([], [])).fst) && decide ((nth a (p : Int) ([], [])).snd = (nth b (p : Int) ([], [])).snd)) = false := by
          rw [← Bool.not_eq_true, Bool.and_eq_true, decide_eq_true_iff, decide_eq_true_iff]
          exact fun h => e (Prod.ext h.1 h.2)
        rw [this]
        exact ne fun e' => e (by rw [e'])
  · rename_i c
    have e : p = a.length := by omega
    subst e
    rw [List.take_length] at ht
    by_cases hl : a.length = b.length
    · rw [ht, hl, List.take_length] at hR
      rw [decide_eq_true (by omega)]
      simpa using hR
    · rw [decide_eq_false (by omega)]
      exact ne fun e => hl (by rw [e])

theorem rectoplain_Node.ok (nn : Nat) (R : Bool → Prop) (a b : Vi.Node) (h : Sp.eqNd.pre a b ∧ Sp.mNd a b < nn + 1) (hR : R (Sp.eqNd a b)) : rectoplain_Node.vc R nn a b := by
  obtain ⟨h1, h2⟩ := h
  obtain ⟨o1, o2, o3, o4, o5⟩ := Sp.okN_iff.1 h1
  unfold Sp.mNd at h2
  rw [Sp.szN_eq] at h2
  have ne (hne : a ≠ b) : R false := by
    rw [show Sp.eqNd a b = false from by rw [← Bool.not_eq_true, Sp.eqNd_iff]; exact hne] at hR; exact hR
  unfold rectoplain_Node.vc
  simp only [cond_dec]
  split
  case isFalse c => exact ne fun e => c (by rw [e])
  split
  case isFalse c => exact ne fun e => c (by rw [e])
  split
  case isFalse c => exact ne fun e => c (by rw [e])
  split
  case isFalse c => exact ne fun e => c (by rw [e])
  rename_i c1 c2 c3 c4
  refine ⟨o3, ?_⟩
  unfold Sp.eqAt
  rw [cond_dec]
  split
  case isFalse c => exact ne fun e => c (by rw [e])
  rename_i c5
  refine ⟨⟨⟨o5, o4⟩, by unfold Sp.mNs; omega⟩, ?_⟩
  have : Sp.eqNs a.kids b.kids = Sp.eqNd a b := by
    rw [Bool.eq_iff_iff, Sp.eqNs_iff, Sp.eqNd_iff]
    constructor
    · intro c6
      cases a; cases b
      simp only [Vi.Node.kind, Vi.Node.space, Vi.Node.name, Vi.Node.text, Vi.Node.attrs, Vi.Node.kids] at *
      subst c1 c2 c3 c4 c5 c6; rfl
    · intro e; rw [e]
  rw [this]; exact hR

theorem rectoplain_Nodes.ok (nn : Nat) (R : Bool → Prop) (a b : List Vi.Node) (h : Sp.eqNs.pre a b ∧ Sp.mNs a b < nn + 1) (hR : R (Sp.eqNs a b)) : rectoplain_Nodes.vc R nn a b := by
  obtain ⟨⟨h1, h2⟩, h3⟩ := h
  unfold Sp.mNs at h3
  have ne (hne : a ≠ b) : R false := by
    rw [show Sp.eqNs a b = false from by rw [← Bool.not_eq_true, Sp.eqNs_iff]; exact hne] at hR; exact hR
  refine Lp_rule (fun v => ∃ p : Nat, v = (a, b, (a.length : Int), (p : Int), ()) ∧ p ≤ a.length ∧ p ≤ b.length ∧ a.take p = b.take p) (fun v => a.length - v.2.2.2.1.toNat) ?_ ⟨0, rfl, Nat.zero_le _, Nat.zero_le _, rfl⟩
  rintro _ K ⟨p, rfl, hp, hp2, ht⟩ hK
  simp only [rectoplain_Nodes.L0]
  rw [cond_dec, cond_dec]
  split
  · rename_i c
    split
    · rename_i c2; exact ne fun e => by subst e; omega
    · rename_i c2
      have h1' : p < a.length := by omega
      have h2' : p < b.length := by omega
      have hm : nth a (p : Int) (Vi.Node.mk 0 0 [] [] [] []) ∈ a := Sp.nth_mem h1'
      have t1 := take_succ (d := Vi.Node.mk 0 0 [] [] [] []) h1'
      have t2 := take_succ (d := Vi.Node.mk 0 0 [] [] [] []) h2'
      have hs := Sp.szL_mem hm
      have ho := Sp.okL_iff.1 h1 _ hm
      have hne (e : nth a (p : Int) (Vi.Node.mk 0 0 [] [] [] []) ≠ nth b (p : Int) (Vi.Node.mk 0 0 [] [] [] [])) : R false := ne fun e' => e (by rw [e'])
      simp only [rg64, ix_iff]
      refine ⟨by omega, by omega, ⟨ho, by unfold Sp.mNd; omega⟩, ?_⟩
      generalize nth a (p : Int) (Vi.Node.mk 0 0 [] [] [] []) = u at *
      generalize nth b (p : Int) (Vi.Node.mk 0 0 [] [] [] []) = w at *
      cases e : Sp.eqNd u w with
      | true =>
        have e' := Sp.eqNd_iff.1 e
        exact ⟨by omega, hK _ ⟨p + 1, rfl, by omega, by omega, by rw [t1, t2, ht, e']⟩ (by simp; omega)⟩
      | false => exact hne fun e' => by rw [Sp.eqNd_iff.2 e'] at e; cases e
  · rename_i c
    have e : p = a.length := by omega
    subst e
    rw [List.take_length] at ht
    by_cases hl : a.length = b.length
    · have : a = b := by rw [ht, hl, List.take_length]
      rw [decide_eq_true (by omega)]
      rw [Sp.eqNs_iff.2 this] at hR; exact hR
    · rw [decide_eq_false (by omega)]
      exact ne fun e => hl (by rw [e])

namespace Sp
end Sp

namespace Sp
end Sp

namespace Sp
abbrev rm2 (n : Nd) (r : Int) : Int := r - 1 - (n.text.length : Int) / 16 - n.attrs.length
abbrev full (n : Nd) (r : Int) : Prop := r - 1 < 0 ∨ 40 < (n.attrs.length : Int) ∨ 5000 < (n.text.length : Int) ∨ 100 < (n.name.length : Int)
abbrev anyA (a : List (Str × Str)) : Bool := a.any (fun x => decide (100 < (x.1.length : Int) ∨ 2000 < (x.2.length : Int)))
theorem lgN_eq (n : Nd) (r d : Int) : lgN n r d = if full n r then (true, r - 1) else if anyA n.attrs = true then (true, rm2 n r) else lg n.kids (d + 1) (rm2 n r) := by
  cases n with
  | mk k s nm a t c =>
    rw [lgN]
    show (if _ then _ else _) = if (r - 1 < 0 ∨ 40 < (a.length : Int) ∨ 5000 < (t.length : Int) ∨ 100 < (nm.length : Int)) then (true, r - 1) else if anyA a = true then (true, r - 1 - (t.length : Int) / 16 - a.length) else lg c (d + 1) (r - 1 - (t.length : Int) / 16 - a.length)
    generalize r - 1 - (t.length : Int) / 16 - a.length = r2
    unfold lg
    by_cases c1 : r - 1 < 0 ∨ 40 < (a.length : Int) ∨ 5000 < (t.length : Int) ∨ 100 < (nm.length : Int)
    · rw [if_pos c1, if_pos c1]
    rw [if_neg c1, if_neg c1]
    by_cases c2 : anyA a = true
    · rw [if_pos c2, if_pos (.inl c2)]
    rw [if_neg c2]
    by_cases c3 : 60 < d + 1 ∨ 500 < (c.length : Int)
    · rw [if_pos c3, if_pos (.inr c3)]
    rw [if_neg c3, if_neg (fun h => h.elim c2 c3)]
    generalize lgL c r2 (d + 1) = z
    obtain ⟨z1, z2⟩ := z
    simp only
    cases z1 with
    | true => simp
    | false =>
      by_cases c4 : z2 < 0
      · simp [c4]
      · simp [c4]
mutual
theorem lgN_le : ∀ (n : Nd) (r d : Int), (lgN n r d).2 ≤ r
  | .mk k s nm a t c, r, d => by
    have h := lgL_le c (r - 1 - (t.length : Int) / 16 - a.length) (d + 1)
    rw [lgN]
    split
    · simp only; omega
    split
    · simp only; omega
    split
    · simp only; omega
    · simp only; omega
theorem lgL_le : ∀ (l : List Nd) (r d : Int), (lgL l r d).2 ≤ r
  | [], r, d => by rw [lgL]; exact Int.le_refl _
  | n :: l, r, d => by
    have h1 := lgN_le n r d
    have h2 := lgL_le l (lgN n r d).2 d
    rw [lgL]
    split <;> omega
end
theorem lg_le (l : List Nd) (d r : Int) : (lg l d r).2 ≤ r := by
  have := lgL_le l r d
  unfold lg
  split
  · exact Int.le_refl _
  split
  · exact this
  · exact this
theorem lg_nonneg {l : List Nd} {d r : Int} (h : (lg l d r).1 = false) : 0 ≤ (lg l d r).2 := by
  unfold lg at *
  split at h
  · cases h
  rename_i c
  rw [if_neg c]
  split at h
  · rename_i c2; rw [c2] at h; cases h
  · rename_i c2
    rw [if_neg c2]
    simp only [decide_eq_false_iff_not] at h
    simp only; omega
end Sp

theorem rectoplain_Large.ok (nn : Nat) (R : Bool → Int → Prop) (l : List Vi.Node) (depth room : Int) (h : Sp.lg.pre l depth room ∧ Sp.mLg l depth room < nn + 1) (hR : R (Sp.lg l depth room).1 (Sp.lg l depth room).2) : rectoplain_Large.vc R nn l depth room := by
  obtain ⟨⟨h1, h2, h3, h4⟩, h5⟩ := h
  unfold Sp.mLg at h5
  unfold Sp.lg at hR
  unfold rectoplain_Large.vc
  rw [cond_dec, cond_dec]
  split
  · rename_i c; rw [if_pos (.inl c)] at hR; exact hR
  rename_i c1
  split
  · rename_i c; rw [if_pos (.inr c)] at hR; exact hR
  rename_i c2
  rw [if_neg (fun h => h.elim c1 c2)] at hR
  have hT (z : Int) (hz : Sp.lgL l room depth = (true, z)) : R true z := by rw [hz, if_pos rfl] at hR; exact hR
  refine Lp_rule (fun v => ∃ (p : Nat) (r : Int), v = (depth, l, (l.length : Int), (p : Int), r, ()) ∧ p ≤ l.length ∧ -1000 ≤ r ∧ r ≤ room ∧ Sp.lgL (l.drop p) r depth = Sp.lgL l room depth) (fun v => l.length - v.2.2.2.1.toNat) ?_ ⟨0, room, rfl, Nat.zero_le _, h3, Int.le_refl _, rfl⟩
  rintro _ K ⟨p, r, rfl, hp, hr1, hr2, he⟩ hK
  simp only [rectoplain_Large.L0, cond_dec]
  split
  · rename_i c
    have hp' : p < l.length := by omega
    have hm : nth l (p : Int) (Vi.Node.mk 0 0 [] [] [] []) ∈ l := Sp.nth_mem hp'
    rw [drop_cons (d := Vi.Node.mk 0 0 [] [] [] []) hp', Sp.lgL] at he
    have hs := Sp.szL_mem hm
    rw [ix_iff]
    refine ⟨by omega, by rw [rg64]; omega, ?_⟩
    generalize nth l (p : Int) (Vi.Node.mk 0 0 [] [] [] []) = n at *
    rw [Sp.szN_eq] at hs
    have hE := Sp.lgN_eq n r depth
    have hbad (z : Int) (hz : Sp.lgN n r depth = (true, z)) : R true z := hT z (by rw [← he, hz, if_pos rfl])
    split
    · rename_i c3; exact hbad _ (by rw [hE, if_pos (.inl c3)])
    rename_i c3
    split
    · rename_i c4; exact hbad _ (by rw [hE, if_pos (.inr (.inl c4))])
    rename_i c4
    split
    · rename_i c5; exact hbad _ (by rw [hE, if_pos (.inr (.inr (.inl c5)))])
    rename_i c5
    split
    · rename_i c6; exact hbad _ (by rw [hE, if_pos (.inr (.inr (.inr c6)))])
    rename_i c6
    rw [if_neg (fun h => h.elim c3 fun h => h.elim c4 fun h => h.elim c5 c6)] at hE
    simp only [dv_iff, rg64]
    refine ⟨by omega, by omega, by omega, ?_⟩
    have hr2b : -1000 ≤ Sp.rm2 n r ∧ Sp.rm2 n r ≤ room := by unfold Sp.rm2; omega
    show Lp _ (depth, l, (l.length : Int), (p : Int), n.attrs, (n.attrs.length : Int), 0, Sp.rm2 n r, n.kind, n.space, n.name, n.attrs, n.text, n.kids, ())
    generalize Sp.rm2 n r = r2 at *
    refine Lp_rule (fun v => ∃ q : Nat, v = (depth, l, (l.length : Int), (p : Int), n.attrs, (n.attrs.length : Int), (q : Int), r2, n.kind, n.space, n.name, n.attrs, n.text, n.kids, ()) ∧ q ≤ n.attrs.length ∧ Sp.anyA (n.attrs.drop q) = Sp.anyA n.attrs)
      (fun v => n.attrs.length - v.2.2.2.2.2.2.1.toNat) ?_ ⟨0, rfl, Nat.zero_le _, rfl⟩
    rintro _ K1 ⟨q, rfl, hq, ha⟩ hK1
    simp only [rectoplain_Large.L1, cond_dec]
    split
    · rename_i c7
      have hq' : q < n.attrs.length := by omega
      rw [drop_cons (d := ([], [])) hq'] at ha
      rw [ix_iff]
      refine ⟨by omega, ?_⟩
      unfold Sp.anyA at ha
      rw [List.any_cons] at ha
      generalize nth n.attrs (q : Int) ([], []) = x at *
      split
      · rename_i c8
        refine hbad _ ?_
        rw [hE, if_pos]
        unfold Sp.anyA
        rw [← ha, decide_eq_true (.inl c8)]; rfl
      rename_i c8
      split
      · rename_i c9
        refine hbad _ ?_
        rw [hE, if_pos]
        unfold Sp.anyA
        rw [← ha, decide_eq_true (.inr c9)]; rfl
      rename_i c9
      rw [decide_eq_false (fun h => h.elim c8 c9), Bool.false_or] at ha
      exact ⟨by rw [rg64]; omega, hK1 _ ⟨q + 1, rfl, by omega, ha⟩ (by simp; omega)⟩
    · rename_i c7
      rw [drop_end (by omega)] at ha
      have ha' : Sp.anyA n.attrs = false := ha.symm
      rw [ha', if_neg (by decide)] at hE
      have hle := Sp.lg_le n.kids (depth + 1) r2
      have hnn := @Sp.lg_nonneg n.kids (depth + 1) r2
      refine ⟨by rw [rg64]; omega, ⟨⟨by omega, by omega, by omega, by omega⟩, by unfold Sp.mLg; omega⟩, ?_⟩
      rw [← hE] at hle hnn ⊢
      generalize Sp.lgN n r depth = z at *
      obtain ⟨z1, z2⟩ := z
      simp only at hle hnn he ⊢
      cases z1 with
      | true => exact hbad _ rfl
      | false =>
        have := hnn rfl
        refine ⟨by rw [rg64]; omega, hK _ ⟨p + 1, z2, rfl, by omega, by omega, by omega, ?_⟩ (by simp; omega)⟩
        rw [← he, if_neg (by decide)]
  · rename_i c
    rw [drop_end (by omega), Sp.lgL] at he
    rw [← he, if_neg (by simp)] at hR
    exact hR

namespace Sp
theorem atx_len : ∀ {a : List (Str × Str)}, anyA a = false → (atx a).length ≤ 2142 * a.length
  | [], _ => by simp [atx]
  | x :: a, h => by
    unfold anyA at h
    rw [List.any_cons, Bool.or_eq_false_iff] at h
    have ih := atx_len h.2
    have hx := of_decide_eq_false h.1
    have p1 : dgs.pre (x.1.length : Int) := by unfold dgs.pre; omega
    have p2 : dgs.pre (x.2.length : Int) := by unfold dgs.pre; omega
    have := dgs_len p1
    have := dgs_len p2
    rw [atx_cons]
    unfold tx
    simp only [List.length_append, List.length_cons]
    omega
theorem lg_lgL {l : List Nd} {d r : Int} (h : (lg l d r).1 = false) : (lgL l r d).1 = false ∧ (lg l d r).2 = (lgL l r d).2 := by
  unfold lg at *
  split at h
  · cases h
  rename_i c
  rw [if_neg c]
  split at h
  · rename_i c2; rw [c2] at h; cases h
  · rename_i c2
    rw [if_neg c2]
    exact ⟨by simpa using c2, rfl⟩
/-- What isn't large is written shortly. -/
theorem small : ∀ (k : Nat), (∀ (n : Nd) (r d : Int), szN n ≤ k → okN n → (lgN n r d).1 = false → ((key n).length : Int) ≤ 3000 * (r - (lgN n r d).2) ∧ (lgN n r d).2 + 1 ≤ r) ∧
    ∀ (l : List Nd) (r d : Int), szL l ≤ k → okL l → (lgL l r d).1 = false → ((keys l).length : Int) ≤ 3000 * (r - (lgL l r d).2) ∧ (lgL l r d).2 + l.length ≤ r := by
  have hL (k : Nat) (hN : ∀ (n : Nd) (r d : Int), szN n ≤ k → okN n → (lgN n r d).1 = false → ((key n).length : Int) ≤ 3000 * (r - (lgN n r d).2) ∧ (lgN n r d).2 + 1 ≤ r) :
      ∀ (l : List Nd) (r d : Int), szL l ≤ k → okL l → (lgL l r d).1 = false → ((keys l).length : Int) ≤ 3000 * (r - (lgL l r d).2) ∧ (lgL l r d).2 + l.length ≤ r := by
    intro l
    induction l with
    | nil => intro r d _ _ _; rw [keys, lgL]; simp
    | cons n l ih =>
      intro r d hk ho h
      rw [szL] at hk
      rw [okL] at ho
      rw [lgL] at h ⊢
      split at h
      · rename_i c; rw [c] at h; cases h
      · rename_i c
        have c' : (lgN n r d).1 = false := by simpa using c
        rw [if_neg c]
        have i1 := hN n r d (by omega) ho.1 c'
        have i2 := ih (lgN n r d).2 d (by omega) ho.2 h
        rw [keys, List.length_append, List.length_cons]
        omega
  intro k
  induction k with
  | zero =>
    have hN : ∀ (n : Nd) (r d : Int), szN n ≤ 0 → okN n → (lgN n r d).1 = false → ((key n).length : Int) ≤ 3000 * (r - (lgN n r d).2) ∧ (lgN n r d).2 + 1 ≤ r := fun n r d h => by rw [szN_eq] at h; omega
    exact ⟨hN, hL 0 hN⟩
  | succ k ih =>
    have hN : ∀ (n : Nd) (r d : Int), szN n ≤ k + 1 → okN n → (lgN n r d).1 = false → ((key n).length : Int) ≤ 3000 * (r - (lgN n r d).2) ∧ (lgN n r d).2 + 1 ≤ r := by
      intro n r d hk ho h
      rw [szN_eq] at hk
      obtain ⟨o1, o2, o3, o4, o5⟩ := okN_iff.1 ho
      rw [lgN_eq] at h ⊢
      split at h
      · cases h
      rename_i c1
      rw [if_neg c1]
      split at h
      · cases h
      rename_i c2
      rw [if_neg c2]
      have c2' : anyA n.attrs = false := by simpa using c2
      obtain ⟨g1, g2⟩ := lg_lgL h
      rw [g2]
      have i1 := ih.2 n.kids (rm2 n r) (d + 1) (by omega) o5 g1
      have ha := atx_len c2'
      have p1 : dgs.pre (n.name.length : Int) := by unfold dgs.pre; omega
      have p2 : dgs.pre (n.text.length : Int) := by unfold dgs.pre; omega
      have p3 : dgs.pre (n.attrs.length : Int) := by unfold dgs.pre; omega
      have p4 : dgs.pre (n.kids.length : Int) := by unfold dgs.pre; omega
      have l1 := dgs_len o1
      have l2 := dgs_len o2
      have l3 := dgs_len p1
      have l4 := dgs_len p2
      have l5 := dgs_len p3
      have l6 := dgs_len p4
      rw [key_eq]
      unfold tx
      simp only [List.length_append]
      generalize (lgL n.kids (rm2 n r) (d + 1)).2 = z at *
      unfold rm2 at i1
      omega
    exact ⟨hN, hL (k + 1) hN⟩
mutual
theorem sz_okN : ∀ (n : Nd), Sz .node n → okN n
  | .mk k s nm a t c, h => by
    obtain ⟨h1, h2, h3, h4, h5, h6⟩ := h.node
    rw [okN]
    exact ⟨h1.int, h2.int, h4.sl47, h6.sl47, sz_okL c h6.mem⟩
theorem sz_okL : ∀ (l : List Nd), (∀ n ∈ l, Sz .node n) → okL l
  | [], _ => by rw [okL]; trivial
  | n :: l, h => by
    rw [okL]
    exact ⟨sz_okN n (h n (by simp)), sz_okL l fun m hm => h m (by simp [hm])⟩
end
theorem listsAt_len (x y : List Str) (n m : Nat) : ∀ (r : List NPair) (i j : Nat), Rises n m i j r → i ≤ n → ((listsAt x y n m i j r).length : Int) ≤ n - i
  | [], i, j, _, hi => by
    have := alikeAt_len x y m ((n : Int) - i).toNat i j
    rw [listsAt]; omega
  | p :: r, i, j, ⟨h1, h2, h3, h4, h5⟩, hi => by
    have h := alikeAt_len x y p.2.1 (p.1 - i).toNat i j
    have ih := listsAt_len x y n m r _ _ h5 (by omega)
    have e1 : ((p.1.toNat + 1 : Nat) : Int) = p.1 + 1 := by omega
    have e2 : ((p.2.1.toNat + 1 : Nat) : Int) = p.2.1 + 1 := by omega
    rw [e1, e2] at ih
    rw [listsAt, List.length_append, List.length_cons]
    omega
theorem lists_len (a b : List Nd) : (lists a b).length ≤ a.length := by
  have hri := lines_rises (keysOf a) (keysOf b)
  rw [keysOf_len, keysOf_len] at hri
  have := listsAt_len (labelsOf a) (labelsOf b) a.length b.length _ 0 0 hri (Nat.zero_le _)
  unfold lists
  have e : ((0 : Nat) : Int) = 0 := rfl
  rw [e] at this
  omega
end Sp
