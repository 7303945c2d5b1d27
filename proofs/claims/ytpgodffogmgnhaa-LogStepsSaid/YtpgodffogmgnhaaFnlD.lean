/- Functions held against what they tell. Written by a program of this session. -/
import Derived.Test.YtpgodffogmgnhaaPlD
import Derived.Test.YtpgodffogmgnhaaViThree
import Derived.Test.YtpgodffogmgnhaaTabl
import Derived.Test.YtpgodffogmgnhaaShl
set_option linter.unnecessarySimpa false
set_option linter.unusedVariables false
set_option linter.unusedSectionVars false
set_option linter.unusedSimpArgs false
set_option autoImplicit false
set_option linter.unusedVariables false
set_option maxRecDepth 100000
attribute [local irreducible] Vi.fnVc
namespace Vs
open Go Vi Go.Proofs
abbrev I_strings_Repeat : Pat := { slots := [(0, .ce (.v .str)), (1, .ce (.v (.int .i64)))], ents := [] }
abbrev O_strings_Repeat : Pat := { slots := [(0, .ce (.v .str))], ents := [] }
def c_strings_Repeat : Ctr := { k0 := 0, inp := I_strings_Repeat, body := fun v => .need (Sp.repS.pre v.1 v.2.1) (.ret ⟨O_strings_Repeat, ((Sp.repS v.1 v.2.1), ())⟩), ex := 2 }

theorem repeat_core (s : Str) (c : Int) (h : Sp.repS.pre s c) (w : World) : Calls Try.prog 50 #[.string ⟨s.toArray⟩, .int .i64 c] w fun e w' => e = .returned (.string ⟨(Sp.repS s c).toArray⟩) ∧ Go.RowKit.Below w.heap.size w w' := by
  obtain ⟨h1, h2, h3⟩ := h
  obtain ⟨k, rfl⟩ : ∃ k : Nat, c = k := ⟨Int.toNat c, (Int.toNat_of_nonneg h1).symm⟩
  have hss : (⟨s.toArray⟩ : ByteArray).size = List.length s := by simp [ByteArray.size]
  have hk : k ≤ 1000000 := by omega
  have hb : List.length s * k ≤ 1000000 * 1000000 := Nat.mul_le_mul h3 hk
  refine Calls.mono (Try.strings_Repeat ⟨s.toArray⟩ k w (by omega) (by rw [hss]; omega)) fun e w' he => ?_
  obtain ⟨rfl, hbel⟩ := he
  exact ⟨by rw [show (Lib.repeatL (⟨s.toArray⟩ : ByteArray).data.toList k) = Sp.repS s k from Sp.repS_lib s k], hbel⟩
theorem repeat_len {s : Str} {c : Int} (h : Sp.repS.pre s c) : (Sp.repS s c).length ≤ maxLen := by
  obtain ⟨h1, h2, h3⟩ := h
  obtain ⟨k, rfl⟩ : ∃ k : Nat, c = k := ⟨Int.toNat c, (Int.toNat_of_nonneg h1).symm⟩
  have hk : k ≤ 1000000 := by omega
  have hb : List.length s * k ≤ 1000000 * 1000000 := Nat.mul_le_mul h3 hk
  rw [Sp.repS_len]
  simp only [maxLen]
  omega
theorem ctr_strings_Repeat : CtrOk Try.prog 50 c_strings_Repeat := ⟨⟨_, Try.func50, by kernel_rfl, by kernel_rfl⟩, fun H v r h => by
  obtain ⟨s, c, ⟨⟩⟩ := v
  obtain ⟨hp, h⟩ := h
  have hp : Sp.repS.pre s c := hp
  subst h
  refine pure_ok fun F S μ w us hF hex hs => ?_
  have hex : us.length = 2 := hex.resolve_left (by decide)
  match us, hex with
  | [u0, u1], _ =>
  obtain ⟨rfl, hsl⟩ := str_of (x := s) (hs (0, _) (.head _))
  obtain ⟨rfl, h4⟩ := int_of (x := c) (hs (1, _) (.tail _ (.head _)))
  refine Calls.mono (repeat_core s c hp w) fun e w' he => ?_
  obtain ⟨rfl, hbel⟩ := he
  exact ⟨hbel, fun F' S' μ' _ _ => pr_str (s := Sp.repS s c) (repeat_len hp)⟩⟩

abbrev I_strings_Join : Pat := { slots := [(0, .ce (.v (.sl .str))), (1, .ce (.v .str))], ents := [] }
abbrev O_strings_Join : Pat := { slots := [(0, .ce (.v .str))], ents := [] }
def c_strings_Join : Ctr := { k0 := 0, inp := I_strings_Join, body := fun v => .need (Sp.joinE.pre v.1 v.2.1) (.ret ⟨O_strings_Join, ((Sp.joinE v.1 v.2.1), ())⟩), ex := 2 }

theorem join_core (l : List Str) (h : Sp.joinE.pre l []) (Aa : Option Addr) (c : Nat) (w : World) (F : Nat → Prop) (hF : ∀ b, F b → b < w.heap.size) (hc : l.length ≤ c)
    (hcell : ∀ (j : Nat) (x : Str), l[j]? = some x → ∃ ad : Addr, Aa = some ad ∧ F ad.block ∧ w.cell? (ad.add j) = some (.string ⟨x.toArray⟩)) :
    Calls Try.prog 94 #[.slice Aa l.length c, .string ⟨([] : Str).toArray⟩] w fun e w' => e = .returned (.string ⟨(Sp.joinE l []).toArray⟩) ∧ Go.RowKit.Below w.heap.size w w' := by
  obtain ⟨_, h2, h3⟩ := h
  cases l with
  | nil =>
    refine Calls.mono (Try.strings_Join_none Aa c ⟨([] : Str).toArray⟩ w) fun e w' he => ?_
    obtain ⟨rfl, rfl⟩ := he
    exact ⟨rfl, Go.RowKit.Below.refl _ _⟩
  | cons y l =>
    obtain ⟨ad, rfl, hf, h0⟩ := hcell 0 y rfl
    have hsp : ad.spot = none := by
      have := spot_none h0
      simpa [Addr.add] using this
    obtain ⟨b, off, sp⟩ := ad
    simp only at hsp
    subst hsp
    generalize hl : y :: l = z at *
    have hml : (List.map (fun x : ByteArray => x.data.toList) (List.map (fun x : Str => (⟨x.toArray⟩ : ByteArray)) z)) = z := by
      rw [List.map_map]
      exact List.map_id z
    have hj : Lib.join (List.map (fun x : ByteArray => x.data.toList) (List.map (fun x : Str => (⟨x.toArray⟩ : ByteArray)) z)) (⟨([] : Str).toArray⟩ : ByteArray).data.toList = z.flatten := by rw [hml]; exact Sp.join_lib z
    have key := Try.strings_Join b off c (List.map (fun x : Str => (⟨x.toArray⟩ : ByteArray)) z) ⟨([] : Str).toArray⟩ w (fun j x hx => by
        rw [List.getElem?_map, Option.map_eq_some_iff] at hx
        obtain ⟨y', hy, rfl⟩ := hx
        obtain ⟨ad', e1, _, hcc⟩ := hcell j y' hy
        cases e1
        rwa [Addr.add_mid] at hcc) (hF _ hf) (by rw [List.length_map]; omega) (by rw [List.length_map]; exact hc) (by rw [hj]; omega)
    rw [List.length_map] at key
    refine Calls.mono key fun e w' he => ?_
    obtain ⟨rfl, hbel⟩ := he
    exact ⟨by rw [hj]; rfl, hbel⟩
theorem ctr_strings_Join : CtrOk Try.prog 94 c_strings_Join := ⟨⟨_, Try.func94, by kernel_rfl, by kernel_rfl⟩, fun H v r h => by
  obtain ⟨l, sep, ⟨⟩⟩ := v
  obtain ⟨hp, h⟩ := h
  have hp : Sp.joinE.pre l sep := hp
  obtain ⟨h1, h2, h3⟩ := hp
  subst h
  subst h1
  refine pure_ok fun F S μ w us hF hex hs => ?_
  have hex : us.length = 2 := hex.resolve_left (by decide)
  match us, hex with
  | [u0, u1], _ =>
  obtain ⟨Aa, c, rfl, g1, g2, g3⟩ := slstr_arg (l := l) (hs (0, _) (.head _))
  obtain ⟨rfl, hsl⟩ := str_of (x := ([] : Str)) (hs (1, _) (.tail _ (.head _)))
  refine Calls.mono (join_core l ⟨rfl, h2, h3⟩ Aa c w F hF g1 g3) fun e w' he => ?_
  obtain ⟨rfl, hbel⟩ := he
  exact ⟨hbel, fun F' S' μ' _ _ => pr_str (s := Sp.joinE l []) (Nat.le_trans h3 (by decide))⟩⟩

abbrev I_slices_Clone_int_int : Pat := { slots := [(0, .ce (.v (.sl (.int .i64))))], ents := [] }
abbrev O_slices_Clone_int_int : Pat := { slots := [(0, .ce (.v (.sl (.int .i64))))], ents := [] }
def c_slices_Clone_int_int : Ctr := { k0 := 0, inp := I_slices_Clone_int_int, body := fun v => .need (Sp.cloneI.pre v.1) (.ret ⟨O_slices_Clone_int_int, ((Sp.cloneI v.1), ())⟩), ex := 1 }

theorem clone_core (l : List Int) (h : l.length ≤ 1000000) (Aa : Option Addr) (c : Nat) (w : World) (F : Nat → Prop) (hF : ∀ b, F b → b < w.heap.size)
    (hcell : ∀ (j : Nat) (x : Int), l[j]? = some x → (IntKind.i64.min ≤ x ∧ x ≤ IntKind.i64.max) ∧ ∃ ad : Addr, Aa = some ad ∧ F ad.block ∧ w.cell? (ad.add j) = some (.int .i64 x)) :
    Calls Try.prog 82 #[.slice Aa l.length c] w fun e w' => ∃ v', e = .returned v' ∧ Go.RowKit.Below w.heap.size w w' ∧ ∀ (F' : Nat → Prop) (S' : Nat → Sh) (μ' : Nat → Value), (∀ b, w.heap.size ≤ b → b < w'.heap.size → F' b) → PR F' w' S' μ' (.one (.ce (.v (.sl (.int .i64)) l))) v' := by
  have hres : ∀ {w' : World} {v' : Value}, w'.ownsRow w.heap.size 3 1 v' (List.length l) (l.map (Value.int .i64)) → ∀ (F' : Nat → Prop) (S' : Nat → Sh) (μ' : Nat → Value), (∀ b, w.heap.size ≤ b → b < w'.heap.size → F' b) →
      PR F' w' S' μ' (.one (.ce (.v (.sl (.int .i64)) l))) v' := fun {w' v'} ho F' S' μ' hF' => by
    rcases ho.2 with ⟨rfl, hn⟩ | ⟨g, cap, cur, rfl, hb, hg, hnc, hcm, _⟩
    · have : l = [] := List.eq_nil_of_length_eq_zero hn
      subst this
      exact slint_nil
    · refine slint_res hnc hcm (hF' g hb (heap_lt hg)) fun j x hx => ⟨(hcell j x hx).1, ?_⟩
      have := ho.cells (g := g) rfl j (.int .i64 x) (by rw [List.getElem?_map, hx]; rfl)
      rwa [Addr.add_mid, Nat.zero_add] at this
  cases l with
  | nil =>
    cases Aa with
    | none =>
      refine Calls.mono (Try.slices_Clone_int_nil 0 c w) fun e w' he => ?_
      obtain ⟨rfl, rfl⟩ := he
      exact ⟨_, rfl, Go.RowKit.Below.refl _ _, fun F' S' μ' hF' => slint_nil⟩
    | some ad =>
      refine Calls.mono (Try.slices_Clone_int_zero ad c w) fun e w' he => ?_
      obtain ⟨v', rfl, ho, _, hbel⟩ := he
      exact ⟨_, rfl, hbel, fun F' S' μ' hF' => hres ho F' S' μ' hF'⟩
  | cons y l =>
    obtain ⟨_, ad, rfl, hf, h0⟩ := hcell 0 y rfl
    have hsp : ad.spot = none := by
      have := spot_none h0
      simpa [Addr.add] using this
    obtain ⟨b, off, sp⟩ := ad
    simp only at hsp
    subst hsp
    generalize hl : y :: l = z at *
    refine Calls.mono (Try.slices_Clone_int b off (List.length z) c z w (Nat.le_refl _) (by omega) (fun j hj => by
      obtain ⟨_, ad', e1, _, hcc⟩ := hcell j _ (List.getElem?_eq_getElem hj)
      cases e1
      rw [Addr.add_mid] at hcc
      rw [hcc, List.getD_eq_getElem?_getD, List.getElem?_eq_getElem hj]; rfl)) fun e w' he => ?_
    obtain ⟨v', rfl, ho, _, hbel⟩ := he
    rw [List.take_length] at ho
    exact ⟨_, rfl, hbel, fun F' S' μ' hF' => hres ho F' S' μ' hF'⟩
theorem ctr_slices_Clone_int_int : CtrOk Try.prog 82 c_slices_Clone_int_int := ⟨⟨_, Try.func82, by kernel_rfl, by kernel_rfl⟩, fun H v r h => by
  obtain ⟨l, ⟨⟩⟩ := v
  obtain ⟨h1, h⟩ := h
  have h1 : List.length l ≤ 1000000 := h1
  subst h
  refine pure_ok fun F S μ w us hF hex hs => ?_
  have hex : us.length = 1 := hex.resolve_left (by decide)
  match us, hex with
  | [u0], _ =>
  obtain ⟨Aa, c, rfl, g1, g2, g3⟩ := slint_arg (l := l) (hs (0, _) (.head _))
  refine Calls.mono (clone_core l h1 Aa c w F hF g3) fun e w' he => ?_
  obtain ⟨v', rfl, hbel, hp⟩ := he
  exact ⟨hbel, fun F' S' μ' _ hF' => hp F' S' μ' hF'⟩⟩

abbrev I_math_bits_Mul : Pat := { slots := [(0, .ce (.v (.int .u64))), (1, .ce (.v (.int .u64)))], ents := [] }
abbrev O_math_bits_Mul : Pat := { slots := [(0, .ce (.v (.int .u64))), (1, .ce (.v (.int .u64)))], ents := [] }
def c_math_bits_Mul : Ctr := { k0 := 0, inp := I_math_bits_Mul, body := fun v => .ret ⟨O_math_bits_Mul, ((Sp.mulU v.1 v.2.1).1, (Sp.mulU v.1 v.2.1).2, ())⟩, ex := 2 }

theorem mul_core (x y : Int) (h1 : 0 ≤ x ∧ x ≤ 18446744073709551615) (h2 : 0 ≤ y ∧ y ≤ 18446744073709551615) (w : World) : Calls Try.prog 84 #[.int .u64 x, .int .u64 y] w fun e w' => e = .returned (.tuple #[.int .u64 (Sp.mulU x y).1, .int .u64 (Sp.mulU x y).2]) ∧ w' = w := by
  obtain ⟨x', rfl⟩ : ∃ k : Nat, x = k := ⟨Int.toNat x, (Int.toNat_of_nonneg h1.1).symm⟩
  obtain ⟨y', rfl⟩ : ∃ k : Nat, y = k := ⟨Int.toNat y, (Int.toNat_of_nonneg h2.1).symm⟩
  refine Calls.mono (Try.bits_Mul x' y' (by omega) (by omega) w) fun e w' he => ?_
  obtain ⟨rfl, rfl⟩ := he
  refine ⟨?_, rfl⟩
  have hm : (x' : Int) * (y' : Int) = ((x' * y' : Nat) : Int) := (Int.natCast_mul _ _).symm
  have e1 : ((x' * y' / 18446744073709551616 : Nat) : Int) = (Sp.mulU (x' : Int) (y' : Int)).1 := by simp only [Sp.mulU, hm]; generalize x' * y' = z; omega
  have e2 : ((x' * y' % 18446744073709551616 : Nat) : Int) = (Sp.mulU (x' : Int) (y' : Int)).2 := by simp only [Sp.mulU, hm]; generalize x' * y' = z; omega
  rw [e1, e2]
theorem mul_range (x y : Int) (h1 : 0 ≤ x ∧ x ≤ 18446744073709551615) (h2 : 0 ≤ y ∧ y ≤ 18446744073709551615) : (IntKind.u64.min ≤ (Sp.mulU x y).1 ∧ (Sp.mulU x y).1 ≤ IntKind.u64.max) ∧ (IntKind.u64.min ≤ (Sp.mulU x y).2 ∧ (Sp.mulU x y).2 ≤ IntKind.u64.max) := by
  have e0 : IntKind.u64.min = 0 := rfl
  have e1 : IntKind.u64.max = 18446744073709551615 := rfl
  rw [e0, e1]
  have hle : x * y ≤ 18446744073709551615 * 18446744073709551615 := Int.mul_le_mul h1.2 h2.2 h2.1 (by omega)
  have hge : 0 ≤ x * y := Int.mul_nonneg h1.1 h2.1
  show (0 ≤ x * y / 18446744073709551616 ∧ x * y / 18446744073709551616 ≤ 18446744073709551615) ∧ (0 ≤ x * y % 18446744073709551616 ∧ x * y % 18446744073709551616 ≤ 18446744073709551615)
  generalize x * y = z at *
  omega
theorem ctr_math_bits_Mul : CtrOk Try.prog 84 c_math_bits_Mul := ⟨⟨_, Try.func84, by kernel_rfl, by kernel_rfl⟩, fun H v r h => by
  obtain ⟨x, y, ⟨⟩⟩ := v
  subst h
  refine pure_ok fun F S μ w us hF hex hs => ?_
  have hex : us.length = 2 := hex.resolve_left (by decide)
  match us, hex with
  | [u0, u1], _ =>
  obtain ⟨rfl, h1⟩ := int_of (x := x) (hs (0, _) (.head _))
  obtain ⟨rfl, h2⟩ := int_of (x := y) (hs (1, _) (.tail _ (.head _)))
  refine Calls.mono (mul_core x y h1 h2 w) fun e w' he => ?_
  obtain ⟨rfl, rfl⟩ := he
  refine ⟨Go.RowKit.Below.refl _ _, fun F' S' μ' _ _ => ?_⟩
  obtain ⟨g1, g2⟩ := mul_range x y h1 h2
  exact ⟨_, rfl, .cons _ _ _ _ (pr_int (k := .u64) (x := (Sp.mulU x y).1) g1) (.cons _ _ _ _ (pr_int (k := .u64) (x := (Sp.mulU x y).2) g2) .nil)⟩⟩

abbrev I_slices_Repeat_disk_block_disk_block : Pat := { slots := [(0, .ce (.v (.sl (.arr 4 .str)))), (1, .ce (.v (.int .i64)))], ents := [] }
abbrev O_slices_Repeat_disk_block_disk_block : Pat := { slots := [(0, .ce (.os 0))], ents := [.row 89 (.arr 4 .str)] }
def c_slices_Repeat_disk_block_disk_block : Ctr := { k0 := 0, inp := I_slices_Repeat_disk_block_disk_block, body := fun v => .need (Sp.repL.pre v.1 v.2.1) (.ret ⟨O_slices_Repeat_disk_block_disk_block, ((Sp.repL v.1 v.2.1), ())⟩), ex := 0 }
def an_slices_Repeat_disk_block_disk_block : Ann := [(8, { slots := [(7, .ce (.os 0)), (8, .ce (.v (.int .i64)))], ents := [.row 89 (.arr 4 .str)] })]
def cx_slices_Repeat_disk_block_disk_block : Cx := mkCx [(84, [c_math_bits_Mul])] true false
theorem eq_slices_Repeat_disk_block_disk_block (x : (List (List Str))) (count : Int) (R : ((p : Pat) × p.V) → Prop) : fnVc (cx_slices_Repeat_disk_block_disk_block) an_slices_Repeat_disk_block_disk_block 0 Try.f51 I_slices_Repeat_disk_block_disk_block [O_slices_Repeat_disk_block_disk_block] (x, count, ()) R = slices_Repeat_disk_block_disk_block.vc (fun y0 => R ⟨O_slices_Repeat_disk_block_disk_block, (y0, ())⟩) x count := by kernel_rfl
theorem fs_slices_Repeat_disk_block_disk_block : CtrsOk Try.prog [(84, [c_math_bits_Mul])] := ⟨ctr1 (ctr_math_bits_Mul), trivial⟩
theorem vc_slices_Repeat_disk_block_disk_block (H : Nat → Entry) (v : c_slices_Repeat_disk_block_disk_block.inp.V) (r : (p : Pat) × p.V) (h : (c_slices_Repeat_disk_block_disk_block.body v).Sel H r) : fnVc (cx_slices_Repeat_disk_block_disk_block) an_slices_Repeat_disk_block_disk_block 0 Try.f51 c_slices_Repeat_disk_block_disk_block.inp [O_slices_Repeat_disk_block_disk_block] v (fun r' => r' = r) := by
  obtain ⟨x, count, ⟨⟩⟩ := v
  obtain ⟨h, rfl⟩ := h
  exact Eq.mpr (eq_slices_Repeat_disk_block_disk_block x count _) (slices_Repeat_disk_block_disk_block.ok _ x count h rfl)
theorem ctr_slices_Repeat_disk_block_disk_block : CtrOk Try.prog 51 c_slices_Repeat_disk_block_disk_block := ⟨⟨_, Try.func51, by kernel_rfl, by kernel_rfl⟩, fun H v r h => mk_ok _ (fs_slices_Repeat_disk_block_disk_block) (an := an_slices_Repeat_disk_block_disk_block) (outs := [O_slices_Repeat_disk_block_disk_block]) Try.func51 (by decide) (vc_slices_Repeat_disk_block_disk_block H v r h)⟩
abbrev I_disk_cut : Pat := { slots := [(0, .ce (.v .str))], ents := [] }
abbrev O_disk_cut : Pat := { slots := [(0, .ag (.arr 4 .str))], ents := [] }
def c_disk_cut : Ctr := { k0 := 0, inp := I_disk_cut, body := fun v => .need (Sp.cutB.pre v.1) (.ret ⟨O_disk_cut, ((Sp.cutB v.1), ())⟩), ex := 0 }
def an_disk_cut : Ann := [(3, { slots := [(0, .ce (.v .str)), (2, .ce (.ptr 0 0)), (3, .ce (.ptr 1 0)), (5, .ce (.v (.int .i64)))], ents := [.abox 89 .str, .abox 89 .str] })]
def cx_disk_cut : Cx := mkCx []
theorem eq_disk_cut (s : Str) (R : ((p : Pat) × p.V) → Prop) : fnVc (cx_disk_cut) an_disk_cut 0 Try.f49 I_disk_cut [O_disk_cut] (s, ()) R = disk_cut.vc (fun y0 => R ⟨O_disk_cut, (y0, ())⟩) s := by kernel_rfl
theorem fs_disk_cut : CtrsOk Try.prog [] := trivial
theorem vc_disk_cut (H : Nat → Entry) (v : c_disk_cut.inp.V) (r : (p : Pat) × p.V) (h : (c_disk_cut.body v).Sel H r) : fnVc (cx_disk_cut) an_disk_cut 0 Try.f49 c_disk_cut.inp [O_disk_cut] v (fun r' => r' = r) := by
  obtain ⟨s, ⟨⟩⟩ := v
  obtain ⟨h, rfl⟩ := h
  exact Eq.mpr (eq_disk_cut s _) (disk_cut.ok _ s h rfl)
theorem ctr_disk_cut : CtrOk Try.prog 49 c_disk_cut := ⟨⟨_, Try.func49, by kernel_rfl, by kernel_rfl⟩, fun H v r h => mk_ok _ (fs_disk_cut) (an := an_disk_cut) (outs := [O_disk_cut]) Try.func49 (by decide) (vc_disk_cut H v r h)⟩
abbrev I_disk_block_text : Pat := { slots := [(0, .ag (.arr 4 .str))], ents := [] }
abbrev O_disk_block_text : Pat := { slots := [(0, .ce (.v .str))], ents := [] }
def c_disk_block_text : Ctr := { k0 := 0, inp := I_disk_block_text, body := fun v => .need (Sp.textB4.pre v.1) (.ret ⟨O_disk_block_text, ((Sp.textB4 v.1), ())⟩), ex := 0 }
def an_disk_block_text : Ann := []
def cx_disk_block_text : Cx := mkCx [(94, [c_strings_Join])]
theorem eq_disk_block_text (b : (List Str)) (R : ((p : Pat) × p.V) → Prop) : fnVc (cx_disk_block_text) an_disk_block_text 0 Try.f76 I_disk_block_text [O_disk_block_text] (b, ()) R = disk_block_text.vc (fun y0 => R ⟨O_disk_block_text, (y0, ())⟩) b := by kernel_rfl
theorem fs_disk_block_text : CtrsOk Try.prog [(94, [c_strings_Join])] := ⟨ctr1 (ctr_strings_Join), trivial⟩
theorem vc_disk_block_text (H : Nat → Entry) (v : c_disk_block_text.inp.V) (r : (p : Pat) × p.V) (h : (c_disk_block_text.body v).Sel H r) : fnVc (cx_disk_block_text) an_disk_block_text 0 Try.f76 c_disk_block_text.inp [O_disk_block_text] v (fun r' => r' = r) := by
  obtain ⟨b, ⟨⟩⟩ := v
  obtain ⟨h, rfl⟩ := h
  exact Eq.mpr (eq_disk_block_text b _) (disk_block_text.ok _ b h rfl)
theorem ctr_disk_block_text : CtrOk Try.prog 76 c_disk_block_text := ⟨⟨_, Try.func76, by kernel_rfl, by kernel_rfl⟩, fun H v r h => mk_ok _ (fs_disk_block_text) (an := an_disk_block_text) (outs := [O_disk_block_text]) Try.func76 (by decide) (vc_disk_block_text H v r h)⟩
abbrev I_disk_New : Pat := { slots := [(0, .ce (.v (.int .i64)))], ents := [] }
abbrev O_disk_New_0 : Pat := { slots := [(0, .ce .nilp), (1, .ce (.v (.int .i64)))], ents := [] }
abbrev O_disk_New_1 : Pat := { slots := [(0, .ce (.ptr 0 0)), (1, .ce (.v (.int .i64)))], ents := [.box 96 [.os 1, .os 2, .v .bool, .v .bool, .v (.int .i64), .v .bool, .v (.sl (.int .i64))], .row 89 (.arr 4 .str), .row 101 (.pair (.int .i64) (.arr 4 .str))] }
def c_disk_New : Ctr := { k0 := 0, inp := I_disk_New, body := fun v => (.br (Sp.badN v.1) (.ret ⟨O_disk_New_0, ((1 : Int), ())⟩) (.ret ⟨O_disk_New_1, ((0 : Int), (Sp.dNew v.1).1, (Sp.dNew v.1).2.1, (Sp.dNew v.1).2.2.1, (Sp.dNew v.1).2.2.2.1, (Sp.dNew v.1).2.2.2.2.1, (Sp.dNew v.1).2.2.2.2.2.1, (Sp.dNew v.1).2.2.2.2.2.2, ())⟩)), ex := 0 }
def an_disk_New : Ann := []
def cx_disk_New : Cx := mkCx [(50, [c_strings_Repeat]), (49, [c_disk_cut]), (51, [c_slices_Repeat_disk_block_disk_block])]
theorem eq_disk_New (blocks : Int) (R : ((p : Pat) × p.V) → Prop) : fnVc cx_disk_New an_disk_New 0 Try.f11 I_disk_New [O_disk_New_0, O_disk_New_1] (blocks, ()) R = disk_New.vc (fun y0 => R ⟨O_disk_New_0, (y0, ())⟩) (fun y0 y1 y2 y3 y4 y5 y6 y7 => R ⟨O_disk_New_1, (y0, y1, y2, y3, y4, y5, y6, y7, ())⟩) blocks := by kernel_rfl
theorem fs_disk_New : CtrsOk Try.prog [(50, [c_strings_Repeat]), (49, [c_disk_cut]), (51, [c_slices_Repeat_disk_block_disk_block])] := ⟨ctr1 (ctr_strings_Repeat), ctr1 (ctr_disk_cut), ctr1 (ctr_slices_Repeat_disk_block_disk_block), trivial⟩
theorem vc_disk_New (H : Nat → Entry) (v : c_disk_New.inp.V) (r : (p : Pat) × p.V) (h : (c_disk_New.body v).Sel H r) : fnVc cx_disk_New an_disk_New 0 Try.f11 c_disk_New.inp [O_disk_New_0, O_disk_New_1] v (fun r' => r' = r) := by
  obtain ⟨blocks, ⟨⟩⟩ := v
  rcases sel_br h with ⟨hb, h⟩ | ⟨hb, h⟩
  · subst h; exact Eq.mpr (eq_disk_New blocks _) (disk_New.ok _ _ blocks  (fun _ => rfl) (fun e => absurd (e.symm.trans hb) (by decide)))
  · subst h; exact Eq.mpr (eq_disk_New blocks _) (disk_New.ok _ _ blocks  (fun e => absurd (e.symm.trans hb) (by decide)) (fun _ => rfl))

theorem ctr_disk_New : CtrOk Try.prog 11 c_disk_New := ⟨⟨_, Try.func11, by kernel_rfl, by kernel_rfl⟩, fun H v r h => mk_ok _ fs_disk_New (an := an_disk_New) (outs := [O_disk_New_0, O_disk_New_1]) Try.func11 (by decide) (vc_disk_New H v r h)⟩
abbrev I_disk_Disk_Blocks : Pat := { slots := [(0, .ce (.ptr 0 0))], ents := [.box 96 [.os 1, .os 2, .v .bool, .v .bool, .v (.int .i64), .v .bool, .v (.sl (.int .i64))], .row 89 (.arr 4 .str), .row 101 (.pair (.int .i64) (.arr 4 .str))] }
abbrev O_disk_Disk_Blocks : Pat := { slots := [(0, .ce (.v (.int .i64)))], ents := [.box 96 [.os 1, .os 2, .v .bool, .v .bool, .v (.int .i64), .v .bool, .v (.sl (.int .i64))], .row 89 (.arr 4 .str), .row 101 (.pair (.int .i64) (.arr 4 .str))] }
def c_disk_Disk_Blocks : Ctr := { k0 := 1, inp := I_disk_Disk_Blocks, body := fun v => .need (Sp.dPre (v.1, v.2.1, v.2.2.1, v.2.2.2.1, v.2.2.2.2.1, v.2.2.2.2.2.1, v.2.2.2.2.2.2.1)) (.ret ⟨O_disk_Disk_Blocks, (((Sp.DSt.bs (v.1, v.2.1, v.2.2.1, v.2.2.2.1, v.2.2.2.2.1, v.2.2.2.2.2.1, v.2.2.2.2.2.2.1)).length : Int), v.1, v.2.1, v.2.2.1, v.2.2.2.1, v.2.2.2.2.1, v.2.2.2.2.2.1, v.2.2.2.2.2.2.1, ())⟩), ex := 0 }
def an_disk_Disk_Blocks : Ann := []
def cx_disk_Disk_Blocks : Cx := mkCx []
theorem eq_disk_Disk_Blocks (down : Bool) (armed : Bool) (after : Int) (acut : Bool) (keep : (List Int)) (bs : (List (List Str))) (ws : (List (Int × (List Str)))) (R : ((p : Pat) × p.V) → Prop) : fnVc (cx_disk_Disk_Blocks) an_disk_Disk_Blocks 1 Try.f56 I_disk_Disk_Blocks [O_disk_Disk_Blocks] (down, armed, after, acut, keep, bs, ws, ()) R = disk_Disk_Blocks.vc (fun y0 y1 y2 y3 y4 y5 y6 y7 => R ⟨O_disk_Disk_Blocks, (y0, y1, y2, y3, y4, y5, y6, y7, ())⟩) down armed after acut keep bs ws := by kernel_rfl
theorem fs_disk_Disk_Blocks : CtrsOk Try.prog [] := trivial
theorem vc_disk_Disk_Blocks (H : Nat → Entry) (v : c_disk_Disk_Blocks.inp.V) (r : (p : Pat) × p.V) (h : (c_disk_Disk_Blocks.body v).Sel H r) : fnVc (cx_disk_Disk_Blocks) an_disk_Disk_Blocks 1 Try.f56 c_disk_Disk_Blocks.inp [O_disk_Disk_Blocks] v (fun r' => r' = r) := by
  obtain ⟨down, armed, after, acut, keep, bs, ws, ⟨⟩⟩ := v
  obtain ⟨h, rfl⟩ := h
  exact Eq.mpr (eq_disk_Disk_Blocks down armed after acut keep bs ws _) (disk_Disk_Blocks.ok _ down armed after acut keep bs ws h rfl)
theorem ctr_disk_Disk_Blocks : CtrOk Try.prog 56 c_disk_Disk_Blocks := ⟨⟨_, Try.func56, by kernel_rfl, by kernel_rfl⟩, fun H v r h => mk_ok _ (fs_disk_Disk_Blocks) (an := an_disk_Disk_Blocks) (outs := [O_disk_Disk_Blocks]) Try.func56 (by decide) (vc_disk_Disk_Blocks H v r h)⟩
abbrev I_disk_Blocks_nil : Pat := { slots := [(0, .ce .nilp)], ents := [] }
abbrev O_disk_Blocks_nil : Pat := { slots := [(0, .ce (.v (.int .i64)))], ents := [] }
def c_disk_Blocks_nil : Ctr := { k0 := 0, inp := I_disk_Blocks_nil, body := fun v => .ret ⟨O_disk_Blocks_nil, ((0 : Int), ())⟩, ex := 0 }
def an_disk_Blocks_nil : Ann := []
def cx_disk_Blocks_nil : Cx := mkCx []
theorem eq_disk_Blocks_nil  (R : ((p : Pat) × p.V) → Prop) : fnVc (cx_disk_Blocks_nil) an_disk_Blocks_nil 0 Try.f56 I_disk_Blocks_nil [O_disk_Blocks_nil] (()) R = disk_Blocks_nil.vc (fun y0 => R ⟨O_disk_Blocks_nil, (y0, ())⟩)  := by kernel_rfl
theorem fs_disk_Blocks_nil : CtrsOk Try.prog [] := trivial
theorem vc_disk_Blocks_nil (H : Nat → Entry) (v : c_disk_Blocks_nil.inp.V) (r : (p : Pat) × p.V) (h : (c_disk_Blocks_nil.body v).Sel H r) : fnVc (cx_disk_Blocks_nil) an_disk_Blocks_nil 0 Try.f56 c_disk_Blocks_nil.inp [O_disk_Blocks_nil] v (fun r' => r' = r) := by
  obtain ⟨⟩ := v
  obtain rfl := h
  exact Eq.mpr (eq_disk_Blocks_nil  _) (disk_Blocks_nil.ok _   rfl)
theorem ctr_disk_Blocks_nil : CtrOk Try.prog 56 c_disk_Blocks_nil := ⟨⟨_, Try.func56, by kernel_rfl, by kernel_rfl⟩, fun H v r h => mk_ok _ (fs_disk_Blocks_nil) (an := an_disk_Blocks_nil) (outs := [O_disk_Blocks_nil]) Try.func56 (by decide) (vc_disk_Blocks_nil H v r h)⟩
abbrev I_disk_Disk_in : Pat := { slots := [(0, .ce (.ptr 0 0)), (1, .ce (.v (.int .i64)))], ents := [.box 96 [.os 1, .os 2, .v .bool, .v .bool, .v (.int .i64), .v .bool, .v (.sl (.int .i64))], .row 89 (.arr 4 .str), .row 101 (.pair (.int .i64) (.arr 4 .str))] }
abbrev O_disk_Disk_in : Pat := { slots := [(0, .ce (.v .bool))], ents := [.box 96 [.os 1, .os 2, .v .bool, .v .bool, .v (.int .i64), .v .bool, .v (.sl (.int .i64))], .row 89 (.arr 4 .str), .row 101 (.pair (.int .i64) (.arr 4 .str))] }
def c_disk_Disk_in : Ctr := { k0 := 1, inp := I_disk_Disk_in, body := fun v => .need (Sp.dPre (v.2.1, v.2.2.1, v.2.2.2.1, v.2.2.2.2.1, v.2.2.2.2.2.1, v.2.2.2.2.2.2.1, v.2.2.2.2.2.2.2.1)) (.ret ⟨O_disk_Disk_in, ((Sp.inD v.1 (v.2.1, v.2.2.1, v.2.2.2.1, v.2.2.2.2.1, v.2.2.2.2.2.1, v.2.2.2.2.2.2.1, v.2.2.2.2.2.2.2.1)), v.2.1, v.2.2.1, v.2.2.2.1, v.2.2.2.2.1, v.2.2.2.2.2.1, v.2.2.2.2.2.2.1, v.2.2.2.2.2.2.2.1, ())⟩), ex := 0 }
def an_disk_Disk_in : Ann := []
def cx_disk_Disk_in : Cx := mkCx [(56, [c_disk_Disk_Blocks, c_disk_Blocks_nil])]
theorem eq_disk_Disk_in (i : Int) (down : Bool) (armed : Bool) (after : Int) (acut : Bool) (keep : (List Int)) (bs : (List (List Str))) (ws : (List (Int × (List Str)))) (R : ((p : Pat) × p.V) → Prop) : fnVc (cx_disk_Disk_in) an_disk_Disk_in 1 Try.f52 I_disk_Disk_in [O_disk_Disk_in] (i, down, armed, after, acut, keep, bs, ws, ()) R = disk_Disk_in.vc (fun y0 y1 y2 y3 y4 y5 y6 y7 => R ⟨O_disk_Disk_in, (y0, y1, y2, y3, y4, y5, y6, y7, ())⟩) i down armed after acut keep bs ws := by kernel_rfl
theorem fs_disk_Disk_in : CtrsOk Try.prog [(56, [c_disk_Disk_Blocks, c_disk_Blocks_nil])] := ⟨(ctrC (ctr_disk_Disk_Blocks) (ctr1 (ctr_disk_Blocks_nil))), trivial⟩
theorem vc_disk_Disk_in (H : Nat → Entry) (v : c_disk_Disk_in.inp.V) (r : (p : Pat) × p.V) (h : (c_disk_Disk_in.body v).Sel H r) : fnVc (cx_disk_Disk_in) an_disk_Disk_in 1 Try.f52 c_disk_Disk_in.inp [O_disk_Disk_in] v (fun r' => r' = r) := by
  obtain ⟨i, down, armed, after, acut, keep, bs, ws, ⟨⟩⟩ := v
  obtain ⟨h, rfl⟩ := h
  exact Eq.mpr (eq_disk_Disk_in i down armed after acut keep bs ws _) (disk_Disk_in.ok _ i down armed after acut keep bs ws h rfl)
theorem ctr_disk_Disk_in : CtrOk Try.prog 52 c_disk_Disk_in := ⟨⟨_, Try.func52, by kernel_rfl, by kernel_rfl⟩, fun H v r h => mk_ok _ (fs_disk_Disk_in) (an := an_disk_Disk_in) (outs := [O_disk_Disk_in]) Try.func52 (by decide) (vc_disk_Disk_in H v r h)⟩
abbrev I_disk_in_nil : Pat := { slots := [(0, .ce .nilp), (1, .ce (.v (.int .i64)))], ents := [] }
abbrev O_disk_in_nil : Pat := { slots := [(0, .ce (.v .bool))], ents := [] }
def c_disk_in_nil : Ctr := { k0 := 0, inp := I_disk_in_nil, body := fun v => .ret ⟨O_disk_in_nil, (false, ())⟩, ex := 0 }
def an_disk_in_nil : Ann := []
def cx_disk_in_nil : Cx := mkCx [(56, [c_disk_Disk_Blocks, c_disk_Blocks_nil])]
theorem eq_disk_in_nil (i : Int) (R : ((p : Pat) × p.V) → Prop) : fnVc (cx_disk_in_nil) an_disk_in_nil 0 Try.f52 I_disk_in_nil [O_disk_in_nil] (i, ()) R = disk_in_nil.vc (fun y0 => R ⟨O_disk_in_nil, (y0, ())⟩) i := by kernel_rfl
theorem fs_disk_in_nil : CtrsOk Try.prog [(56, [c_disk_Disk_Blocks, c_disk_Blocks_nil])] := ⟨(ctrC (ctr_disk_Disk_Blocks) (ctr1 (ctr_disk_Blocks_nil))), trivial⟩
theorem vc_disk_in_nil (H : Nat → Entry) (v : c_disk_in_nil.inp.V) (r : (p : Pat) × p.V) (h : (c_disk_in_nil.body v).Sel H r) : fnVc (cx_disk_in_nil) an_disk_in_nil 0 Try.f52 c_disk_in_nil.inp [O_disk_in_nil] v (fun r' => r' = r) := by
  obtain ⟨i, ⟨⟩⟩ := v
  obtain rfl := h
  exact Eq.mpr (eq_disk_in_nil i _) (disk_in_nil.ok _ i  rfl)
theorem ctr_disk_in_nil : CtrOk Try.prog 52 c_disk_in_nil := ⟨⟨_, Try.func52, by kernel_rfl, by kernel_rfl⟩, fun H v r h => mk_ok _ (fs_disk_in_nil) (an := an_disk_in_nil) (outs := [O_disk_in_nil]) Try.func52 (by decide) (vc_disk_in_nil H v r h)⟩
abbrev I_disk_Disk_Up : Pat := { slots := [(0, .ce (.ptr 0 0))], ents := [.box 96 [.os 1, .os 2, .v .bool, .v .bool, .v (.int .i64), .v .bool, .v (.sl (.int .i64))], .row 89 (.arr 4 .str), .row 101 (.pair (.int .i64) (.arr 4 .str))] }
abbrev O_disk_Disk_Up : Pat := { slots := [(0, .ce (.v .bool))], ents := [.box 96 [.os 1, .os 2, .v .bool, .v .bool, .v (.int .i64), .v .bool, .v (.sl (.int .i64))], .row 89 (.arr 4 .str), .row 101 (.pair (.int .i64) (.arr 4 .str))] }
def c_disk_Disk_Up : Ctr := { k0 := 1, inp := I_disk_Disk_Up, body := fun v => .need (Sp.dPre (v.1, v.2.1, v.2.2.1, v.2.2.2.1, v.2.2.2.2.1, v.2.2.2.2.2.1, v.2.2.2.2.2.2.1)) (.ret ⟨O_disk_Disk_Up, ((Sp.upD  (v.1, v.2.1, v.2.2.1, v.2.2.2.1, v.2.2.2.2.1, v.2.2.2.2.2.1, v.2.2.2.2.2.2.1)), v.1, v.2.1, v.2.2.1, v.2.2.2.1, v.2.2.2.2.1, v.2.2.2.2.2.1, v.2.2.2.2.2.2.1, ())⟩), ex := 0 }
def an_disk_Disk_Up : Ann := []
def cx_disk_Disk_Up : Cx := mkCx []
theorem eq_disk_Disk_Up (down : Bool) (armed : Bool) (after : Int) (acut : Bool) (keep : (List Int)) (bs : (List (List Str))) (ws : (List (Int × (List Str)))) (R : ((p : Pat) × p.V) → Prop) : fnVc (cx_disk_Disk_Up) an_disk_Disk_Up 1 Try.f53 I_disk_Disk_Up [O_disk_Disk_Up] (down, armed, after, acut, keep, bs, ws, ()) R = disk_Disk_Up.vc (fun y0 y1 y2 y3 y4 y5 y6 y7 => R ⟨O_disk_Disk_Up, (y0, y1, y2, y3, y4, y5, y6, y7, ())⟩) down armed after acut keep bs ws := by kernel_rfl
theorem fs_disk_Disk_Up : CtrsOk Try.prog [] := trivial
theorem vc_disk_Disk_Up (H : Nat → Entry) (v : c_disk_Disk_Up.inp.V) (r : (p : Pat) × p.V) (h : (c_disk_Disk_Up.body v).Sel H r) : fnVc (cx_disk_Disk_Up) an_disk_Disk_Up 1 Try.f53 c_disk_Disk_Up.inp [O_disk_Disk_Up] v (fun r' => r' = r) := by
  obtain ⟨down, armed, after, acut, keep, bs, ws, ⟨⟩⟩ := v
  obtain ⟨h, rfl⟩ := h
  exact Eq.mpr (eq_disk_Disk_Up down armed after acut keep bs ws _) (disk_Disk_Up.ok _ down armed after acut keep bs ws h rfl)
theorem ctr_disk_Disk_Up : CtrOk Try.prog 53 c_disk_Disk_Up := ⟨⟨_, Try.func53, by kernel_rfl, by kernel_rfl⟩, fun H v r h => mk_ok _ (fs_disk_Disk_Up) (an := an_disk_Disk_Up) (outs := [O_disk_Disk_Up]) Try.func53 (by decide) (vc_disk_Disk_Up H v r h)⟩
abbrev I_disk_Up_nil : Pat := { slots := [(0, .ce .nilp)], ents := [] }
abbrev O_disk_Up_nil : Pat := { slots := [(0, .ce (.v .bool))], ents := [] }
def c_disk_Up_nil : Ctr := { k0 := 0, inp := I_disk_Up_nil, body := fun v => .ret ⟨O_disk_Up_nil, (false, ())⟩, ex := 0 }
def an_disk_Up_nil : Ann := []
def cx_disk_Up_nil : Cx := mkCx []
theorem eq_disk_Up_nil  (R : ((p : Pat) × p.V) → Prop) : fnVc (cx_disk_Up_nil) an_disk_Up_nil 0 Try.f53 I_disk_Up_nil [O_disk_Up_nil] (()) R = disk_Up_nil.vc (fun y0 => R ⟨O_disk_Up_nil, (y0, ())⟩)  := by kernel_rfl
theorem fs_disk_Up_nil : CtrsOk Try.prog [] := trivial
theorem vc_disk_Up_nil (H : Nat → Entry) (v : c_disk_Up_nil.inp.V) (r : (p : Pat) × p.V) (h : (c_disk_Up_nil.body v).Sel H r) : fnVc (cx_disk_Up_nil) an_disk_Up_nil 0 Try.f53 c_disk_Up_nil.inp [O_disk_Up_nil] v (fun r' => r' = r) := by
  obtain ⟨⟩ := v
  obtain rfl := h
  exact Eq.mpr (eq_disk_Up_nil  _) (disk_Up_nil.ok _   rfl)
theorem ctr_disk_Up_nil : CtrOk Try.prog 53 c_disk_Up_nil := ⟨⟨_, Try.func53, by kernel_rfl, by kernel_rfl⟩, fun H v r h => mk_ok _ (fs_disk_Up_nil) (an := an_disk_Up_nil) (outs := [O_disk_Up_nil]) Try.func53 (by decide) (vc_disk_Up_nil H v r h)⟩
abbrev I_disk_Disk_Lasts : Pat := { slots := [(0, .ce (.ptr 0 0)), (1, .ce (.v (.int .i64)))], ents := [.box 96 [.os 1, .os 2, .v .bool, .v .bool, .v (.int .i64), .v .bool, .v (.sl (.int .i64))], .row 89 (.arr 4 .str), .row 101 (.pair (.int .i64) (.arr 4 .str))] }
abbrev O_disk_Disk_Lasts : Pat := { slots := [(0, .ce (.v .str))], ents := [.box 96 [.os 1, .os 2, .v .bool, .v .bool, .v (.int .i64), .v .bool, .v (.sl (.int .i64))], .row 89 (.arr 4 .str), .row 101 (.pair (.int .i64) (.arr 4 .str))] }
def c_disk_Disk_Lasts : Ctr := { k0 := 1, inp := I_disk_Disk_Lasts, body := fun v => .need (Sp.dPre (v.2.1, v.2.2.1, v.2.2.2.1, v.2.2.2.2.1, v.2.2.2.2.2.1, v.2.2.2.2.2.2.1, v.2.2.2.2.2.2.2.1)) (.ret ⟨O_disk_Disk_Lasts, ((Sp.dLasts v.1 (v.2.1, v.2.2.1, v.2.2.2.1, v.2.2.2.2.1, v.2.2.2.2.2.1, v.2.2.2.2.2.2.1, v.2.2.2.2.2.2.2.1)), v.2.1, v.2.2.1, v.2.2.2.1, v.2.2.2.2.1, v.2.2.2.2.2.1, v.2.2.2.2.2.2.1, v.2.2.2.2.2.2.2.1, ())⟩), ex := 0 }
def an_disk_Disk_Lasts : Ann := []
def cx_disk_Disk_Lasts : Cx := mkCx [(52, [c_disk_Disk_in, c_disk_in_nil]), (76, [c_disk_block_text])]
theorem eq_disk_Disk_Lasts (i : Int) (down : Bool) (armed : Bool) (after : Int) (acut : Bool) (keep : (List Int)) (bs : (List (List Str))) (ws : (List (Int × (List Str)))) (R : ((p : Pat) × p.V) → Prop) : fnVc (cx_disk_Disk_Lasts) an_disk_Disk_Lasts 1 Try.f34 I_disk_Disk_Lasts [O_disk_Disk_Lasts] (i, down, armed, after, acut, keep, bs, ws, ()) R = disk_Disk_Lasts.vc (fun y0 y1 y2 y3 y4 y5 y6 y7 => R ⟨O_disk_Disk_Lasts, (y0, y1, y2, y3, y4, y5, y6, y7, ())⟩) i down armed after acut keep bs ws := by kernel_rfl
theorem fs_disk_Disk_Lasts : CtrsOk Try.prog [(52, [c_disk_Disk_in, c_disk_in_nil]), (76, [c_disk_block_text])] := ⟨(ctrC (ctr_disk_Disk_in) (ctr1 (ctr_disk_in_nil))), ctr1 (ctr_disk_block_text), trivial⟩
theorem vc_disk_Disk_Lasts (H : Nat → Entry) (v : c_disk_Disk_Lasts.inp.V) (r : (p : Pat) × p.V) (h : (c_disk_Disk_Lasts.body v).Sel H r) : fnVc (cx_disk_Disk_Lasts) an_disk_Disk_Lasts 1 Try.f34 c_disk_Disk_Lasts.inp [O_disk_Disk_Lasts] v (fun r' => r' = r) := by
  obtain ⟨i, down, armed, after, acut, keep, bs, ws, ⟨⟩⟩ := v
  obtain ⟨h, rfl⟩ := h
  exact Eq.mpr (eq_disk_Disk_Lasts i down armed after acut keep bs ws _) (disk_Disk_Lasts.ok _ i down armed after acut keep bs ws h rfl)
theorem ctr_disk_Disk_Lasts : CtrOk Try.prog 34 c_disk_Disk_Lasts := ⟨⟨_, Try.func34, by kernel_rfl, by kernel_rfl⟩, fun H v r h => mk_ok _ (fs_disk_Disk_Lasts) (an := an_disk_Disk_Lasts) (outs := [O_disk_Disk_Lasts]) Try.func34 (by decide) (vc_disk_Disk_Lasts H v r h)⟩
abbrev I_disk_Lasts_nil : Pat := { slots := [(0, .ce .nilp), (1, .ce (.v (.int .i64)))], ents := [] }
abbrev O_disk_Lasts_nil : Pat := { slots := [(0, .ce (.v .str))], ents := [] }
def c_disk_Lasts_nil : Ctr := { k0 := 0, inp := I_disk_Lasts_nil, body := fun v => .ret ⟨O_disk_Lasts_nil, (([] : Str), ())⟩, ex := 0 }
def an_disk_Lasts_nil : Ann := []
def cx_disk_Lasts_nil : Cx := mkCx [(52, [c_disk_Disk_in, c_disk_in_nil]), (76, [c_disk_block_text])]
theorem eq_disk_Lasts_nil (i : Int) (R : ((p : Pat) × p.V) → Prop) : fnVc (cx_disk_Lasts_nil) an_disk_Lasts_nil 0 Try.f34 I_disk_Lasts_nil [O_disk_Lasts_nil] (i, ()) R = disk_Lasts_nil.vc (fun y0 => R ⟨O_disk_Lasts_nil, (y0, ())⟩) i := by kernel_rfl
theorem fs_disk_Lasts_nil : CtrsOk Try.prog [(52, [c_disk_Disk_in, c_disk_in_nil]), (76, [c_disk_block_text])] := ⟨(ctrC (ctr_disk_Disk_in) (ctr1 (ctr_disk_in_nil))), ctr1 (ctr_disk_block_text), trivial⟩
theorem vc_disk_Lasts_nil (H : Nat → Entry) (v : c_disk_Lasts_nil.inp.V) (r : (p : Pat) × p.V) (h : (c_disk_Lasts_nil.body v).Sel H r) : fnVc (cx_disk_Lasts_nil) an_disk_Lasts_nil 0 Try.f34 c_disk_Lasts_nil.inp [O_disk_Lasts_nil] v (fun r' => r' = r) := by
  obtain ⟨i, ⟨⟩⟩ := v
  obtain rfl := h
  exact Eq.mpr (eq_disk_Lasts_nil i _) (disk_Lasts_nil.ok _ i  rfl)
theorem ctr_disk_Lasts_nil : CtrOk Try.prog 34 c_disk_Lasts_nil := ⟨⟨_, Try.func34, by kernel_rfl, by kernel_rfl⟩, fun H v r h => mk_ok _ (fs_disk_Lasts_nil) (an := an_disk_Lasts_nil) (outs := [O_disk_Lasts_nil]) Try.func34 (by decide) (vc_disk_Lasts_nil H v r h)⟩
abbrev I_disk_Disk_Read : Pat := { slots := [(0, .ce (.ptr 0 0)), (1, .ce (.v (.int .i64)))], ents := [.box 96 [.os 1, .os 2, .v .bool, .v .bool, .v (.int .i64), .v .bool, .v (.sl (.int .i64))], .row 89 (.arr 4 .str), .row 101 (.pair (.int .i64) (.arr 4 .str))] }
abbrev O_disk_Disk_Read : Pat := { slots := [(0, .ce (.v .str)), (1, .ce (.v (.int .i64)))], ents := [.box 96 [.os 1, .os 2, .v .bool, .v .bool, .v (.int .i64), .v .bool, .v (.sl (.int .i64))], .row 89 (.arr 4 .str), .row 101 (.pair (.int .i64) (.arr 4 .str))] }
def c_disk_Disk_Read : Ctr := { k0 := 1, inp := I_disk_Disk_Read, body := fun v => .need (Sp.dPre (v.2.1, v.2.2.1, v.2.2.2.1, v.2.2.2.2.1, v.2.2.2.2.2.1, v.2.2.2.2.2.2.1, v.2.2.2.2.2.2.2.1)) (.ret ⟨O_disk_Disk_Read, ((Sp.dRead v.1 (v.2.1, v.2.2.1, v.2.2.2.1, v.2.2.2.2.1, v.2.2.2.2.2.1, v.2.2.2.2.2.2.1, v.2.2.2.2.2.2.2.1)).1, (Sp.dRead v.1 (v.2.1, v.2.2.1, v.2.2.2.1, v.2.2.2.2.1, v.2.2.2.2.2.1, v.2.2.2.2.2.2.1, v.2.2.2.2.2.2.2.1)).2, v.2.1, v.2.2.1, v.2.2.2.1, v.2.2.2.2.1, v.2.2.2.2.2.1, v.2.2.2.2.2.2.1, v.2.2.2.2.2.2.2.1, ())⟩), ex := 0 }
def an_disk_Disk_Read : Ann := [(7, { slots := [(1, .ce (.v (.int .i64))), (6, .ce (.ptr 3 0)), (28, .ce (.os 2)), (29, .ce (.v (.int .i64))), (30, .ce (.v (.int .i64)))], ents := [.box 96 [.os 1, .os 2, .v .bool, .v .bool, .v (.int .i64), .v .bool, .v (.sl (.int .i64))], .row 89 (.arr 4 .str), .row 101 (.pair (.int .i64) (.arr 4 .str)), .abox 89 .str] })]
def cx_disk_Disk_Read : Cx := mkCx [(52, [c_disk_Disk_in, c_disk_in_nil]), (53, [c_disk_Disk_Up, c_disk_Up_nil]), (76, [c_disk_block_text])]
theorem eq_disk_Disk_Read (i : Int) (down : Bool) (armed : Bool) (after : Int) (acut : Bool) (keep : (List Int)) (bs : (List (List Str))) (ws : (List (Int × (List Str)))) (R : ((p : Pat) × p.V) → Prop) : fnVc (cx_disk_Disk_Read) an_disk_Disk_Read 1 Try.f58 I_disk_Disk_Read [O_disk_Disk_Read] (i, down, armed, after, acut, keep, bs, ws, ()) R = disk_Disk_Read.vc (fun y0 y1 y2 y3 y4 y5 y6 y7 y8 => R ⟨O_disk_Disk_Read, (y0, y1, y2, y3, y4, y5, y6, y7, y8, ())⟩) i down armed after acut keep bs ws := by kernel_rfl
theorem fs_disk_Disk_Read : CtrsOk Try.prog [(52, [c_disk_Disk_in, c_disk_in_nil]), (53, [c_disk_Disk_Up, c_disk_Up_nil]), (76, [c_disk_block_text])] := ⟨(ctrC (ctr_disk_Disk_in) (ctr1 (ctr_disk_in_nil))), (ctrC (ctr_disk_Disk_Up) (ctr1 (ctr_disk_Up_nil))), ctr1 (ctr_disk_block_text), trivial⟩
theorem vc_disk_Disk_Read (H : Nat → Entry) (v : c_disk_Disk_Read.inp.V) (r : (p : Pat) × p.V) (h : (c_disk_Disk_Read.body v).Sel H r) : fnVc (cx_disk_Disk_Read) an_disk_Disk_Read 1 Try.f58 c_disk_Disk_Read.inp [O_disk_Disk_Read] v (fun r' => r' = r) := by
  obtain ⟨i, down, armed, after, acut, keep, bs, ws, ⟨⟩⟩ := v
  obtain ⟨h, rfl⟩ := h
  exact Eq.mpr (eq_disk_Disk_Read i down armed after acut keep bs ws _) (disk_Disk_Read.ok _ i down armed after acut keep bs ws h rfl)
theorem ctr_disk_Disk_Read : CtrOk Try.prog 58 c_disk_Disk_Read := ⟨⟨_, Try.func58, by kernel_rfl, by kernel_rfl⟩, fun H v r h => mk_ok _ (fs_disk_Disk_Read) (an := an_disk_Disk_Read) (outs := [O_disk_Disk_Read]) Try.func58 (by decide) (vc_disk_Disk_Read H v r h)⟩
abbrev I_disk_Read_nil : Pat := { slots := [(0, .ce .nilp), (1, .ce (.v (.int .i64)))], ents := [] }
abbrev O_disk_Read_nil : Pat := { slots := [(0, .ce (.v .str)), (1, .ce (.v (.int .i64)))], ents := [] }
def c_disk_Read_nil : Ctr := { k0 := 0, inp := I_disk_Read_nil, body := fun v => .ret ⟨O_disk_Read_nil, (([] : Str), (1 : Int), ())⟩, ex := 0 }
def an_disk_Read_nil : Ann := [(7, { slots := [(1, .ce (.v (.int .i64))), (6, .ce (.ptr 0 0)), (28, .ce (.v (.sl (.pair (.int .i64) (.arr 4 .str))))), (29, .ce (.v (.int .i64))), (30, .ce (.v (.int .i64)))], ents := [.abox 89 .str] })]
def cx_disk_Read_nil : Cx := mkCx [(52, [c_disk_Disk_in, c_disk_in_nil]), (53, [c_disk_Disk_Up, c_disk_Up_nil]), (76, [c_disk_block_text])]
theorem eq_disk_Read_nil (i : Int) (R : ((p : Pat) × p.V) → Prop) : fnVc (cx_disk_Read_nil) an_disk_Read_nil 0 Try.f58 I_disk_Read_nil [O_disk_Read_nil] (i, ()) R = disk_Read_nil.vc (fun y0 y1 => R ⟨O_disk_Read_nil, (y0, y1, ())⟩) i := by kernel_rfl
theorem fs_disk_Read_nil : CtrsOk Try.prog [(52, [c_disk_Disk_in, c_disk_in_nil]), (53, [c_disk_Disk_Up, c_disk_Up_nil]), (76, [c_disk_block_text])] := ⟨(ctrC (ctr_disk_Disk_in) (ctr1 (ctr_disk_in_nil))), (ctrC (ctr_disk_Disk_Up) (ctr1 (ctr_disk_Up_nil))), ctr1 (ctr_disk_block_text), trivial⟩
theorem vc_disk_Read_nil (H : Nat → Entry) (v : c_disk_Read_nil.inp.V) (r : (p : Pat) × p.V) (h : (c_disk_Read_nil.body v).Sel H r) : fnVc (cx_disk_Read_nil) an_disk_Read_nil 0 Try.f58 c_disk_Read_nil.inp [O_disk_Read_nil] v (fun r' => r' = r) := by
  obtain ⟨i, ⟨⟩⟩ := v
  obtain rfl := h
  exact Eq.mpr (eq_disk_Read_nil i _) (disk_Read_nil.ok _ i  rfl)
theorem ctr_disk_Read_nil : CtrOk Try.prog 58 c_disk_Read_nil := ⟨⟨_, Try.func58, by kernel_rfl, by kernel_rfl⟩, fun H v r h => mk_ok _ (fs_disk_Read_nil) (an := an_disk_Read_nil) (outs := [O_disk_Read_nil]) Try.func58 (by decide) (vc_disk_Read_nil H v r h)⟩
abbrev I_disk_Disk_fall : Pat := { slots := [(0, .ce (.ptr 0 0)), (1, .ce (.v (.sl (.int .i64))))], ents := [.box 96 [.os 1, .os 2, .v .bool, .v .bool, .v (.int .i64), .v .bool, .v (.sl (.int .i64))], .row 89 (.arr 4 .str), .row 101 (.pair (.int .i64) (.arr 4 .str))] }
abbrev O_disk_Disk_fall : Pat := { slots := [], ents := [.box 96 [.os 1, .os 2, .v .bool, .v .bool, .v (.int .i64), .v .bool, .v (.sl (.int .i64))], .row 89 (.arr 4 .str), .row 101 (.pair (.int .i64) (.arr 4 .str))] }
def c_disk_Disk_fall : Ctr := { k0 := 1, inp := I_disk_Disk_fall, body := fun v => .need (Sp.dFall.pre v.1 (v.2.1, v.2.2.1, v.2.2.2.1, v.2.2.2.2.1, v.2.2.2.2.2.1, v.2.2.2.2.2.2.1, v.2.2.2.2.2.2.2.1)) (.ret ⟨O_disk_Disk_fall, ((Sp.dFall v.1 (v.2.1, v.2.2.1, v.2.2.2.1, v.2.2.2.2.1, v.2.2.2.2.2.1, v.2.2.2.2.2.2.1, v.2.2.2.2.2.2.2.1)).1, (Sp.dFall v.1 (v.2.1, v.2.2.1, v.2.2.2.1, v.2.2.2.2.1, v.2.2.2.2.2.1, v.2.2.2.2.2.2.1, v.2.2.2.2.2.2.2.1)).2.1, (Sp.dFall v.1 (v.2.1, v.2.2.1, v.2.2.2.1, v.2.2.2.2.1, v.2.2.2.2.2.1, v.2.2.2.2.2.2.1, v.2.2.2.2.2.2.2.1)).2.2.1, (Sp.dFall v.1 (v.2.1, v.2.2.1, v.2.2.2.1, v.2.2.2.2.1, v.2.2.2.2.2.1, v.2.2.2.2.2.2.1, v.2.2.2.2.2.2.2.1)).2.2.2.1, (Sp.dFall v.1 (v.2.1, v.2.2.1, v.2.2.2.1, v.2.2.2.2.1, v.2.2.2.2.2.1, v.2.2.2.2.2.2.1, v.2.2.2.2.2.2.2.1)).2.2.2.2.1, (Sp.dFall v.1 (v.2.1, v.2.2.1, v.2.2.2.1, v.2.2.2.2.1, v.2.2.2.2.2.1, v.2.2.2.2.2.2.1, v.2.2.2.2.2.2.2.1)).2.2.2.2.2.1, (Sp.dFall v.1 (v.2.1, v.2.2.1, v.2.2.2.1, v.2.2.2.2.1, v.2.2.2.2.2.1, v.2.2.2.2.2.2.1, v.2.2.2.2.2.2.2.1)).2.2.2.2.2.2, ())⟩), ex := 0 }
def an_disk_Disk_fall : Ann := [(1, { slots := [(0, .ce (.ptr 0 0)), (1, .ce (.v (.sl (.int .i64)))), (10, .ce (.os 2)), (11, .ce (.v (.int .i64))), (12, .ce (.v (.int .i64)))], ents := [.box 96 [.os 1, .os 2, .v .bool, .v .bool, .v (.int .i64), .v .bool, .v (.sl (.int .i64))], .row 89 (.arr 4 .str), .row 101 (.pair (.int .i64) (.arr 4 .str))] })]
def cx_disk_Disk_fall : Cx := mkCx []
theorem eq_disk_Disk_fall (keep_ : (List Int)) (down : Bool) (armed : Bool) (after : Int) (acut : Bool) (keep : (List Int)) (bs : (List (List Str))) (ws : (List (Int × (List Str)))) (R : ((p : Pat) × p.V) → Prop) : fnVc (cx_disk_Disk_fall) an_disk_Disk_fall 1 Try.f67 I_disk_Disk_fall [O_disk_Disk_fall] (keep_, down, armed, after, acut, keep, bs, ws, ()) R = disk_Disk_fall.vc (fun y0 y1 y2 y3 y4 y5 y6 => R ⟨O_disk_Disk_fall, (y0, y1, y2, y3, y4, y5, y6, ())⟩) keep_ down armed after acut keep bs ws := by kernel_rfl
theorem fs_disk_Disk_fall : CtrsOk Try.prog [] := trivial
theorem vc_disk_Disk_fall (H : Nat → Entry) (v : c_disk_Disk_fall.inp.V) (r : (p : Pat) × p.V) (h : (c_disk_Disk_fall.body v).Sel H r) : fnVc (cx_disk_Disk_fall) an_disk_Disk_fall 1 Try.f67 c_disk_Disk_fall.inp [O_disk_Disk_fall] v (fun r' => r' = r) := by
  obtain ⟨keep_, down, armed, after, acut, keep, bs, ws, ⟨⟩⟩ := v
  obtain ⟨h, rfl⟩ := h
  exact Eq.mpr (eq_disk_Disk_fall keep_ down armed after acut keep bs ws _) (disk_Disk_fall.ok _ keep_ down armed after acut keep bs ws h rfl)
theorem ctr_disk_Disk_fall : CtrOk Try.prog 67 c_disk_Disk_fall := ⟨⟨_, Try.func67, by kernel_rfl, by kernel_rfl⟩, fun H v r h => mk_ok _ (fs_disk_Disk_fall) (an := an_disk_Disk_fall) (outs := [O_disk_Disk_fall]) Try.func67 (by decide) (vc_disk_Disk_fall H v r h)⟩
abbrev I_disk_Disk_goes : Pat := { slots := [(0, .ce (.ptr 0 0))], ents := [.box 96 [.os 1, .os 2, .v .bool, .v .bool, .v (.int .i64), .v .bool, .v (.sl (.int .i64))], .row 89 (.arr 4 .str), .row 101 (.pair (.int .i64) (.arr 4 .str))] }
abbrev O_disk_Disk_goes : Pat := { slots := [(0, .ce (.v (.int .i64))), (1, .ce (.v .bool))], ents := [.box 96 [.os 1, .os 2, .v .bool, .v .bool, .v (.int .i64), .v .bool, .v (.sl (.int .i64))], .row 89 (.arr 4 .str), .row 101 (.pair (.int .i64) (.arr 4 .str))] }
def c_disk_Disk_goes : Ctr := { k0 := 1, inp := I_disk_Disk_goes, body := fun v => .need (Sp.dPre (v.1, v.2.1, v.2.2.1, v.2.2.2.1, v.2.2.2.2.1, v.2.2.2.2.2.1, v.2.2.2.2.2.2.1)) (.ret ⟨O_disk_Disk_goes, ((Sp.dGoes  (v.1, v.2.1, v.2.2.1, v.2.2.2.1, v.2.2.2.2.1, v.2.2.2.2.2.1, v.2.2.2.2.2.2.1)).2.1, (Sp.dGoes  (v.1, v.2.1, v.2.2.1, v.2.2.2.1, v.2.2.2.2.1, v.2.2.2.2.2.1, v.2.2.2.2.2.2.1)).2.2, (Sp.dGoes  (v.1, v.2.1, v.2.2.1, v.2.2.2.1, v.2.2.2.2.1, v.2.2.2.2.2.1, v.2.2.2.2.2.2.1)).1.1, (Sp.dGoes  (v.1, v.2.1, v.2.2.1, v.2.2.2.1, v.2.2.2.2.1, v.2.2.2.2.2.1, v.2.2.2.2.2.2.1)).1.2.1, (Sp.dGoes  (v.1, v.2.1, v.2.2.1, v.2.2.2.1, v.2.2.2.2.1, v.2.2.2.2.2.1, v.2.2.2.2.2.2.1)).1.2.2.1, (Sp.dGoes  (v.1, v.2.1, v.2.2.1, v.2.2.2.1, v.2.2.2.2.1, v.2.2.2.2.2.1, v.2.2.2.2.2.2.1)).1.2.2.2.1, (Sp.dGoes  (v.1, v.2.1, v.2.2.1, v.2.2.2.1, v.2.2.2.2.1, v.2.2.2.2.2.1, v.2.2.2.2.2.2.1)).1.2.2.2.2.1, (Sp.dGoes  (v.1, v.2.1, v.2.2.1, v.2.2.2.1, v.2.2.2.2.1, v.2.2.2.2.2.1, v.2.2.2.2.2.2.1)).1.2.2.2.2.2.1, (Sp.dGoes  (v.1, v.2.1, v.2.2.1, v.2.2.2.1, v.2.2.2.2.1, v.2.2.2.2.2.1, v.2.2.2.2.2.2.1)).1.2.2.2.2.2.2, ())⟩), ex := 0 }
def an_disk_Disk_goes : Ann := []
def cx_disk_Disk_goes : Cx := mkCx [(67, [c_disk_Disk_fall])]
theorem eq_disk_Disk_goes (down : Bool) (armed : Bool) (after : Int) (acut : Bool) (keep : (List Int)) (bs : (List (List Str))) (ws : (List (Int × (List Str)))) (R : ((p : Pat) × p.V) → Prop) : fnVc (cx_disk_Disk_goes) an_disk_Disk_goes 1 Try.f54 I_disk_Disk_goes [O_disk_Disk_goes] (down, armed, after, acut, keep, bs, ws, ()) R = disk_Disk_goes.vc (fun y0 y1 y2 y3 y4 y5 y6 y7 y8 => R ⟨O_disk_Disk_goes, (y0, y1, y2, y3, y4, y5, y6, y7, y8, ())⟩) down armed after acut keep bs ws := by kernel_rfl
theorem fs_disk_Disk_goes : CtrsOk Try.prog [(67, [c_disk_Disk_fall])] := ⟨ctr1 (ctr_disk_Disk_fall), trivial⟩
theorem vc_disk_Disk_goes (H : Nat → Entry) (v : c_disk_Disk_goes.inp.V) (r : (p : Pat) × p.V) (h : (c_disk_Disk_goes.body v).Sel H r) : fnVc (cx_disk_Disk_goes) an_disk_Disk_goes 1 Try.f54 c_disk_Disk_goes.inp [O_disk_Disk_goes] v (fun r' => r' = r) := by
  obtain ⟨down, armed, after, acut, keep, bs, ws, ⟨⟩⟩ := v
  obtain ⟨h, rfl⟩ := h
  exact Eq.mpr (eq_disk_Disk_goes down armed after acut keep bs ws _) (disk_Disk_goes.ok _ down armed after acut keep bs ws h rfl)
theorem ctr_disk_Disk_goes : CtrOk Try.prog 54 c_disk_Disk_goes := ⟨⟨_, Try.func54, by kernel_rfl, by kernel_rfl⟩, fun H v r h => mk_ok _ (fs_disk_Disk_goes) (an := an_disk_Disk_goes) (outs := [O_disk_Disk_goes]) Try.func54 (by decide) (vc_disk_Disk_goes H v r h)⟩
abbrev I_disk_Disk_Write : Pat := { slots := [(0, .ce (.ptr 0 0)), (1, .ce (.v (.int .i64))), (2, .ce (.v .str))], ents := [.box 96 [.os 1, .os 2, .v .bool, .v .bool, .v (.int .i64), .v .bool, .v (.sl (.int .i64))], .row 89 (.arr 4 .str), .row 101 (.pair (.int .i64) (.arr 4 .str))] }
abbrev O_disk_Disk_Write : Pat := { slots := [(0, .ce (.v (.int .i64)))], ents := [.box 96 [.os 1, .os 2, .v .bool, .v .bool, .v (.int .i64), .v .bool, .v (.sl (.int .i64))], .row 89 (.arr 4 .str), .row 101 (.pair (.int .i64) (.arr 4 .str))] }
def c_disk_Disk_Write : Ctr := { k0 := 1, inp := I_disk_Disk_Write, body := fun v => .need (Sp.dWrite.pre v.1 v.2.1 (v.2.2.1, v.2.2.2.1, v.2.2.2.2.1, v.2.2.2.2.2.1, v.2.2.2.2.2.2.1, v.2.2.2.2.2.2.2.1, v.2.2.2.2.2.2.2.2.1)) (.ret ⟨O_disk_Disk_Write, ((Sp.dWrite v.1 v.2.1 (v.2.2.1, v.2.2.2.1, v.2.2.2.2.1, v.2.2.2.2.2.1, v.2.2.2.2.2.2.1, v.2.2.2.2.2.2.2.1, v.2.2.2.2.2.2.2.2.1)).2, (Sp.dWrite v.1 v.2.1 (v.2.2.1, v.2.2.2.1, v.2.2.2.2.1, v.2.2.2.2.2.1, v.2.2.2.2.2.2.1, v.2.2.2.2.2.2.2.1, v.2.2.2.2.2.2.2.2.1)).1.1, (Sp.dWrite v.1 v.2.1 (v.2.2.1, v.2.2.2.1, v.2.2.2.2.1, v.2.2.2.2.2.1, v.2.2.2.2.2.2.1, v.2.2.2.2.2.2.2.1, v.2.2.2.2.2.2.2.2.1)).1.2.1, (Sp.dWrite v.1 v.2.1 (v.2.2.1, v.2.2.2.1, v.2.2.2.2.1, v.2.2.2.2.2.1, v.2.2.2.2.2.2.1, v.2.2.2.2.2.2.2.1, v.2.2.2.2.2.2.2.2.1)).1.2.2.1, (Sp.dWrite v.1 v.2.1 (v.2.2.1, v.2.2.2.1, v.2.2.2.2.1, v.2.2.2.2.2.1, v.2.2.2.2.2.2.1, v.2.2.2.2.2.2.2.1, v.2.2.2.2.2.2.2.2.1)).1.2.2.2.1, (Sp.dWrite v.1 v.2.1 (v.2.2.1, v.2.2.2.1, v.2.2.2.2.1, v.2.2.2.2.2.1, v.2.2.2.2.2.2.1, v.2.2.2.2.2.2.2.1, v.2.2.2.2.2.2.2.2.1)).1.2.2.2.2.1, (Sp.dWrite v.1 v.2.1 (v.2.2.1, v.2.2.2.1, v.2.2.2.2.1, v.2.2.2.2.2.1, v.2.2.2.2.2.2.1, v.2.2.2.2.2.2.2.1, v.2.2.2.2.2.2.2.2.1)).1.2.2.2.2.2.1, (Sp.dWrite v.1 v.2.1 (v.2.2.1, v.2.2.2.1, v.2.2.2.2.1, v.2.2.2.2.2.1, v.2.2.2.2.2.2.1, v.2.2.2.2.2.2.2.1, v.2.2.2.2.2.2.2.2.1)).1.2.2.2.2.2.2, ())⟩), ex := 0 }
def an_disk_Disk_Write : Ann := []
def cx_disk_Disk_Write : Cx := mkCx [(52, [c_disk_Disk_in, c_disk_in_nil]), (53, [c_disk_Disk_Up, c_disk_Up_nil]), (54, [c_disk_Disk_goes]), (49, [c_disk_cut])]
theorem eq_disk_Disk_Write (i : Int) (s : Str) (down : Bool) (armed : Bool) (after : Int) (acut : Bool) (keep : (List Int)) (bs : (List (List Str))) (ws : (List (Int × (List Str)))) (R : ((p : Pat) × p.V) → Prop) : fnVc (cx_disk_Disk_Write) an_disk_Disk_Write 1 Try.f14 I_disk_Disk_Write [O_disk_Disk_Write] (i, s, down, armed, after, acut, keep, bs, ws, ()) R = disk_Disk_Write.vc (fun y0 y1 y2 y3 y4 y5 y6 y7 => R ⟨O_disk_Disk_Write, (y0, y1, y2, y3, y4, y5, y6, y7, ())⟩) i s down armed after acut keep bs ws := by kernel_rfl
theorem fs_disk_Disk_Write : CtrsOk Try.prog [(52, [c_disk_Disk_in, c_disk_in_nil]), (53, [c_disk_Disk_Up, c_disk_Up_nil]), (54, [c_disk_Disk_goes]), (49, [c_disk_cut])] := ⟨(ctrC (ctr_disk_Disk_in) (ctr1 (ctr_disk_in_nil))), (ctrC (ctr_disk_Disk_Up) (ctr1 (ctr_disk_Up_nil))), ctr1 (ctr_disk_Disk_goes), ctr1 (ctr_disk_cut), trivial⟩
theorem vc_disk_Disk_Write (H : Nat → Entry) (v : c_disk_Disk_Write.inp.V) (r : (p : Pat) × p.V) (h : (c_disk_Disk_Write.body v).Sel H r) : fnVc (cx_disk_Disk_Write) an_disk_Disk_Write 1 Try.f14 c_disk_Disk_Write.inp [O_disk_Disk_Write] v (fun r' => r' = r) := by
  obtain ⟨i, s, down, armed, after, acut, keep, bs, ws, ⟨⟩⟩ := v
  obtain ⟨h, rfl⟩ := h
  exact Eq.mpr (eq_disk_Disk_Write i s down armed after acut keep bs ws _) (disk_Disk_Write.ok _ i s down armed after acut keep bs ws h rfl)
theorem ctr_disk_Disk_Write : CtrOk Try.prog 14 c_disk_Disk_Write := ⟨⟨_, Try.func14, by kernel_rfl, by kernel_rfl⟩, fun H v r h => mk_ok _ (fs_disk_Disk_Write) (an := an_disk_Disk_Write) (outs := [O_disk_Disk_Write]) Try.func14 (by decide) (vc_disk_Disk_Write H v r h)⟩
abbrev I_disk_Write_nil : Pat := { slots := [(0, .ce .nilp), (1, .ce (.v (.int .i64))), (2, .ce (.v .str))], ents := [] }
abbrev O_disk_Write_nil : Pat := { slots := [(0, .ce (.v (.int .i64)))], ents := [] }
def c_disk_Write_nil : Ctr := { k0 := 0, inp := I_disk_Write_nil, body := fun v => .ret ⟨O_disk_Write_nil, ((1 : Int), ())⟩, ex := 0 }
def an_disk_Write_nil : Ann := []
def cx_disk_Write_nil : Cx := mkCx [(52, [c_disk_Disk_in, c_disk_in_nil]), (53, [c_disk_Disk_Up, c_disk_Up_nil]), (54, [c_disk_Disk_goes]), (49, [c_disk_cut])]
theorem eq_disk_Write_nil (i : Int) (s : Str) (R : ((p : Pat) × p.V) → Prop) : fnVc (cx_disk_Write_nil) an_disk_Write_nil 0 Try.f14 I_disk_Write_nil [O_disk_Write_nil] (i, s, ()) R = disk_Write_nil.vc (fun y0 => R ⟨O_disk_Write_nil, (y0, ())⟩) i s := by kernel_rfl
theorem fs_disk_Write_nil : CtrsOk Try.prog [(52, [c_disk_Disk_in, c_disk_in_nil]), (53, [c_disk_Disk_Up, c_disk_Up_nil]), (54, [c_disk_Disk_goes]), (49, [c_disk_cut])] := ⟨(ctrC (ctr_disk_Disk_in) (ctr1 (ctr_disk_in_nil))), (ctrC (ctr_disk_Disk_Up) (ctr1 (ctr_disk_Up_nil))), ctr1 (ctr_disk_Disk_goes), ctr1 (ctr_disk_cut), trivial⟩
theorem vc_disk_Write_nil (H : Nat → Entry) (v : c_disk_Write_nil.inp.V) (r : (p : Pat) × p.V) (h : (c_disk_Write_nil.body v).Sel H r) : fnVc (cx_disk_Write_nil) an_disk_Write_nil 0 Try.f14 c_disk_Write_nil.inp [O_disk_Write_nil] v (fun r' => r' = r) := by
  obtain ⟨i, s, ⟨⟩⟩ := v
  obtain rfl := h
  exact Eq.mpr (eq_disk_Write_nil i s _) (disk_Write_nil.ok _ i s  rfl)
theorem ctr_disk_Write_nil : CtrOk Try.prog 14 c_disk_Write_nil := ⟨⟨_, Try.func14, by kernel_rfl, by kernel_rfl⟩, fun H v r h => mk_ok _ (fs_disk_Write_nil) (an := an_disk_Write_nil) (outs := [O_disk_Write_nil]) Try.func14 (by decide) (vc_disk_Write_nil H v r h)⟩
abbrev I_disk_Disk_Flush : Pat := { slots := [(0, .ce (.ptr 0 0))], ents := [.box 96 [.os 1, .os 2, .v .bool, .v .bool, .v (.int .i64), .v .bool, .v (.sl (.int .i64))], .row 89 (.arr 4 .str), .row 101 (.pair (.int .i64) (.arr 4 .str))] }
abbrev O_disk_Disk_Flush : Pat := { slots := [(0, .ce (.v (.int .i64)))], ents := [.box 96 [.os 1, .os 2, .v .bool, .v .bool, .v (.int .i64), .v .bool, .v (.sl (.int .i64))], .row 89 (.arr 4 .str), .row 101 (.pair (.int .i64) (.arr 4 .str))] }
def c_disk_Disk_Flush : Ctr := { k0 := 1, inp := I_disk_Disk_Flush, body := fun v => .need (Sp.dPre (v.1, v.2.1, v.2.2.1, v.2.2.2.1, v.2.2.2.2.1, v.2.2.2.2.2.1, v.2.2.2.2.2.2.1)) (.ret ⟨O_disk_Disk_Flush, ((Sp.dFlush  (v.1, v.2.1, v.2.2.1, v.2.2.2.1, v.2.2.2.2.1, v.2.2.2.2.2.1, v.2.2.2.2.2.2.1)).2, (Sp.dFlush  (v.1, v.2.1, v.2.2.1, v.2.2.2.1, v.2.2.2.2.1, v.2.2.2.2.2.1, v.2.2.2.2.2.2.1)).1.1, (Sp.dFlush  (v.1, v.2.1, v.2.2.1, v.2.2.2.1, v.2.2.2.2.1, v.2.2.2.2.2.1, v.2.2.2.2.2.2.1)).1.2.1, (Sp.dFlush  (v.1, v.2.1, v.2.2.1, v.2.2.2.1, v.2.2.2.2.1, v.2.2.2.2.2.1, v.2.2.2.2.2.2.1)).1.2.2.1, (Sp.dFlush  (v.1, v.2.1, v.2.2.1, v.2.2.2.1, v.2.2.2.2.1, v.2.2.2.2.2.1, v.2.2.2.2.2.2.1)).1.2.2.2.1, (Sp.dFlush  (v.1, v.2.1, v.2.2.1, v.2.2.2.1, v.2.2.2.2.1, v.2.2.2.2.2.1, v.2.2.2.2.2.2.1)).1.2.2.2.2.1, (Sp.dFlush  (v.1, v.2.1, v.2.2.1, v.2.2.2.1, v.2.2.2.2.1, v.2.2.2.2.2.1, v.2.2.2.2.2.2.1)).1.2.2.2.2.2.1, (Sp.dFlush  (v.1, v.2.1, v.2.2.1, v.2.2.2.1, v.2.2.2.2.1, v.2.2.2.2.2.1, v.2.2.2.2.2.2.1)).1.2.2.2.2.2.2, ())⟩), ex := 0 }
def an_disk_Disk_Flush : Ann := [(6, { slots := [(0, .ce (.ptr 0 0)), (3, .ce (.v (.int .i64))), (20, .ce (.os 2)), (21, .ce (.v (.int .i64))), (22, .ce (.v (.int .i64)))], ents := [.box 96 [.os 1, .os 2, .v .bool, .v .bool, .v (.int .i64), .v .bool, .v (.sl (.int .i64))], .row 89 (.arr 4 .str), .row 101 (.pair (.int .i64) (.arr 4 .str))] })]
def cx_disk_Disk_Flush : Cx := mkCx [(53, [c_disk_Disk_Up, c_disk_Up_nil]), (54, [c_disk_Disk_goes])]
theorem eq_disk_Disk_Flush (down : Bool) (armed : Bool) (after : Int) (acut : Bool) (keep : (List Int)) (bs : (List (List Str))) (ws : (List (Int × (List Str)))) (R : ((p : Pat) × p.V) → Prop) : fnVc (cx_disk_Disk_Flush) an_disk_Disk_Flush 1 Try.f28 I_disk_Disk_Flush [O_disk_Disk_Flush] (down, armed, after, acut, keep, bs, ws, ()) R = disk_Disk_Flush.vc (fun y0 y1 y2 y3 y4 y5 y6 y7 => R ⟨O_disk_Disk_Flush, (y0, y1, y2, y3, y4, y5, y6, y7, ())⟩) down armed after acut keep bs ws := by kernel_rfl
theorem fs_disk_Disk_Flush : CtrsOk Try.prog [(53, [c_disk_Disk_Up, c_disk_Up_nil]), (54, [c_disk_Disk_goes])] := ⟨(ctrC (ctr_disk_Disk_Up) (ctr1 (ctr_disk_Up_nil))), ctr1 (ctr_disk_Disk_goes), trivial⟩
theorem vc_disk_Disk_Flush (H : Nat → Entry) (v : c_disk_Disk_Flush.inp.V) (r : (p : Pat) × p.V) (h : (c_disk_Disk_Flush.body v).Sel H r) : fnVc (cx_disk_Disk_Flush) an_disk_Disk_Flush 1 Try.f28 c_disk_Disk_Flush.inp [O_disk_Disk_Flush] v (fun r' => r' = r) := by
  obtain ⟨down, armed, after, acut, keep, bs, ws, ⟨⟩⟩ := v
  obtain ⟨h, rfl⟩ := h
  exact Eq.mpr (eq_disk_Disk_Flush down armed after acut keep bs ws _) (disk_Disk_Flush.ok _ down armed after acut keep bs ws h rfl)
theorem ctr_disk_Disk_Flush : CtrOk Try.prog 28 c_disk_Disk_Flush := ⟨⟨_, Try.func28, by kernel_rfl, by kernel_rfl⟩, fun H v r h => mk_ok _ (fs_disk_Disk_Flush) (an := an_disk_Disk_Flush) (outs := [O_disk_Disk_Flush]) Try.func28 (by decide) (vc_disk_Disk_Flush H v r h)⟩
abbrev I_disk_Flush_nil : Pat := { slots := [(0, .ce .nilp)], ents := [] }
abbrev O_disk_Flush_nil : Pat := { slots := [(0, .ce (.v (.int .i64)))], ents := [] }
def c_disk_Flush_nil : Ctr := { k0 := 0, inp := I_disk_Flush_nil, body := fun v => .ret ⟨O_disk_Flush_nil, ((271 : Int), ())⟩, ex := 0 }
def an_disk_Flush_nil : Ann := [(6, { slots := [(0, .ce (.ptr 0 0)), (3, .ce (.v (.int .i64))), (20, .ce (.v (.sl (.pair (.int .i64) (.arr 4 .str))))), (21, .ce (.v (.int .i64))), (22, .ce (.v (.int .i64)))], ents := [.box 96 [.os 1, .os 2, .v .bool, .v .bool, .v (.int .i64), .v .bool, .v (.sl (.int .i64))], .row 89 (.arr 4 .str), .row 101 (.pair (.int .i64) (.arr 4 .str))] })]
def cx_disk_Flush_nil : Cx := mkCx [(53, [c_disk_Disk_Up, c_disk_Up_nil]), (54, [c_disk_Disk_goes])]
theorem eq_disk_Flush_nil  (R : ((p : Pat) × p.V) → Prop) : fnVc (cx_disk_Flush_nil) an_disk_Flush_nil 0 Try.f28 I_disk_Flush_nil [O_disk_Flush_nil] (()) R = disk_Flush_nil.vc (fun y0 => R ⟨O_disk_Flush_nil, (y0, ())⟩)  := by kernel_rfl
theorem fs_disk_Flush_nil : CtrsOk Try.prog [(53, [c_disk_Disk_Up, c_disk_Up_nil]), (54, [c_disk_Disk_goes])] := ⟨(ctrC (ctr_disk_Disk_Up) (ctr1 (ctr_disk_Up_nil))), ctr1 (ctr_disk_Disk_goes), trivial⟩
theorem vc_disk_Flush_nil (H : Nat → Entry) (v : c_disk_Flush_nil.inp.V) (r : (p : Pat) × p.V) (h : (c_disk_Flush_nil.body v).Sel H r) : fnVc (cx_disk_Flush_nil) an_disk_Flush_nil 0 Try.f28 c_disk_Flush_nil.inp [O_disk_Flush_nil] v (fun r' => r' = r) := by
  obtain ⟨⟩ := v
  obtain rfl := h
  exact Eq.mpr (eq_disk_Flush_nil  _) (disk_Flush_nil.ok _   rfl)
theorem ctr_disk_Flush_nil : CtrOk Try.prog 28 c_disk_Flush_nil := ⟨⟨_, Try.func28, by kernel_rfl, by kernel_rfl⟩, fun H v r h => mk_ok _ (fs_disk_Flush_nil) (an := an_disk_Flush_nil) (outs := [O_disk_Flush_nil]) Try.func28 (by decide) (vc_disk_Flush_nil H v r h)⟩
abbrev I_disk_Disk_Set : Pat := { slots := [(0, .ce (.ptr 0 0)), (1, .ag (.pair (.int .i64) (.pair .bool (.sl (.int .i64)))))], ents := [.box 96 [.os 1, .os 2, .v .bool, .v .bool, .v (.int .i64), .v .bool, .v (.sl (.int .i64))], .row 89 (.arr 4 .str), .row 101 (.pair (.int .i64) (.arr 4 .str))] }
abbrev O_disk_Disk_Set : Pat := { slots := [(0, .ce (.v (.int .i64)))], ents := [.box 96 [.os 1, .os 2, .v .bool, .v .bool, .v (.int .i64), .v .bool, .v (.sl (.int .i64))], .row 89 (.arr 4 .str), .row 101 (.pair (.int .i64) (.arr 4 .str))] }
def c_disk_Disk_Set : Ctr := { k0 := 1, inp := I_disk_Disk_Set, body := fun v => .need (Sp.dSet.pre v.1 (v.2.1, v.2.2.1, v.2.2.2.1, v.2.2.2.2.1, v.2.2.2.2.2.1, v.2.2.2.2.2.2.1, v.2.2.2.2.2.2.2.1)) (.ret ⟨O_disk_Disk_Set, ((Sp.dSet v.1 (v.2.1, v.2.2.1, v.2.2.2.1, v.2.2.2.2.1, v.2.2.2.2.2.1, v.2.2.2.2.2.2.1, v.2.2.2.2.2.2.2.1)).2, (Sp.dSet v.1 (v.2.1, v.2.2.1, v.2.2.2.1, v.2.2.2.2.1, v.2.2.2.2.2.1, v.2.2.2.2.2.2.1, v.2.2.2.2.2.2.2.1)).1.1, (Sp.dSet v.1 (v.2.1, v.2.2.1, v.2.2.2.1, v.2.2.2.2.1, v.2.2.2.2.2.1, v.2.2.2.2.2.2.1, v.2.2.2.2.2.2.2.1)).1.2.1, (Sp.dSet v.1 (v.2.1, v.2.2.1, v.2.2.2.1, v.2.2.2.2.1, v.2.2.2.2.2.1, v.2.2.2.2.2.2.1, v.2.2.2.2.2.2.2.1)).1.2.2.1, (Sp.dSet v.1 (v.2.1, v.2.2.1, v.2.2.2.1, v.2.2.2.2.1, v.2.2.2.2.2.1, v.2.2.2.2.2.2.1, v.2.2.2.2.2.2.2.1)).1.2.2.2.1, (Sp.dSet v.1 (v.2.1, v.2.2.1, v.2.2.2.1, v.2.2.2.2.1, v.2.2.2.2.2.1, v.2.2.2.2.2.2.1, v.2.2.2.2.2.2.2.1)).1.2.2.2.2.1, (Sp.dSet v.1 (v.2.1, v.2.2.1, v.2.2.2.1, v.2.2.2.2.1, v.2.2.2.2.2.1, v.2.2.2.2.2.2.1, v.2.2.2.2.2.2.2.1)).1.2.2.2.2.2.1, (Sp.dSet v.1 (v.2.1, v.2.2.1, v.2.2.2.1, v.2.2.2.2.1, v.2.2.2.2.2.1, v.2.2.2.2.2.2.1, v.2.2.2.2.2.2.2.1)).1.2.2.2.2.2.2, ())⟩), ex := 0 }
def an_disk_Disk_Set : Ann := []
def cx_disk_Disk_Set : Cx := mkCx [(53, [c_disk_Disk_Up, c_disk_Up_nil]), (82, [c_slices_Clone_int_int])]
theorem eq_disk_Disk_Set (a : (Int × (Bool × (List Int)))) (down : Bool) (armed : Bool) (after : Int) (acut : Bool) (keep : (List Int)) (bs : (List (List Str))) (ws : (List (Int × (List Str)))) (R : ((p : Pat) × p.V) → Prop) : fnVc (cx_disk_Disk_Set) an_disk_Disk_Set 1 Try.f46 I_disk_Disk_Set [O_disk_Disk_Set] (a, down, armed, after, acut, keep, bs, ws, ()) R = disk_Disk_Set.vc (fun y0 y1 y2 y3 y4 y5 y6 y7 => R ⟨O_disk_Disk_Set, (y0, y1, y2, y3, y4, y5, y6, y7, ())⟩) a down armed after acut keep bs ws := by kernel_rfl
theorem fs_disk_Disk_Set : CtrsOk Try.prog [(53, [c_disk_Disk_Up, c_disk_Up_nil]), (82, [c_slices_Clone_int_int])] := ⟨(ctrC (ctr_disk_Disk_Up) (ctr1 (ctr_disk_Up_nil))), ctr1 (ctr_slices_Clone_int_int), trivial⟩
theorem vc_disk_Disk_Set (H : Nat → Entry) (v : c_disk_Disk_Set.inp.V) (r : (p : Pat) × p.V) (h : (c_disk_Disk_Set.body v).Sel H r) : fnVc (cx_disk_Disk_Set) an_disk_Disk_Set 1 Try.f46 c_disk_Disk_Set.inp [O_disk_Disk_Set] v (fun r' => r' = r) := by
  obtain ⟨a, down, armed, after, acut, keep, bs, ws, ⟨⟩⟩ := v
  obtain ⟨h, rfl⟩ := h
  exact Eq.mpr (eq_disk_Disk_Set a down armed after acut keep bs ws _) (disk_Disk_Set.ok _ a down armed after acut keep bs ws h rfl)
theorem ctr_disk_Disk_Set : CtrOk Try.prog 46 c_disk_Disk_Set := ⟨⟨_, Try.func46, by kernel_rfl, by kernel_rfl⟩, fun H v r h => mk_ok _ (fs_disk_Disk_Set) (an := an_disk_Disk_Set) (outs := [O_disk_Disk_Set]) Try.func46 (by decide) (vc_disk_Disk_Set H v r h)⟩
abbrev I_disk_Set_nil : Pat := { slots := [(0, .ce .nilp), (1, .ag (.pair (.int .i64) (.pair .bool (.sl (.int .i64)))))], ents := [] }
abbrev O_disk_Set_nil : Pat := { slots := [(0, .ce (.v (.int .i64)))], ents := [] }
def c_disk_Set_nil : Ctr := { k0 := 0, inp := I_disk_Set_nil, body := fun v => .ret ⟨O_disk_Set_nil, (Sp.setNil v.1, ())⟩, ex := 0 }
def an_disk_Set_nil : Ann := []
def cx_disk_Set_nil : Cx := mkCx [(53, [c_disk_Disk_Up, c_disk_Up_nil]), (82, [c_slices_Clone_int_int])]
theorem eq_disk_Set_nil (a : (Int × (Bool × (List Int)))) (R : ((p : Pat) × p.V) → Prop) : fnVc (cx_disk_Set_nil) an_disk_Set_nil 0 Try.f46 I_disk_Set_nil [O_disk_Set_nil] (a, ()) R = disk_Set_nil.vc (fun y0 => R ⟨O_disk_Set_nil, (y0, ())⟩) a := by kernel_rfl
theorem fs_disk_Set_nil : CtrsOk Try.prog [(53, [c_disk_Disk_Up, c_disk_Up_nil]), (82, [c_slices_Clone_int_int])] := ⟨(ctrC (ctr_disk_Disk_Up) (ctr1 (ctr_disk_Up_nil))), ctr1 (ctr_slices_Clone_int_int), trivial⟩
theorem vc_disk_Set_nil (H : Nat → Entry) (v : c_disk_Set_nil.inp.V) (r : (p : Pat) × p.V) (h : (c_disk_Set_nil.body v).Sel H r) : fnVc (cx_disk_Set_nil) an_disk_Set_nil 0 Try.f46 c_disk_Set_nil.inp [O_disk_Set_nil] v (fun r' => r' = r) := by
  obtain ⟨a, ⟨⟩⟩ := v
  obtain rfl := h
  exact Eq.mpr (eq_disk_Set_nil a _) (disk_Set_nil.ok _ a  rfl)
theorem ctr_disk_Set_nil : CtrOk Try.prog 46 c_disk_Set_nil := ⟨⟨_, Try.func46, by kernel_rfl, by kernel_rfl⟩, fun H v r h => mk_ok _ (fs_disk_Set_nil) (an := an_disk_Set_nil) (outs := [O_disk_Set_nil]) Try.func46 (by decide) (vc_disk_Set_nil H v r h)⟩
abbrev I_disk_Disk_Crash : Pat := { slots := [(0, .ce (.ptr 0 0)), (1, .ce (.v (.sl (.int .i64))))], ents := [.box 96 [.os 1, .os 2, .v .bool, .v .bool, .v (.int .i64), .v .bool, .v (.sl (.int .i64))], .row 89 (.arr 4 .str), .row 101 (.pair (.int .i64) (.arr 4 .str))] }
abbrev O_disk_Disk_Crash : Pat := { slots := [(0, .ce (.v (.int .i64)))], ents := [.box 96 [.os 1, .os 2, .v .bool, .v .bool, .v (.int .i64), .v .bool, .v (.sl (.int .i64))], .row 89 (.arr 4 .str), .row 101 (.pair (.int .i64) (.arr 4 .str))] }
def c_disk_Disk_Crash : Ctr := { k0 := 1, inp := I_disk_Disk_Crash, body := fun v => .need (Sp.dFall.pre v.1 (v.2.1, v.2.2.1, v.2.2.2.1, v.2.2.2.2.1, v.2.2.2.2.2.1, v.2.2.2.2.2.2.1, v.2.2.2.2.2.2.2.1)) (.ret ⟨O_disk_Disk_Crash, ((Sp.dCrash v.1 (v.2.1, v.2.2.1, v.2.2.2.1, v.2.2.2.2.1, v.2.2.2.2.2.1, v.2.2.2.2.2.2.1, v.2.2.2.2.2.2.2.1)).2, (Sp.dCrash v.1 (v.2.1, v.2.2.1, v.2.2.2.1, v.2.2.2.2.1, v.2.2.2.2.2.1, v.2.2.2.2.2.2.1, v.2.2.2.2.2.2.2.1)).1.1, (Sp.dCrash v.1 (v.2.1, v.2.2.1, v.2.2.2.1, v.2.2.2.2.1, v.2.2.2.2.2.1, v.2.2.2.2.2.2.1, v.2.2.2.2.2.2.2.1)).1.2.1, (Sp.dCrash v.1 (v.2.1, v.2.2.1, v.2.2.2.1, v.2.2.2.2.1, v.2.2.2.2.2.1, v.2.2.2.2.2.2.1, v.2.2.2.2.2.2.2.1)).1.2.2.1, (Sp.dCrash v.1 (v.2.1, v.2.2.1, v.2.2.2.1, v.2.2.2.2.1, v.2.2.2.2.2.1, v.2.2.2.2.2.2.1, v.2.2.2.2.2.2.2.1)).1.2.2.2.1, (Sp.dCrash v.1 (v.2.1, v.2.2.1, v.2.2.2.1, v.2.2.2.2.1, v.2.2.2.2.2.1, v.2.2.2.2.2.2.1, v.2.2.2.2.2.2.2.1)).1.2.2.2.2.1, (Sp.dCrash v.1 (v.2.1, v.2.2.1, v.2.2.2.1, v.2.2.2.2.1, v.2.2.2.2.2.1, v.2.2.2.2.2.2.1, v.2.2.2.2.2.2.2.1)).1.2.2.2.2.2.1, (Sp.dCrash v.1 (v.2.1, v.2.2.1, v.2.2.2.1, v.2.2.2.2.1, v.2.2.2.2.2.1, v.2.2.2.2.2.2.1, v.2.2.2.2.2.2.2.1)).1.2.2.2.2.2.2, ())⟩), ex := 0 }
def an_disk_Disk_Crash : Ann := []
def cx_disk_Disk_Crash : Cx := mkCx [(53, [c_disk_Disk_Up, c_disk_Up_nil]), (67, [c_disk_Disk_fall])]
theorem eq_disk_Disk_Crash (keep_ : (List Int)) (down : Bool) (armed : Bool) (after : Int) (acut : Bool) (keep : (List Int)) (bs : (List (List Str))) (ws : (List (Int × (List Str)))) (R : ((p : Pat) × p.V) → Prop) : fnVc (cx_disk_Disk_Crash) an_disk_Disk_Crash 1 Try.f29 I_disk_Disk_Crash [O_disk_Disk_Crash] (keep_, down, armed, after, acut, keep, bs, ws, ()) R = disk_Disk_Crash.vc (fun y0 y1 y2 y3 y4 y5 y6 y7 => R ⟨O_disk_Disk_Crash, (y0, y1, y2, y3, y4, y5, y6, y7, ())⟩) keep_ down armed after acut keep bs ws := by kernel_rfl
theorem fs_disk_Disk_Crash : CtrsOk Try.prog [(53, [c_disk_Disk_Up, c_disk_Up_nil]), (67, [c_disk_Disk_fall])] := ⟨(ctrC (ctr_disk_Disk_Up) (ctr1 (ctr_disk_Up_nil))), ctr1 (ctr_disk_Disk_fall), trivial⟩
theorem vc_disk_Disk_Crash (H : Nat → Entry) (v : c_disk_Disk_Crash.inp.V) (r : (p : Pat) × p.V) (h : (c_disk_Disk_Crash.body v).Sel H r) : fnVc (cx_disk_Disk_Crash) an_disk_Disk_Crash 1 Try.f29 c_disk_Disk_Crash.inp [O_disk_Disk_Crash] v (fun r' => r' = r) := by
  obtain ⟨keep_, down, armed, after, acut, keep, bs, ws, ⟨⟩⟩ := v
  obtain ⟨h, rfl⟩ := h
  exact Eq.mpr (eq_disk_Disk_Crash keep_ down armed after acut keep bs ws _) (disk_Disk_Crash.ok _ keep_ down armed after acut keep bs ws h rfl)
theorem ctr_disk_Disk_Crash : CtrOk Try.prog 29 c_disk_Disk_Crash := ⟨⟨_, Try.func29, by kernel_rfl, by kernel_rfl⟩, fun H v r h => mk_ok _ (fs_disk_Disk_Crash) (an := an_disk_Disk_Crash) (outs := [O_disk_Disk_Crash]) Try.func29 (by decide) (vc_disk_Disk_Crash H v r h)⟩
abbrev I_disk_Crash_nil : Pat := { slots := [(0, .ce .nilp), (1, .ce (.v (.sl (.int .i64))))], ents := [] }
abbrev O_disk_Crash_nil : Pat := { slots := [(0, .ce (.v (.int .i64)))], ents := [] }
def c_disk_Crash_nil : Ctr := { k0 := 0, inp := I_disk_Crash_nil, body := fun v => .ret ⟨O_disk_Crash_nil, ((271 : Int), ())⟩, ex := 0 }
def an_disk_Crash_nil : Ann := []
def cx_disk_Crash_nil : Cx := mkCx [(53, [c_disk_Disk_Up, c_disk_Up_nil]), (67, [c_disk_Disk_fall])]
theorem eq_disk_Crash_nil (keep_ : (List Int)) (R : ((p : Pat) × p.V) → Prop) : fnVc (cx_disk_Crash_nil) an_disk_Crash_nil 0 Try.f29 I_disk_Crash_nil [O_disk_Crash_nil] (keep_, ()) R = disk_Crash_nil.vc (fun y0 => R ⟨O_disk_Crash_nil, (y0, ())⟩) keep_ := by kernel_rfl
theorem fs_disk_Crash_nil : CtrsOk Try.prog [(53, [c_disk_Disk_Up, c_disk_Up_nil]), (67, [c_disk_Disk_fall])] := ⟨(ctrC (ctr_disk_Disk_Up) (ctr1 (ctr_disk_Up_nil))), ctr1 (ctr_disk_Disk_fall), trivial⟩
theorem vc_disk_Crash_nil (H : Nat → Entry) (v : c_disk_Crash_nil.inp.V) (r : (p : Pat) × p.V) (h : (c_disk_Crash_nil.body v).Sel H r) : fnVc (cx_disk_Crash_nil) an_disk_Crash_nil 0 Try.f29 c_disk_Crash_nil.inp [O_disk_Crash_nil] v (fun r' => r' = r) := by
  obtain ⟨keep_, ⟨⟩⟩ := v
  obtain rfl := h
  exact Eq.mpr (eq_disk_Crash_nil keep_ _) (disk_Crash_nil.ok _ keep_  rfl)
theorem ctr_disk_Crash_nil : CtrOk Try.prog 29 c_disk_Crash_nil := ⟨⟨_, Try.func29, by kernel_rfl, by kernel_rfl⟩, fun H v r h => mk_ok _ (fs_disk_Crash_nil) (an := an_disk_Crash_nil) (outs := [O_disk_Crash_nil]) Try.func29 (by decide) (vc_disk_Crash_nil H v r h)⟩
abbrev I_disk_Disk_Start : Pat := { slots := [(0, .ce (.ptr 0 0))], ents := [.box 96 [.os 1, .os 2, .v .bool, .v .bool, .v (.int .i64), .v .bool, .v (.sl (.int .i64))], .row 89 (.arr 4 .str), .row 101 (.pair (.int .i64) (.arr 4 .str))] }
abbrev O_disk_Disk_Start : Pat := { slots := [(0, .ce (.v (.int .i64)))], ents := [.box 96 [.os 1, .os 2, .v .bool, .v .bool, .v (.int .i64), .v .bool, .v (.sl (.int .i64))], .row 89 (.arr 4 .str), .row 101 (.pair (.int .i64) (.arr 4 .str))] }
def c_disk_Disk_Start : Ctr := { k0 := 1, inp := I_disk_Disk_Start, body := fun v => .need (Sp.dPre (v.1, v.2.1, v.2.2.1, v.2.2.2.1, v.2.2.2.2.1, v.2.2.2.2.2.1, v.2.2.2.2.2.2.1)) (.ret ⟨O_disk_Disk_Start, ((Sp.dStart  (v.1, v.2.1, v.2.2.1, v.2.2.2.1, v.2.2.2.2.1, v.2.2.2.2.2.1, v.2.2.2.2.2.2.1)).2, (Sp.dStart  (v.1, v.2.1, v.2.2.1, v.2.2.2.1, v.2.2.2.2.1, v.2.2.2.2.2.1, v.2.2.2.2.2.2.1)).1.1, (Sp.dStart  (v.1, v.2.1, v.2.2.1, v.2.2.2.1, v.2.2.2.2.1, v.2.2.2.2.2.1, v.2.2.2.2.2.2.1)).1.2.1, (Sp.dStart  (v.1, v.2.1, v.2.2.1, v.2.2.2.1, v.2.2.2.2.1, v.2.2.2.2.2.1, v.2.2.2.2.2.2.1)).1.2.2.1, (Sp.dStart  (v.1, v.2.1, v.2.2.1, v.2.2.2.1, v.2.2.2.2.1, v.2.2.2.2.2.1, v.2.2.2.2.2.2.1)).1.2.2.2.1, (Sp.dStart  (v.1, v.2.1, v.2.2.1, v.2.2.2.1, v.2.2.2.2.1, v.2.2.2.2.2.1, v.2.2.2.2.2.2.1)).1.2.2.2.2.1, (Sp.dStart  (v.1, v.2.1, v.2.2.1, v.2.2.2.1, v.2.2.2.2.1, v.2.2.2.2.2.1, v.2.2.2.2.2.2.1)).1.2.2.2.2.2.1, (Sp.dStart  (v.1, v.2.1, v.2.2.1, v.2.2.2.1, v.2.2.2.2.1, v.2.2.2.2.2.1, v.2.2.2.2.2.2.1)).1.2.2.2.2.2.2, ())⟩), ex := 0 }
def an_disk_Disk_Start : Ann := []
def cx_disk_Disk_Start : Cx := mkCx []
theorem eq_disk_Disk_Start (down : Bool) (armed : Bool) (after : Int) (acut : Bool) (keep : (List Int)) (bs : (List (List Str))) (ws : (List (Int × (List Str)))) (R : ((p : Pat) × p.V) → Prop) : fnVc (cx_disk_Disk_Start) an_disk_Disk_Start 1 Try.f30 I_disk_Disk_Start [O_disk_Disk_Start] (down, armed, after, acut, keep, bs, ws, ()) R = disk_Disk_Start.vc (fun y0 y1 y2 y3 y4 y5 y6 y7 => R ⟨O_disk_Disk_Start, (y0, y1, y2, y3, y4, y5, y6, y7, ())⟩) down armed after acut keep bs ws := by kernel_rfl
theorem fs_disk_Disk_Start : CtrsOk Try.prog [] := trivial
theorem vc_disk_Disk_Start (H : Nat → Entry) (v : c_disk_Disk_Start.inp.V) (r : (p : Pat) × p.V) (h : (c_disk_Disk_Start.body v).Sel H r) : fnVc (cx_disk_Disk_Start) an_disk_Disk_Start 1 Try.f30 c_disk_Disk_Start.inp [O_disk_Disk_Start] v (fun r' => r' = r) := by
  obtain ⟨down, armed, after, acut, keep, bs, ws, ⟨⟩⟩ := v
  obtain ⟨h, rfl⟩ := h
  exact Eq.mpr (eq_disk_Disk_Start down armed after acut keep bs ws _) (disk_Disk_Start.ok _ down armed after acut keep bs ws h rfl)
theorem ctr_disk_Disk_Start : CtrOk Try.prog 30 c_disk_Disk_Start := ⟨⟨_, Try.func30, by kernel_rfl, by kernel_rfl⟩, fun H v r h => mk_ok _ (fs_disk_Disk_Start) (an := an_disk_Disk_Start) (outs := [O_disk_Disk_Start]) Try.func30 (by decide) (vc_disk_Disk_Start H v r h)⟩
abbrev I_disk_Start_nil : Pat := { slots := [(0, .ce .nilp)], ents := [] }
abbrev O_disk_Start_nil : Pat := { slots := [(0, .ce (.v (.int .i64)))], ents := [] }
def c_disk_Start_nil : Ctr := { k0 := 0, inp := I_disk_Start_nil, body := fun v => .ret ⟨O_disk_Start_nil, ((7 : Int), ())⟩, ex := 0 }
def an_disk_Start_nil : Ann := []
def cx_disk_Start_nil : Cx := mkCx []
theorem eq_disk_Start_nil  (R : ((p : Pat) × p.V) → Prop) : fnVc (cx_disk_Start_nil) an_disk_Start_nil 0 Try.f30 I_disk_Start_nil [O_disk_Start_nil] (()) R = disk_Start_nil.vc (fun y0 => R ⟨O_disk_Start_nil, (y0, ())⟩)  := by kernel_rfl
theorem fs_disk_Start_nil : CtrsOk Try.prog [] := trivial
theorem vc_disk_Start_nil (H : Nat → Entry) (v : c_disk_Start_nil.inp.V) (r : (p : Pat) × p.V) (h : (c_disk_Start_nil.body v).Sel H r) : fnVc (cx_disk_Start_nil) an_disk_Start_nil 0 Try.f30 c_disk_Start_nil.inp [O_disk_Start_nil] v (fun r' => r' = r) := by
  obtain ⟨⟩ := v
  obtain rfl := h
  exact Eq.mpr (eq_disk_Start_nil  _) (disk_Start_nil.ok _   rfl)
theorem ctr_disk_Start_nil : CtrOk Try.prog 30 c_disk_Start_nil := ⟨⟨_, Try.func30, by kernel_rfl, by kernel_rfl⟩, fun H v r h => mk_ok _ (fs_disk_Start_nil) (an := an_disk_Start_nil) (outs := [O_disk_Start_nil]) Try.func30 (by decide) (vc_disk_Start_nil H v r h)⟩
abbrev I_rectoref27_New : Pat := { slots := [(0, .ce (.v (.int .i64)))], ents := [] }
abbrev O_rectoref27_New : Pat := { slots := [(0, .ce (.ptr 0 0))], ents := [.box 68 [.os 1, .os 2, .v .bool, .v .bool, .v (.int .i64), .v .bool, .v (.sl (.int .i64))], .row 9 .str, .row 103 (.pair (.int .i64) .str)] }
def c_rectoref27_New : Ctr := { k0 := 0, inp := I_rectoref27_New, body := fun v => .need (Sp.rNew.pre v.1) (.ret ⟨O_rectoref27_New, ((Sp.rNew v.1).1, (Sp.rNew v.1).2.1, (Sp.rNew v.1).2.2.1, (Sp.rNew v.1).2.2.2.1, (Sp.rNew v.1).2.2.2.2.1, (Sp.rNew v.1).2.2.2.2.2.1, (Sp.rNew v.1).2.2.2.2.2.2, ())⟩), ex := 0 }
def an_rectoref27_New : Ann := [(3, { slots := [(0, .ce (.v (.int .i64))), (3, .ce (.v .str)), (4, .ce (.v (.int .i64)))], ents := [] }), (8, { slots := [(0, .ce (.v (.int .i64))), (3, .ce (.v .str)), (5, .ce (.ptr 0 0)), (6, .ce (.v (.int .i64)))], ents := [.box 68 [.os 1, .os 2, .v .bool, .v .bool, .v (.int .i64), .v .bool, .v (.sl (.int .i64))], .row 9 .str, .row 103 (.pair (.int .i64) .str)] })]
def cx_rectoref27_New : Cx := mkCx []
theorem eq_rectoref27_New (blocks : Int) (R : ((p : Pat) × p.V) → Prop) : fnVc (cx_rectoref27_New) an_rectoref27_New 0 Try.f13 I_rectoref27_New [O_rectoref27_New] (blocks, ()) R = rectoref27_New.vc (fun y0 y1 y2 y3 y4 y5 y6 => R ⟨O_rectoref27_New, (y0, y1, y2, y3, y4, y5, y6, ())⟩) blocks := by kernel_rfl
theorem fs_rectoref27_New : CtrsOk Try.prog [] := trivial
theorem vc_rectoref27_New (H : Nat → Entry) (v : c_rectoref27_New.inp.V) (r : (p : Pat) × p.V) (h : (c_rectoref27_New.body v).Sel H r) : fnVc (cx_rectoref27_New) an_rectoref27_New 0 Try.f13 c_rectoref27_New.inp [O_rectoref27_New] v (fun r' => r' = r) := by
  obtain ⟨blocks, ⟨⟩⟩ := v
  obtain ⟨h, rfl⟩ := h
  exact Eq.mpr (eq_rectoref27_New blocks _) (rectoref27_New.ok _ blocks h rfl)
theorem ctr_rectoref27_New : CtrOk Try.prog 13 c_rectoref27_New := ⟨⟨_, Try.func13, by kernel_rfl, by kernel_rfl⟩, fun H v r h => mk_ok _ (fs_rectoref27_New) (an := an_rectoref27_New) (outs := [O_rectoref27_New]) Try.func13 (by decide) (vc_rectoref27_New H v r h)⟩
abbrev I_rectoref27_Disk_Read : Pat := { slots := [(0, .ce (.ptr 0 0)), (1, .ce (.v (.int .i64)))], ents := [.box 68 [.os 1, .os 2, .v .bool, .v .bool, .v (.int .i64), .v .bool, .v (.sl (.int .i64))], .row 9 .str, .row 103 (.pair (.int .i64) .str)] }
abbrev O_rectoref27_Disk_Read : Pat := { slots := [(0, .ce (.v .str)), (1, .ce (.v (.int .i64)))], ents := [.box 68 [.os 1, .os 2, .v .bool, .v .bool, .v (.int .i64), .v .bool, .v (.sl (.int .i64))], .row 9 .str, .row 103 (.pair (.int .i64) .str)] }
def c_rectoref27_Disk_Read : Ctr := { k0 := 1, inp := I_rectoref27_Disk_Read, body := fun v => .need (Sp.rPre (v.2.1, v.2.2.1, v.2.2.2.1, v.2.2.2.2.1, v.2.2.2.2.2.1, v.2.2.2.2.2.2.1, v.2.2.2.2.2.2.2.1)) (.ret ⟨O_rectoref27_Disk_Read, ((Sp.rRead v.1 (v.2.1, v.2.2.1, v.2.2.2.1, v.2.2.2.2.1, v.2.2.2.2.2.1, v.2.2.2.2.2.2.1, v.2.2.2.2.2.2.2.1)).1, (Sp.rRead v.1 (v.2.1, v.2.2.1, v.2.2.2.1, v.2.2.2.2.1, v.2.2.2.2.2.1, v.2.2.2.2.2.2.1, v.2.2.2.2.2.2.2.1)).2, v.2.1, v.2.2.1, v.2.2.2.1, v.2.2.2.2.1, v.2.2.2.2.2.1, v.2.2.2.2.2.2.1, v.2.2.2.2.2.2.2.1, ())⟩), ex := 0 }
def an_rectoref27_Disk_Read : Ann := [(7, { slots := [(1, .ce (.v (.int .i64))), (6, .ce (.v .str)), (34, .ce (.os 2)), (35, .ce (.v (.int .i64))), (36, .ce (.v (.int .i64)))], ents := [.box 68 [.os 1, .os 2, .v .bool, .v .bool, .v (.int .i64), .v .bool, .v (.sl (.int .i64))], .row 9 .str, .row 103 (.pair (.int .i64) .str)] })]
def cx_rectoref27_Disk_Read : Cx := mkCx []
theorem eq_rectoref27_Disk_Read (i : Int) (rdown : Bool) (rarmed : Bool) (rafter : Int) (racut : Bool) (rkeep : (List Int)) (rbs : (List Str)) (rws : (List (Int × Str))) (R : ((p : Pat) × p.V) → Prop) : fnVc (cx_rectoref27_Disk_Read) an_rectoref27_Disk_Read 1 Try.f62 I_rectoref27_Disk_Read [O_rectoref27_Disk_Read] (i, rdown, rarmed, rafter, racut, rkeep, rbs, rws, ()) R = rectoref27_Disk_Read.vc (fun y0 y1 y2 y3 y4 y5 y6 y7 y8 => R ⟨O_rectoref27_Disk_Read, (y0, y1, y2, y3, y4, y5, y6, y7, y8, ())⟩) i rdown rarmed rafter racut rkeep rbs rws := by kernel_rfl
theorem fs_rectoref27_Disk_Read : CtrsOk Try.prog [] := trivial
theorem vc_rectoref27_Disk_Read (H : Nat → Entry) (v : c_rectoref27_Disk_Read.inp.V) (r : (p : Pat) × p.V) (h : (c_rectoref27_Disk_Read.body v).Sel H r) : fnVc (cx_rectoref27_Disk_Read) an_rectoref27_Disk_Read 1 Try.f62 c_rectoref27_Disk_Read.inp [O_rectoref27_Disk_Read] v (fun r' => r' = r) := by
  obtain ⟨i, rdown, rarmed, rafter, racut, rkeep, rbs, rws, ⟨⟩⟩ := v
  obtain ⟨h, rfl⟩ := h
  exact Eq.mpr (eq_rectoref27_Disk_Read i rdown rarmed rafter racut rkeep rbs rws _) (rectoref27_Disk_Read.ok _ i rdown rarmed rafter racut rkeep rbs rws h rfl)
theorem ctr_rectoref27_Disk_Read : CtrOk Try.prog 62 c_rectoref27_Disk_Read := ⟨⟨_, Try.func62, by kernel_rfl, by kernel_rfl⟩, fun H v r h => mk_ok _ (fs_rectoref27_Disk_Read) (an := an_rectoref27_Disk_Read) (outs := [O_rectoref27_Disk_Read]) Try.func62 (by decide) (vc_rectoref27_Disk_Read H v r h)⟩
abbrev I_rectoref27_Disk_Fall : Pat := { slots := [(0, .ce (.ptr 0 0)), (1, .ce (.v (.sl (.int .i64))))], ents := [.box 68 [.os 1, .os 2, .v .bool, .v .bool, .v (.int .i64), .v .bool, .v (.sl (.int .i64))], .row 9 .str, .row 103 (.pair (.int .i64) .str)] }
abbrev O_rectoref27_Disk_Fall : Pat := { slots := [], ents := [.box 68 [.os 1, .os 2, .v .bool, .v .bool, .v (.int .i64), .v .bool, .v (.sl (.int .i64))], .row 9 .str, .row 103 (.pair (.int .i64) .str)] }
def c_rectoref27_Disk_Fall : Ctr := { k0 := 1, inp := I_rectoref27_Disk_Fall, body := fun v => .need (Sp.rFall.pre v.1 (v.2.1, v.2.2.1, v.2.2.2.1, v.2.2.2.2.1, v.2.2.2.2.2.1, v.2.2.2.2.2.2.1, v.2.2.2.2.2.2.2.1)) (.ret ⟨O_rectoref27_Disk_Fall, ((Sp.rFall v.1 (v.2.1, v.2.2.1, v.2.2.2.1, v.2.2.2.2.1, v.2.2.2.2.2.1, v.2.2.2.2.2.2.1, v.2.2.2.2.2.2.2.1)).1, (Sp.rFall v.1 (v.2.1, v.2.2.1, v.2.2.2.1, v.2.2.2.2.1, v.2.2.2.2.2.1, v.2.2.2.2.2.2.1, v.2.2.2.2.2.2.2.1)).2.1, (Sp.rFall v.1 (v.2.1, v.2.2.1, v.2.2.2.1, v.2.2.2.2.1, v.2.2.2.2.2.1, v.2.2.2.2.2.2.1, v.2.2.2.2.2.2.2.1)).2.2.1, (Sp.rFall v.1 (v.2.1, v.2.2.1, v.2.2.2.1, v.2.2.2.2.1, v.2.2.2.2.2.1, v.2.2.2.2.2.2.1, v.2.2.2.2.2.2.2.1)).2.2.2.1, (Sp.rFall v.1 (v.2.1, v.2.2.1, v.2.2.2.1, v.2.2.2.2.1, v.2.2.2.2.2.1, v.2.2.2.2.2.2.1, v.2.2.2.2.2.2.2.1)).2.2.2.2.1, (Sp.rFall v.1 (v.2.1, v.2.2.1, v.2.2.2.1, v.2.2.2.2.1, v.2.2.2.2.2.1, v.2.2.2.2.2.2.1, v.2.2.2.2.2.2.2.1)).2.2.2.2.2.1, (Sp.rFall v.1 (v.2.1, v.2.2.1, v.2.2.2.1, v.2.2.2.2.1, v.2.2.2.2.2.1, v.2.2.2.2.2.2.1, v.2.2.2.2.2.2.2.1)).2.2.2.2.2.2, ())⟩), ex := 0 }
def an_rectoref27_Disk_Fall : Ann := [(1, { slots := [(0, .ce (.ptr 0 0)), (1, .ce (.v (.sl (.int .i64)))), (10, .ce (.os 2)), (11, .ce (.v (.int .i64))), (12, .ce (.v (.int .i64)))], ents := [.box 68 [.os 1, .os 2, .v .bool, .v .bool, .v (.int .i64), .v .bool, .v (.sl (.int .i64))], .row 9 .str, .row 103 (.pair (.int .i64) .str)] })]
def cx_rectoref27_Disk_Fall : Cx := mkCx []
theorem eq_rectoref27_Disk_Fall (keep_ : (List Int)) (rdown : Bool) (rarmed : Bool) (rafter : Int) (racut : Bool) (rkeep : (List Int)) (rbs : (List Str)) (rws : (List (Int × Str))) (R : ((p : Pat) × p.V) → Prop) : fnVc (cx_rectoref27_Disk_Fall) an_rectoref27_Disk_Fall 1 Try.f88 I_rectoref27_Disk_Fall [O_rectoref27_Disk_Fall] (keep_, rdown, rarmed, rafter, racut, rkeep, rbs, rws, ()) R = rectoref27_Disk_Fall.vc (fun y0 y1 y2 y3 y4 y5 y6 => R ⟨O_rectoref27_Disk_Fall, (y0, y1, y2, y3, y4, y5, y6, ())⟩) keep_ rdown rarmed rafter racut rkeep rbs rws := by kernel_rfl
theorem fs_rectoref27_Disk_Fall : CtrsOk Try.prog [] := trivial
theorem vc_rectoref27_Disk_Fall (H : Nat → Entry) (v : c_rectoref27_Disk_Fall.inp.V) (r : (p : Pat) × p.V) (h : (c_rectoref27_Disk_Fall.body v).Sel H r) : fnVc (cx_rectoref27_Disk_Fall) an_rectoref27_Disk_Fall 1 Try.f88 c_rectoref27_Disk_Fall.inp [O_rectoref27_Disk_Fall] v (fun r' => r' = r) := by
  obtain ⟨keep_, rdown, rarmed, rafter, racut, rkeep, rbs, rws, ⟨⟩⟩ := v
  obtain ⟨h, rfl⟩ := h
  exact Eq.mpr (eq_rectoref27_Disk_Fall keep_ rdown rarmed rafter racut rkeep rbs rws _) (rectoref27_Disk_Fall.ok _ keep_ rdown rarmed rafter racut rkeep rbs rws h rfl)
theorem ctr_rectoref27_Disk_Fall : CtrOk Try.prog 88 c_rectoref27_Disk_Fall := ⟨⟨_, Try.func88, by kernel_rfl, by kernel_rfl⟩, fun H v r h => mk_ok _ (fs_rectoref27_Disk_Fall) (an := an_rectoref27_Disk_Fall) (outs := [O_rectoref27_Disk_Fall]) Try.func88 (by decide) (vc_rectoref27_Disk_Fall H v r h)⟩
abbrev I_rectoref27_Disk_goes : Pat := { slots := [(0, .ce (.ptr 0 0))], ents := [.box 68 [.os 1, .os 2, .v .bool, .v .bool, .v (.int .i64), .v .bool, .v (.sl (.int .i64))], .row 9 .str, .row 103 (.pair (.int .i64) .str)] }
abbrev O_rectoref27_Disk_goes : Pat := { slots := [(0, .ce (.v (.int .i64)))], ents := [.box 68 [.os 1, .os 2, .v .bool, .v .bool, .v (.int .i64), .v .bool, .v (.sl (.int .i64))], .row 9 .str, .row 103 (.pair (.int .i64) .str)] }
def c_rectoref27_Disk_goes : Ctr := { k0 := 1, inp := I_rectoref27_Disk_goes, body := fun v => .need (Sp.rPre (v.1, v.2.1, v.2.2.1, v.2.2.2.1, v.2.2.2.2.1, v.2.2.2.2.2.1, v.2.2.2.2.2.2.1)) (.ret ⟨O_rectoref27_Disk_goes, ((Sp.rGoes  (v.1, v.2.1, v.2.2.1, v.2.2.2.1, v.2.2.2.2.1, v.2.2.2.2.2.1, v.2.2.2.2.2.2.1)).2, (Sp.rGoes  (v.1, v.2.1, v.2.2.1, v.2.2.2.1, v.2.2.2.2.1, v.2.2.2.2.2.1, v.2.2.2.2.2.2.1)).1.1, (Sp.rGoes  (v.1, v.2.1, v.2.2.1, v.2.2.2.1, v.2.2.2.2.1, v.2.2.2.2.2.1, v.2.2.2.2.2.2.1)).1.2.1, (Sp.rGoes  (v.1, v.2.1, v.2.2.1, v.2.2.2.1, v.2.2.2.2.1, v.2.2.2.2.2.1, v.2.2.2.2.2.2.1)).1.2.2.1, (Sp.rGoes  (v.1, v.2.1, v.2.2.1, v.2.2.2.1, v.2.2.2.2.1, v.2.2.2.2.2.1, v.2.2.2.2.2.2.1)).1.2.2.2.1, (Sp.rGoes  (v.1, v.2.1, v.2.2.1, v.2.2.2.1, v.2.2.2.2.1, v.2.2.2.2.2.1, v.2.2.2.2.2.2.1)).1.2.2.2.2.1, (Sp.rGoes  (v.1, v.2.1, v.2.2.1, v.2.2.2.1, v.2.2.2.2.1, v.2.2.2.2.2.1, v.2.2.2.2.2.2.1)).1.2.2.2.2.2.1, (Sp.rGoes  (v.1, v.2.1, v.2.2.1, v.2.2.2.1, v.2.2.2.2.1, v.2.2.2.2.2.1, v.2.2.2.2.2.2.1)).1.2.2.2.2.2.2, ())⟩), ex := 0 }
def an_rectoref27_Disk_goes : Ann := []
def cx_rectoref27_Disk_goes : Cx := mkCx [(88, [c_rectoref27_Disk_Fall])]
theorem eq_rectoref27_Disk_goes (rdown : Bool) (rarmed : Bool) (rafter : Int) (racut : Bool) (rkeep : (List Int)) (rbs : (List Str)) (rws : (List (Int × Str))) (R : ((p : Pat) × p.V) → Prop) : fnVc (cx_rectoref27_Disk_goes) an_rectoref27_Disk_goes 1 Try.f55 I_rectoref27_Disk_goes [O_rectoref27_Disk_goes] (rdown, rarmed, rafter, racut, rkeep, rbs, rws, ()) R = rectoref27_Disk_goes.vc (fun y0 y1 y2 y3 y4 y5 y6 y7 => R ⟨O_rectoref27_Disk_goes, (y0, y1, y2, y3, y4, y5, y6, y7, ())⟩) rdown rarmed rafter racut rkeep rbs rws := by kernel_rfl
theorem fs_rectoref27_Disk_goes : CtrsOk Try.prog [(88, [c_rectoref27_Disk_Fall])] := ⟨ctr1 (ctr_rectoref27_Disk_Fall), trivial⟩
theorem vc_rectoref27_Disk_goes (H : Nat → Entry) (v : c_rectoref27_Disk_goes.inp.V) (r : (p : Pat) × p.V) (h : (c_rectoref27_Disk_goes.body v).Sel H r) : fnVc (cx_rectoref27_Disk_goes) an_rectoref27_Disk_goes 1 Try.f55 c_rectoref27_Disk_goes.inp [O_rectoref27_Disk_goes] v (fun r' => r' = r) := by
  obtain ⟨rdown, rarmed, rafter, racut, rkeep, rbs, rws, ⟨⟩⟩ := v
  obtain ⟨h, rfl⟩ := h
  exact Eq.mpr (eq_rectoref27_Disk_goes rdown rarmed rafter racut rkeep rbs rws _) (rectoref27_Disk_goes.ok _ rdown rarmed rafter racut rkeep rbs rws h rfl)
theorem ctr_rectoref27_Disk_goes : CtrOk Try.prog 55 c_rectoref27_Disk_goes := ⟨⟨_, Try.func55, by kernel_rfl, by kernel_rfl⟩, fun H v r h => mk_ok _ (fs_rectoref27_Disk_goes) (an := an_rectoref27_Disk_goes) (outs := [O_rectoref27_Disk_goes]) Try.func55 (by decide) (vc_rectoref27_Disk_goes H v r h)⟩
abbrev I_rectoref27_Disk_Write : Pat := { slots := [(0, .ce (.ptr 0 0)), (1, .ce (.v (.int .i64))), (2, .ce (.v .str))], ents := [.box 68 [.os 1, .os 2, .v .bool, .v .bool, .v (.int .i64), .v .bool, .v (.sl (.int .i64))], .row 9 .str, .row 103 (.pair (.int .i64) .str)] }
abbrev O_rectoref27_Disk_Write : Pat := { slots := [(0, .ce (.v (.int .i64)))], ents := [.box 68 [.os 1, .os 2, .v .bool, .v .bool, .v (.int .i64), .v .bool, .v (.sl (.int .i64))], .row 9 .str, .row 103 (.pair (.int .i64) .str)] }
def c_rectoref27_Disk_Write : Ctr := { k0 := 1, inp := I_rectoref27_Disk_Write, body := fun v => .need (Sp.rWrite.pre v.1 v.2.1 (v.2.2.1, v.2.2.2.1, v.2.2.2.2.1, v.2.2.2.2.2.1, v.2.2.2.2.2.2.1, v.2.2.2.2.2.2.2.1, v.2.2.2.2.2.2.2.2.1)) (.ret ⟨O_rectoref27_Disk_Write, ((Sp.rWrite v.1 v.2.1 (v.2.2.1, v.2.2.2.1, v.2.2.2.2.1, v.2.2.2.2.2.1, v.2.2.2.2.2.2.1, v.2.2.2.2.2.2.2.1, v.2.2.2.2.2.2.2.2.1)).2, (Sp.rWrite v.1 v.2.1 (v.2.2.1, v.2.2.2.1, v.2.2.2.2.1, v.2.2.2.2.2.1, v.2.2.2.2.2.2.1, v.2.2.2.2.2.2.2.1, v.2.2.2.2.2.2.2.2.1)).1.1, (Sp.rWrite v.1 v.2.1 (v.2.2.1, v.2.2.2.1, v.2.2.2.2.1, v.2.2.2.2.2.1, v.2.2.2.2.2.2.1, v.2.2.2.2.2.2.2.1, v.2.2.2.2.2.2.2.2.1)).1.2.1, (Sp.rWrite v.1 v.2.1 (v.2.2.1, v.2.2.2.1, v.2.2.2.2.1, v.2.2.2.2.2.1, v.2.2.2.2.2.2.1, v.2.2.2.2.2.2.2.1, v.2.2.2.2.2.2.2.2.1)).1.2.2.1, (Sp.rWrite v.1 v.2.1 (v.2.2.1, v.2.2.2.1, v.2.2.2.2.1, v.2.2.2.2.2.1, v.2.2.2.2.2.2.1, v.2.2.2.2.2.2.2.1, v.2.2.2.2.2.2.2.2.1)).1.2.2.2.1, (Sp.rWrite v.1 v.2.1 (v.2.2.1, v.2.2.2.1, v.2.2.2.2.1, v.2.2.2.2.2.1, v.2.2.2.2.2.2.1, v.2.2.2.2.2.2.2.1, v.2.2.2.2.2.2.2.2.1)).1.2.2.2.2.1, (Sp.rWrite v.1 v.2.1 (v.2.2.1, v.2.2.2.1, v.2.2.2.2.1, v.2.2.2.2.2.1, v.2.2.2.2.2.2.1, v.2.2.2.2.2.2.2.1, v.2.2.2.2.2.2.2.2.1)).1.2.2.2.2.2.1, (Sp.rWrite v.1 v.2.1 (v.2.2.1, v.2.2.2.1, v.2.2.2.2.1, v.2.2.2.2.2.1, v.2.2.2.2.2.2.1, v.2.2.2.2.2.2.2.1, v.2.2.2.2.2.2.2.2.1)).1.2.2.2.2.2.2, ())⟩), ex := 0 }
def an_rectoref27_Disk_Write : Ann := []
def cx_rectoref27_Disk_Write : Cx := mkCx [(55, [c_rectoref27_Disk_goes])]
theorem eq_rectoref27_Disk_Write (i : Int) (s : Str) (rdown : Bool) (rarmed : Bool) (rafter : Int) (racut : Bool) (rkeep : (List Int)) (rbs : (List Str)) (rws : (List (Int × Str))) (R : ((p : Pat) × p.V) → Prop) : fnVc (cx_rectoref27_Disk_Write) an_rectoref27_Disk_Write 1 Try.f15 I_rectoref27_Disk_Write [O_rectoref27_Disk_Write] (i, s, rdown, rarmed, rafter, racut, rkeep, rbs, rws, ()) R = rectoref27_Disk_Write.vc (fun y0 y1 y2 y3 y4 y5 y6 y7 => R ⟨O_rectoref27_Disk_Write, (y0, y1, y2, y3, y4, y5, y6, y7, ())⟩) i s rdown rarmed rafter racut rkeep rbs rws := by kernel_rfl
theorem fs_rectoref27_Disk_Write : CtrsOk Try.prog [(55, [c_rectoref27_Disk_goes])] := ⟨ctr1 (ctr_rectoref27_Disk_goes), trivial⟩
theorem vc_rectoref27_Disk_Write (H : Nat → Entry) (v : c_rectoref27_Disk_Write.inp.V) (r : (p : Pat) × p.V) (h : (c_rectoref27_Disk_Write.body v).Sel H r) : fnVc (cx_rectoref27_Disk_Write) an_rectoref27_Disk_Write 1 Try.f15 c_rectoref27_Disk_Write.inp [O_rectoref27_Disk_Write] v (fun r' => r' = r) := by
  obtain ⟨i, s, rdown, rarmed, rafter, racut, rkeep, rbs, rws, ⟨⟩⟩ := v
  obtain ⟨h, rfl⟩ := h
  exact Eq.mpr (eq_rectoref27_Disk_Write i s rdown rarmed rafter racut rkeep rbs rws _) (rectoref27_Disk_Write.ok _ i s rdown rarmed rafter racut rkeep rbs rws h rfl)
theorem ctr_rectoref27_Disk_Write : CtrOk Try.prog 15 c_rectoref27_Disk_Write := ⟨⟨_, Try.func15, by kernel_rfl, by kernel_rfl⟩, fun H v r h => mk_ok _ (fs_rectoref27_Disk_Write) (an := an_rectoref27_Disk_Write) (outs := [O_rectoref27_Disk_Write]) Try.func15 (by decide) (vc_rectoref27_Disk_Write H v r h)⟩
abbrev I_rectoref27_Disk_Flush : Pat := { slots := [(0, .ce (.ptr 0 0))], ents := [.box 68 [.os 1, .os 2, .v .bool, .v .bool, .v (.int .i64), .v .bool, .v (.sl (.int .i64))], .row 9 .str, .row 103 (.pair (.int .i64) .str)] }
abbrev O_rectoref27_Disk_Flush : Pat := { slots := [(0, .ce (.v (.int .i64)))], ents := [.box 68 [.os 1, .os 2, .v .bool, .v .bool, .v (.int .i64), .v .bool, .v (.sl (.int .i64))], .row 9 .str, .row 103 (.pair (.int .i64) .str)] }
def c_rectoref27_Disk_Flush : Ctr := { k0 := 1, inp := I_rectoref27_Disk_Flush, body := fun v => .need (Sp.rPre (v.1, v.2.1, v.2.2.1, v.2.2.2.1, v.2.2.2.2.1, v.2.2.2.2.2.1, v.2.2.2.2.2.2.1)) (.ret ⟨O_rectoref27_Disk_Flush, ((Sp.rFlush  (v.1, v.2.1, v.2.2.1, v.2.2.2.1, v.2.2.2.2.1, v.2.2.2.2.2.1, v.2.2.2.2.2.2.1)).2, (Sp.rFlush  (v.1, v.2.1, v.2.2.1, v.2.2.2.1, v.2.2.2.2.1, v.2.2.2.2.2.1, v.2.2.2.2.2.2.1)).1.1, (Sp.rFlush  (v.1, v.2.1, v.2.2.1, v.2.2.2.1, v.2.2.2.2.1, v.2.2.2.2.2.1, v.2.2.2.2.2.2.1)).1.2.1, (Sp.rFlush  (v.1, v.2.1, v.2.2.1, v.2.2.2.1, v.2.2.2.2.1, v.2.2.2.2.2.1, v.2.2.2.2.2.2.1)).1.2.2.1, (Sp.rFlush  (v.1, v.2.1, v.2.2.1, v.2.2.2.1, v.2.2.2.2.1, v.2.2.2.2.2.1, v.2.2.2.2.2.2.1)).1.2.2.2.1, (Sp.rFlush  (v.1, v.2.1, v.2.2.1, v.2.2.2.1, v.2.2.2.2.1, v.2.2.2.2.2.1, v.2.2.2.2.2.2.1)).1.2.2.2.2.1, (Sp.rFlush  (v.1, v.2.1, v.2.2.1, v.2.2.2.1, v.2.2.2.2.1, v.2.2.2.2.2.1, v.2.2.2.2.2.2.1)).1.2.2.2.2.2.1, (Sp.rFlush  (v.1, v.2.1, v.2.2.1, v.2.2.2.1, v.2.2.2.2.1, v.2.2.2.2.2.1, v.2.2.2.2.2.2.1)).1.2.2.2.2.2.2, ())⟩), ex := 0 }
def an_rectoref27_Disk_Flush : Ann := [(6, { slots := [(0, .ce (.ptr 0 0)), (3, .ce (.v (.int .i64))), (17, .ce (.os 2)), (18, .ce (.v (.int .i64))), (19, .ce (.v (.int .i64)))], ents := [.box 68 [.os 1, .os 2, .v .bool, .v .bool, .v (.int .i64), .v .bool, .v (.sl (.int .i64))], .row 9 .str, .row 103 (.pair (.int .i64) .str)] })]
def cx_rectoref27_Disk_Flush : Cx := mkCx [(55, [c_rectoref27_Disk_goes])]
theorem eq_rectoref27_Disk_Flush (rdown : Bool) (rarmed : Bool) (rafter : Int) (racut : Bool) (rkeep : (List Int)) (rbs : (List Str)) (rws : (List (Int × Str))) (R : ((p : Pat) × p.V) → Prop) : fnVc (cx_rectoref27_Disk_Flush) an_rectoref27_Disk_Flush 1 Try.f70 I_rectoref27_Disk_Flush [O_rectoref27_Disk_Flush] (rdown, rarmed, rafter, racut, rkeep, rbs, rws, ()) R = rectoref27_Disk_Flush.vc (fun y0 y1 y2 y3 y4 y5 y6 y7 => R ⟨O_rectoref27_Disk_Flush, (y0, y1, y2, y3, y4, y5, y6, y7, ())⟩) rdown rarmed rafter racut rkeep rbs rws := by kernel_rfl
theorem fs_rectoref27_Disk_Flush : CtrsOk Try.prog [(55, [c_rectoref27_Disk_goes])] := ⟨ctr1 (ctr_rectoref27_Disk_goes), trivial⟩
theorem vc_rectoref27_Disk_Flush (H : Nat → Entry) (v : c_rectoref27_Disk_Flush.inp.V) (r : (p : Pat) × p.V) (h : (c_rectoref27_Disk_Flush.body v).Sel H r) : fnVc (cx_rectoref27_Disk_Flush) an_rectoref27_Disk_Flush 1 Try.f70 c_rectoref27_Disk_Flush.inp [O_rectoref27_Disk_Flush] v (fun r' => r' = r) := by
  obtain ⟨rdown, rarmed, rafter, racut, rkeep, rbs, rws, ⟨⟩⟩ := v
  obtain ⟨h, rfl⟩ := h
  exact Eq.mpr (eq_rectoref27_Disk_Flush rdown rarmed rafter racut rkeep rbs rws _) (rectoref27_Disk_Flush.ok _ rdown rarmed rafter racut rkeep rbs rws h rfl)
theorem ctr_rectoref27_Disk_Flush : CtrOk Try.prog 70 c_rectoref27_Disk_Flush := ⟨⟨_, Try.func70, by kernel_rfl, by kernel_rfl⟩, fun H v r h => mk_ok _ (fs_rectoref27_Disk_Flush) (an := an_rectoref27_Disk_Flush) (outs := [O_rectoref27_Disk_Flush]) Try.func70 (by decide) (vc_rectoref27_Disk_Flush H v r h)⟩
abbrev I_rectoref27_Disk_Set : Pat := { slots := [(0, .ce (.ptr 0 0)), (1, .ag (.pair (.int .i64) (.pair .bool (.sl (.int .i64)))))], ents := [.box 68 [.os 1, .os 2, .v .bool, .v .bool, .v (.int .i64), .v .bool, .v (.sl (.int .i64))], .row 9 .str, .row 103 (.pair (.int .i64) .str)] }
abbrev O_rectoref27_Disk_Set : Pat := { slots := [(0, .ce (.v (.int .i64)))], ents := [.box 68 [.os 1, .os 2, .v .bool, .v .bool, .v (.int .i64), .v .bool, .v (.sl (.int .i64))], .row 9 .str, .row 103 (.pair (.int .i64) .str)] }
def c_rectoref27_Disk_Set : Ctr := { k0 := 1, inp := I_rectoref27_Disk_Set, body := fun v => .need (Sp.rSet.pre v.1 (v.2.1, v.2.2.1, v.2.2.2.1, v.2.2.2.2.1, v.2.2.2.2.2.1, v.2.2.2.2.2.2.1, v.2.2.2.2.2.2.2.1)) (.ret ⟨O_rectoref27_Disk_Set, ((Sp.rSet v.1 (v.2.1, v.2.2.1, v.2.2.2.1, v.2.2.2.2.1, v.2.2.2.2.2.1, v.2.2.2.2.2.2.1, v.2.2.2.2.2.2.2.1)).2, (Sp.rSet v.1 (v.2.1, v.2.2.1, v.2.2.2.1, v.2.2.2.2.1, v.2.2.2.2.2.1, v.2.2.2.2.2.2.1, v.2.2.2.2.2.2.2.1)).1.1, (Sp.rSet v.1 (v.2.1, v.2.2.1, v.2.2.2.1, v.2.2.2.2.1, v.2.2.2.2.2.1, v.2.2.2.2.2.2.1, v.2.2.2.2.2.2.2.1)).1.2.1, (Sp.rSet v.1 (v.2.1, v.2.2.1, v.2.2.2.1, v.2.2.2.2.1, v.2.2.2.2.2.1, v.2.2.2.2.2.2.1, v.2.2.2.2.2.2.2.1)).1.2.2.1, (Sp.rSet v.1 (v.2.1, v.2.2.1, v.2.2.2.1, v.2.2.2.2.1, v.2.2.2.2.2.1, v.2.2.2.2.2.2.1, v.2.2.2.2.2.2.2.1)).1.2.2.2.1, (Sp.rSet v.1 (v.2.1, v.2.2.1, v.2.2.2.1, v.2.2.2.2.1, v.2.2.2.2.2.1, v.2.2.2.2.2.2.1, v.2.2.2.2.2.2.2.1)).1.2.2.2.2.1, (Sp.rSet v.1 (v.2.1, v.2.2.1, v.2.2.2.1, v.2.2.2.2.1, v.2.2.2.2.2.1, v.2.2.2.2.2.2.1, v.2.2.2.2.2.2.2.1)).1.2.2.2.2.2.1, (Sp.rSet v.1 (v.2.1, v.2.2.1, v.2.2.2.1, v.2.2.2.2.1, v.2.2.2.2.2.1, v.2.2.2.2.2.2.1, v.2.2.2.2.2.2.2.1)).1.2.2.2.2.2.2, ())⟩), ex := 0 }
def an_rectoref27_Disk_Set : Ann := []
def cx_rectoref27_Disk_Set : Cx := mkCx []
theorem eq_rectoref27_Disk_Set (a : (Int × (Bool × (List Int)))) (rdown : Bool) (rarmed : Bool) (rafter : Int) (racut : Bool) (rkeep : (List Int)) (rbs : (List Str)) (rws : (List (Int × Str))) (R : ((p : Pat) × p.V) → Prop) : fnVc (cx_rectoref27_Disk_Set) an_rectoref27_Disk_Set 1 Try.f74 I_rectoref27_Disk_Set [O_rectoref27_Disk_Set] (a, rdown, rarmed, rafter, racut, rkeep, rbs, rws, ()) R = rectoref27_Disk_Set.vc (fun y0 y1 y2 y3 y4 y5 y6 y7 => R ⟨O_rectoref27_Disk_Set, (y0, y1, y2, y3, y4, y5, y6, y7, ())⟩) a rdown rarmed rafter racut rkeep rbs rws := by kernel_rfl
theorem fs_rectoref27_Disk_Set : CtrsOk Try.prog [] := trivial
theorem vc_rectoref27_Disk_Set (H : Nat → Entry) (v : c_rectoref27_Disk_Set.inp.V) (r : (p : Pat) × p.V) (h : (c_rectoref27_Disk_Set.body v).Sel H r) : fnVc (cx_rectoref27_Disk_Set) an_rectoref27_Disk_Set 1 Try.f74 c_rectoref27_Disk_Set.inp [O_rectoref27_Disk_Set] v (fun r' => r' = r) := by
  obtain ⟨a, rdown, rarmed, rafter, racut, rkeep, rbs, rws, ⟨⟩⟩ := v
  obtain ⟨h, rfl⟩ := h
  exact Eq.mpr (eq_rectoref27_Disk_Set a rdown rarmed rafter racut rkeep rbs rws _) (rectoref27_Disk_Set.ok _ a rdown rarmed rafter racut rkeep rbs rws h rfl)
theorem ctr_rectoref27_Disk_Set : CtrOk Try.prog 74 c_rectoref27_Disk_Set := ⟨⟨_, Try.func74, by kernel_rfl, by kernel_rfl⟩, fun H v r h => mk_ok _ (fs_rectoref27_Disk_Set) (an := an_rectoref27_Disk_Set) (outs := [O_rectoref27_Disk_Set]) Try.func74 (by decide) (vc_rectoref27_Disk_Set H v r h)⟩
abbrev I_rectoref27_Disk_Crash : Pat := { slots := [(0, .ce (.ptr 0 0)), (1, .ce (.v (.sl (.int .i64))))], ents := [.box 68 [.os 1, .os 2, .v .bool, .v .bool, .v (.int .i64), .v .bool, .v (.sl (.int .i64))], .row 9 .str, .row 103 (.pair (.int .i64) .str)] }
abbrev O_rectoref27_Disk_Crash : Pat := { slots := [(0, .ce (.v (.int .i64)))], ents := [.box 68 [.os 1, .os 2, .v .bool, .v .bool, .v (.int .i64), .v .bool, .v (.sl (.int .i64))], .row 9 .str, .row 103 (.pair (.int .i64) .str)] }
def c_rectoref27_Disk_Crash : Ctr := { k0 := 1, inp := I_rectoref27_Disk_Crash, body := fun v => .need (Sp.rFall.pre v.1 (v.2.1, v.2.2.1, v.2.2.2.1, v.2.2.2.2.1, v.2.2.2.2.2.1, v.2.2.2.2.2.2.1, v.2.2.2.2.2.2.2.1)) (.ret ⟨O_rectoref27_Disk_Crash, ((Sp.rCrash v.1 (v.2.1, v.2.2.1, v.2.2.2.1, v.2.2.2.2.1, v.2.2.2.2.2.1, v.2.2.2.2.2.2.1, v.2.2.2.2.2.2.2.1)).2, (Sp.rCrash v.1 (v.2.1, v.2.2.1, v.2.2.2.1, v.2.2.2.2.1, v.2.2.2.2.2.1, v.2.2.2.2.2.2.1, v.2.2.2.2.2.2.2.1)).1.1, (Sp.rCrash v.1 (v.2.1, v.2.2.1, v.2.2.2.1, v.2.2.2.2.1, v.2.2.2.2.2.1, v.2.2.2.2.2.2.1, v.2.2.2.2.2.2.2.1)).1.2.1, (Sp.rCrash v.1 (v.2.1, v.2.2.1, v.2.2.2.1, v.2.2.2.2.1, v.2.2.2.2.2.1, v.2.2.2.2.2.2.1, v.2.2.2.2.2.2.2.1)).1.2.2.1, (Sp.rCrash v.1 (v.2.1, v.2.2.1, v.2.2.2.1, v.2.2.2.2.1, v.2.2.2.2.2.1, v.2.2.2.2.2.2.1, v.2.2.2.2.2.2.2.1)).1.2.2.2.1, (Sp.rCrash v.1 (v.2.1, v.2.2.1, v.2.2.2.1, v.2.2.2.2.1, v.2.2.2.2.2.1, v.2.2.2.2.2.2.1, v.2.2.2.2.2.2.2.1)).1.2.2.2.2.1, (Sp.rCrash v.1 (v.2.1, v.2.2.1, v.2.2.2.1, v.2.2.2.2.1, v.2.2.2.2.2.1, v.2.2.2.2.2.2.1, v.2.2.2.2.2.2.2.1)).1.2.2.2.2.2.1, (Sp.rCrash v.1 (v.2.1, v.2.2.1, v.2.2.2.1, v.2.2.2.2.1, v.2.2.2.2.2.1, v.2.2.2.2.2.2.1, v.2.2.2.2.2.2.2.1)).1.2.2.2.2.2.2, ())⟩), ex := 0 }
def an_rectoref27_Disk_Crash : Ann := []
def cx_rectoref27_Disk_Crash : Cx := mkCx [(88, [c_rectoref27_Disk_Fall])]
theorem eq_rectoref27_Disk_Crash (keep_ : (List Int)) (rdown : Bool) (rarmed : Bool) (rafter : Int) (racut : Bool) (rkeep : (List Int)) (rbs : (List Str)) (rws : (List (Int × Str))) (R : ((p : Pat) × p.V) → Prop) : fnVc (cx_rectoref27_Disk_Crash) an_rectoref27_Disk_Crash 1 Try.f72 I_rectoref27_Disk_Crash [O_rectoref27_Disk_Crash] (keep_, rdown, rarmed, rafter, racut, rkeep, rbs, rws, ()) R = rectoref27_Disk_Crash.vc (fun y0 y1 y2 y3 y4 y5 y6 y7 => R ⟨O_rectoref27_Disk_Crash, (y0, y1, y2, y3, y4, y5, y6, y7, ())⟩) keep_ rdown rarmed rafter racut rkeep rbs rws := by kernel_rfl
theorem fs_rectoref27_Disk_Crash : CtrsOk Try.prog [(88, [c_rectoref27_Disk_Fall])] := ⟨ctr1 (ctr_rectoref27_Disk_Fall), trivial⟩
theorem vc_rectoref27_Disk_Crash (H : Nat → Entry) (v : c_rectoref27_Disk_Crash.inp.V) (r : (p : Pat) × p.V) (h : (c_rectoref27_Disk_Crash.body v).Sel H r) : fnVc (cx_rectoref27_Disk_Crash) an_rectoref27_Disk_Crash 1 Try.f72 c_rectoref27_Disk_Crash.inp [O_rectoref27_Disk_Crash] v (fun r' => r' = r) := by
  obtain ⟨keep_, rdown, rarmed, rafter, racut, rkeep, rbs, rws, ⟨⟩⟩ := v
  obtain ⟨h, rfl⟩ := h
  exact Eq.mpr (eq_rectoref27_Disk_Crash keep_ rdown rarmed rafter racut rkeep rbs rws _) (rectoref27_Disk_Crash.ok _ keep_ rdown rarmed rafter racut rkeep rbs rws h rfl)
theorem ctr_rectoref27_Disk_Crash : CtrOk Try.prog 72 c_rectoref27_Disk_Crash := ⟨⟨_, Try.func72, by kernel_rfl, by kernel_rfl⟩, fun H v r h => mk_ok _ (fs_rectoref27_Disk_Crash) (an := an_rectoref27_Disk_Crash) (outs := [O_rectoref27_Disk_Crash]) Try.func72 (by decide) (vc_rectoref27_Disk_Crash H v r h)⟩
abbrev I_rectoref27_Disk_Start : Pat := { slots := [(0, .ce (.ptr 0 0))], ents := [.box 68 [.os 1, .os 2, .v .bool, .v .bool, .v (.int .i64), .v .bool, .v (.sl (.int .i64))], .row 9 .str, .row 103 (.pair (.int .i64) .str)] }
abbrev O_rectoref27_Disk_Start : Pat := { slots := [(0, .ce (.v (.int .i64)))], ents := [.box 68 [.os 1, .os 2, .v .bool, .v .bool, .v (.int .i64), .v .bool, .v (.sl (.int .i64))], .row 9 .str, .row 103 (.pair (.int .i64) .str)] }
def c_rectoref27_Disk_Start : Ctr := { k0 := 1, inp := I_rectoref27_Disk_Start, body := fun v => .need (Sp.rPre (v.1, v.2.1, v.2.2.1, v.2.2.2.1, v.2.2.2.2.1, v.2.2.2.2.2.1, v.2.2.2.2.2.2.1)) (.ret ⟨O_rectoref27_Disk_Start, ((Sp.rStart  (v.1, v.2.1, v.2.2.1, v.2.2.2.1, v.2.2.2.2.1, v.2.2.2.2.2.1, v.2.2.2.2.2.2.1)).2, (Sp.rStart  (v.1, v.2.1, v.2.2.1, v.2.2.2.1, v.2.2.2.2.1, v.2.2.2.2.2.1, v.2.2.2.2.2.2.1)).1.1, (Sp.rStart  (v.1, v.2.1, v.2.2.1, v.2.2.2.1, v.2.2.2.2.1, v.2.2.2.2.2.1, v.2.2.2.2.2.2.1)).1.2.1, (Sp.rStart  (v.1, v.2.1, v.2.2.1, v.2.2.2.1, v.2.2.2.2.1, v.2.2.2.2.2.1, v.2.2.2.2.2.2.1)).1.2.2.1, (Sp.rStart  (v.1, v.2.1, v.2.2.1, v.2.2.2.1, v.2.2.2.2.1, v.2.2.2.2.2.1, v.2.2.2.2.2.2.1)).1.2.2.2.1, (Sp.rStart  (v.1, v.2.1, v.2.2.1, v.2.2.2.1, v.2.2.2.2.1, v.2.2.2.2.2.1, v.2.2.2.2.2.2.1)).1.2.2.2.2.1, (Sp.rStart  (v.1, v.2.1, v.2.2.1, v.2.2.2.1, v.2.2.2.2.1, v.2.2.2.2.2.1, v.2.2.2.2.2.2.1)).1.2.2.2.2.2.1, (Sp.rStart  (v.1, v.2.1, v.2.2.1, v.2.2.2.1, v.2.2.2.2.1, v.2.2.2.2.2.1, v.2.2.2.2.2.2.1)).1.2.2.2.2.2.2, ())⟩), ex := 0 }
def an_rectoref27_Disk_Start : Ann := []
def cx_rectoref27_Disk_Start : Cx := mkCx []
theorem eq_rectoref27_Disk_Start (rdown : Bool) (rarmed : Bool) (rafter : Int) (racut : Bool) (rkeep : (List Int)) (rbs : (List Str)) (rws : (List (Int × Str))) (R : ((p : Pat) × p.V) → Prop) : fnVc (cx_rectoref27_Disk_Start) an_rectoref27_Disk_Start 1 Try.f73 I_rectoref27_Disk_Start [O_rectoref27_Disk_Start] (rdown, rarmed, rafter, racut, rkeep, rbs, rws, ()) R = rectoref27_Disk_Start.vc (fun y0 y1 y2 y3 y4 y5 y6 y7 => R ⟨O_rectoref27_Disk_Start, (y0, y1, y2, y3, y4, y5, y6, y7, ())⟩) rdown rarmed rafter racut rkeep rbs rws := by kernel_rfl
theorem fs_rectoref27_Disk_Start : CtrsOk Try.prog [] := trivial
theorem vc_rectoref27_Disk_Start (H : Nat → Entry) (v : c_rectoref27_Disk_Start.inp.V) (r : (p : Pat) × p.V) (h : (c_rectoref27_Disk_Start.body v).Sel H r) : fnVc (cx_rectoref27_Disk_Start) an_rectoref27_Disk_Start 1 Try.f73 c_rectoref27_Disk_Start.inp [O_rectoref27_Disk_Start] v (fun r' => r' = r) := by
  obtain ⟨rdown, rarmed, rafter, racut, rkeep, rbs, rws, ⟨⟩⟩ := v
  obtain ⟨h, rfl⟩ := h
  exact Eq.mpr (eq_rectoref27_Disk_Start rdown rarmed rafter racut rkeep rbs rws _) (rectoref27_Disk_Start.ok _ rdown rarmed rafter racut rkeep rbs rws h rfl)
theorem ctr_rectoref27_Disk_Start : CtrOk Try.prog 73 c_rectoref27_Disk_Start := ⟨⟨_, Try.func73, by kernel_rfl, by kernel_rfl⟩, fun H v r h => mk_ok _ (fs_rectoref27_Disk_Start) (an := an_rectoref27_Disk_Start) (outs := [O_rectoref27_Disk_Start]) Try.func73 (by decide) (vc_rectoref27_Disk_Start H v r h)⟩
end Vs
