/- Functions held against what they tell. Written by a program of this session. -/
import Derived.Test.YtmciagbogdlcoaaGreatDoorPlH
import Derived.Test.YtmciagbogdlcoaaGreatDoorViThree
import Derived.Test.YtmciagbogdlcoaaGreatDoorFnzP
import Derived.Test.YtmciagbogdlcoaaGreatDoorShz
set_option linter.unnecessarySimpa false
set_option linter.unusedVariables false
set_option linter.unusedSectionVars false
set_option linter.unusedSimpArgs false
set_option autoImplicit false
set_option linter.unusedVariables false
set_option maxRecDepth 100000
attribute [local irreducible] Vi.fnVc
namespace Vs
open Go Vi Go.Proofs
abbrev I_strings_ReplaceAll : Pat := { slots := [(0, .ce (.v .str)), (1, .ce (.v .str)), (2, .ce (.v .str))], ents := [] }
abbrev O_strings_ReplaceAll : Pat := { slots := [(0, .ce (.v .str))], ents := [] }
def c_strings_ReplaceAll : Ctr := { k0 := 0, inp := I_strings_ReplaceAll, body := fun v => .need (Sp.repA.pre v.1 v.2.1 v.2.2.1) (.ret ⟨O_strings_ReplaceAll, ((Sp.repA v.1 v.2.1 v.2.2.1), ())⟩), ex := 3 }

theorem repA_core (s old new : Str) (h : Sp.repA.pre s old new) (w : World) (m : Int) (hm : w.cell? ⟨1, 0, none⟩ = some (.int .i64 m)) :
    Calls Tryz.prog 89 #[.string ⟨s.toArray⟩, .string ⟨old.toArray⟩, .string ⟨new.toArray⟩] w fun e w' => e = .returned (.string ⟨(Sp.repA s old new).toArray⟩) ∧ Go.RowKit.Below w.heap.size w w' := by
  obtain ⟨h1, h2, h3⟩ := h
  have hs : (⟨s.toArray⟩ : ByteArray).size = s.length := rfl
  have ho : (⟨old.toArray⟩ : ByteArray).size = old.length := rfl
  have hn : (⟨new.toArray⟩ : ByteArray).size = new.length := rfl
  have hmul := Lib.countB_mul_le (⟨old.toArray⟩ : ByteArray) (by rw [ho]; exact h2) s.length ⟨s.toArray⟩ (by rw [hs]; exact Nat.le_refl _)
  rw [ho, hs] at hmul
  have hc : Lib.countB ⟨s.toArray⟩ ⟨old.toArray⟩ ≤ 1000000000 := Nat.le_trans (Nat.le_mul_of_pos_right _ h2) (Nat.le_trans hmul h1)
  have hk := Nat.mul_le_mul hc h3
  refine Calls.mono (Tryz.strings_ReplaceAll ⟨s.toArray⟩ ⟨old.toArray⟩ ⟨new.toArray⟩ m w (by rw [hs]; omega) hm (by rw [ho]; exact h2) (by rw [hs, hn]; omega)) fun e w' he => ?_
  obtain ⟨rfl, hb⟩ := he
  exact ⟨rfl, hb⟩
theorem ctr_strings_ReplaceAll : CtrOk Tryz.prog 89 c_strings_ReplaceAll gl := ⟨⟨_, Tryz.func89, by kernel_rfl, by kernel_rfl⟩, fun H v r h => by
  obtain ⟨s, old, new, ⟨⟩⟩ := v
  obtain ⟨hp, h⟩ := h
  have hp : Sp.repA.pre s old new := hp
  subst h
  refine pure_okG fun F S μ w us hG hF hex hs => ?_
  have hex : us.length = 3 := hex.resolve_left (by decide)
  obtain ⟨m, hm⟩ := hG 1 (.head _)
  match us, hex with
  | [u0, u1, u2], _ =>
  obtain ⟨rfl, hsl⟩ := str_of (x := s) (hs (0, _) (.head _))
  obtain ⟨rfl, _⟩ := str_of (x := old) (hs (1, _) (.tail _ (.head _)))
  obtain ⟨rfl, _⟩ := str_of (x := new) (hs (2, _) (.tail _ (.tail _ (.head _))))
  refine Calls.mono (repA_core s old new hp w m hm) fun e w' he => ?_
  obtain ⟨rfl, hbel⟩ := he
  exact ⟨hbel, fun F' S' μ' _ _ => pr_str (s := Sp.repA s old new) (Sp.repA_len hp)⟩⟩

abbrev I_utf_is : Pat := { slots := [(0, .ce (.v (.int .i64)))], ents := [] }
abbrev O_utf_is : Pat := { slots := [(0, .ce (.v .bool))], ents := [] }
def c_utf_is : Ctr := { k0 := 0, inp := I_utf_is, body := fun v => .ret ⟨O_utf_is, ((Sp.isC v.1), ())⟩, ex := 0 }
def an_utf_is : Ann := []
def cx_utf_is : Cx := mkCx []
theorem eq_utf_is (c : Int) (R : ((p : Pat) × p.V) → Prop) : fnVc (cx_utf_is) an_utf_is 0 Tryz.f94 I_utf_is [O_utf_is] (c, ()) R = utf_is.vc (fun y0 => R ⟨O_utf_is, (y0, ())⟩) c := by kernel_rfl
theorem fs_utf_is : CtrsOk Tryz.prog [] gl := trivial
theorem vc_utf_is (H : Nat → Entry) (v : c_utf_is.inp.V) (r : (p : Pat) × p.V) (h : (c_utf_is.body v).Sel H r) : fnVc (cx_utf_is) an_utf_is 0 Tryz.f94 c_utf_is.inp [O_utf_is] v (fun r' => r' = r) := by
  obtain ⟨c, ⟨⟩⟩ := v
  obtain rfl := h
  exact Eq.mpr (eq_utf_is c _) (utf_is.ok _ c  rfl)
theorem ctr_utf_is : CtrOk Tryz.prog 94 c_utf_is gl := ⟨⟨_, Tryz.func94, by kernel_rfl, by kernel_rfl⟩, fun H v r h => mk_ok _ (fs_utf_is) (an := an_utf_is) (outs := [O_utf_is]) Tryz.func94 (by decide) (vc_utf_is H v r h)⟩
abbrev I_utf_size : Pat := { slots := [(0, .ce (.v (.int .i64)))], ents := [] }
abbrev O_utf_size : Pat := { slots := [(0, .ce (.v (.int .i64)))], ents := [] }
def c_utf_size : Ctr := { k0 := 0, inp := I_utf_size, body := fun v => .need (Sp.sizeC.pre v.1) (.ret ⟨O_utf_size, ((Sp.sizeC v.1), ())⟩), ex := 0 }
def an_utf_size : Ann := [(2, { slots := [(0, .ce (.v (.int .i64))), (3, .ce (.v (.int .i64)))], ents := [] })]
def cx_utf_size : Cx := mkCx []
theorem eq_utf_size (c : Int) (R : ((p : Pat) × p.V) → Prop) : fnVc (cx_utf_size) an_utf_size 0 Tryz.f95 I_utf_size [O_utf_size] (c, ()) R = utf_size.vc (fun y0 => R ⟨O_utf_size, (y0, ())⟩) c := by kernel_rfl
theorem fs_utf_size : CtrsOk Tryz.prog [] gl := trivial
theorem vc_utf_size (H : Nat → Entry) (v : c_utf_size.inp.V) (r : (p : Pat) × p.V) (h : (c_utf_size.body v).Sel H r) : fnVc (cx_utf_size) an_utf_size 0 Tryz.f95 c_utf_size.inp [O_utf_size] v (fun r' => r' = r) := by
  obtain ⟨c, ⟨⟩⟩ := v
  obtain ⟨h, rfl⟩ := h
  exact Eq.mpr (eq_utf_size c _) (utf_size.ok _ c h rfl)
theorem ctr_utf_size : CtrOk Tryz.prog 95 c_utf_size gl := ⟨⟨_, Tryz.func95, by kernel_rfl, by kernel_rfl⟩, fun H v r h => mk_ok _ (fs_utf_size) (an := an_utf_size) (outs := [O_utf_size]) Tryz.func95 (by decide) (vc_utf_size H v r h)⟩
abbrev I_utf_Bytes : Pat := { slots := [(0, .ce (.v (.int .i64)))], ents := [] }
abbrev O_utf_Bytes : Pat := { slots := [(0, .ce (.v .str))], ents := [] }
def c_utf_Bytes : Ctr := { k0 := 0, inp := I_utf_Bytes, body := fun v => .ret ⟨O_utf_Bytes, ((Sp.bytesC v.1), ())⟩, ex := 0 }
def an_utf_Bytes : Ann := [(6, { slots := [(0, .ce (.v (.int .i64))), (3, .ce (.v (.int .i64))), (4, .ce (.os 0)), (5, .ce (.v (.int .i64)))], ents := [.row 5 (.int .u8)] })]
def cx_utf_Bytes : Cx := mkCx [(94, [c_utf_is]), (95, [c_utf_size])]
theorem eq_utf_Bytes (c : Int) (R : ((p : Pat) × p.V) → Prop) : fnVc (cx_utf_Bytes) an_utf_Bytes 0 Tryz.f90 I_utf_Bytes [O_utf_Bytes] (c, ()) R = utf_Bytes.vc (fun y0 => R ⟨O_utf_Bytes, (y0, ())⟩) c := by kernel_rfl
theorem fs_utf_Bytes : CtrsOk Tryz.prog [(94, [c_utf_is]), (95, [c_utf_size])] gl := ⟨ctr1 (ctr_utf_is), ctr1 (ctr_utf_size), trivial⟩
theorem vc_utf_Bytes (H : Nat → Entry) (v : c_utf_Bytes.inp.V) (r : (p : Pat) × p.V) (h : (c_utf_Bytes.body v).Sel H r) : fnVc (cx_utf_Bytes) an_utf_Bytes 0 Tryz.f90 c_utf_Bytes.inp [O_utf_Bytes] v (fun r' => r' = r) := by
  obtain ⟨c, ⟨⟩⟩ := v
  obtain rfl := h
  exact Eq.mpr (eq_utf_Bytes c _) (utf_Bytes.ok _ c  rfl)
theorem ctr_utf_Bytes : CtrOk Tryz.prog 90 c_utf_Bytes gl := ⟨⟨_, Tryz.func90, by kernel_rfl, by kernel_rfl⟩, fun H v r h => mk_ok _ (fs_utf_Bytes) (an := an_utf_Bytes) (outs := [O_utf_Bytes]) Tryz.func90 (by decide) (vc_utf_Bytes H v r h)⟩
abbrev I_strings_Builder_WriteString : Pat := { slots := [(0, .ce (.ptr 0 0)), (1, .ce (.v .str))], ents := [.box 84 [.pn 0, .os 1], .row 5 (.int .u8)] }
abbrev O_strings_Builder_WriteString : Pat := { slots := [(0, .ce (.v (.int .i64))), (1, .ce .z)], ents := [.box 84 [.pn 0, .os 1], .row 5 (.int .u8)] }
def c_strings_Builder_WriteString : Ctr := { k0 := 1, inp := I_strings_Builder_WriteString, body := fun v => .need (Sp.wr.pre v.2.1 v.1) (.ret ⟨O_strings_Builder_WriteString, ((v.1.length : Int), Sp.wr v.2.1 v.1, ())⟩), ex := 0 }
def an_strings_Builder_WriteString : Ann := []
def cx_strings_Builder_WriteString : Cx := mkCx []
theorem eq_strings_Builder_WriteString (s : Str) (x : (List Int)) (R : ((p : Pat) × p.V) → Prop) : fnVc (cx_strings_Builder_WriteString) an_strings_Builder_WriteString 1 Tryz.f48 I_strings_Builder_WriteString [O_strings_Builder_WriteString] (s, x, ()) R = strings_Builder_WriteString.vc (fun y0 y1 => R ⟨O_strings_Builder_WriteString, (y0, y1, ())⟩) s x := by kernel_rfl
theorem fs_strings_Builder_WriteString : CtrsOk Tryz.prog [] gl := trivial
theorem vc_strings_Builder_WriteString (H : Nat → Entry) (v : c_strings_Builder_WriteString.inp.V) (r : (p : Pat) × p.V) (h : (c_strings_Builder_WriteString.body v).Sel H r) : fnVc (cx_strings_Builder_WriteString) an_strings_Builder_WriteString 1 Tryz.f48 c_strings_Builder_WriteString.inp [O_strings_Builder_WriteString] v (fun r' => r' = r) := by
  obtain ⟨s, x, ⟨⟩⟩ := v
  obtain ⟨h, rfl⟩ := h
  exact Eq.mpr (eq_strings_Builder_WriteString s x _) (strings_Builder_WriteString.ok _ s x h rfl)
theorem ctr_strings_Builder_WriteString : CtrOk Tryz.prog 48 c_strings_Builder_WriteString gl := ⟨⟨_, Tryz.func48, by kernel_rfl, by kernel_rfl⟩, fun H v r h => mk_ok _ (fs_strings_Builder_WriteString) (an := an_strings_Builder_WriteString) (outs := [O_strings_Builder_WriteString]) Tryz.func48 (by decide) (vc_strings_Builder_WriteString H v r h)⟩
abbrev I_tags_Void : Pat := { slots := [(0, .ce (.v .str))], ents := [] }
abbrev O_tags_Void : Pat := { slots := [(0, .ce (.v .bool))], ents := [] }
def c_tags_Void : Ctr := { k0 := 0, inp := I_tags_Void, body := fun v => .ret ⟨O_tags_Void, ((Sp.voidN v.1), ())⟩, ex := 0 }
def an_tags_Void : Ann := []
def cx_tags_Void : Cx := mkCx [(45, [c_tags_Group])]
theorem eq_tags_Void (name : Str) (R : ((p : Pat) × p.V) → Prop) : fnVc (cx_tags_Void) an_tags_Void 0 Tryz.f27 I_tags_Void [O_tags_Void] (name, ()) R = tags_Void.vc (fun y0 => R ⟨O_tags_Void, (y0, ())⟩) name := by kernel_rfl
theorem fs_tags_Void : CtrsOk Tryz.prog [(45, [c_tags_Group])] gl := ⟨ctr1 (ctr_tags_Group), trivial⟩
theorem vc_tags_Void (H : Nat → Entry) (v : c_tags_Void.inp.V) (r : (p : Pat) × p.V) (h : (c_tags_Void.body v).Sel H r) : fnVc (cx_tags_Void) an_tags_Void 0 Tryz.f27 c_tags_Void.inp [O_tags_Void] v (fun r' => r' = r) := by
  obtain ⟨name, ⟨⟩⟩ := v
  obtain rfl := h
  exact Eq.mpr (eq_tags_Void name _) (tags_Void.ok _ name  rfl)
theorem ctr_tags_Void : CtrOk Tryz.prog 27 c_tags_Void gl := ⟨⟨_, Tryz.func27, by kernel_rfl, by kernel_rfl⟩, fun H v r h => mk_ok _ (fs_tags_Void) (an := an_tags_Void) (outs := [O_tags_Void]) Tryz.func27 (by decide) (vc_tags_Void H v r h)⟩
abbrev I_rectoref08_Count : Pat := { slots := [(0, .ce (.v (.sl .node)))], ents := [] }
abbrev O_rectoref08_Count : Pat := { slots := [(0, .ce (.v (.int .i64)))], ents := [] }
def r_rectoref08_Count (nn : Nat) : Ctr := { k0 := 0, inp := I_rectoref08_Count, body := fun v => .need (Sp.prOk v.1 ∧ Sp.mCt v.1 < nn) (.ret ⟨O_rectoref08_Count, ((Sp.countP v.1), ())⟩), ex := 0 }
def c_rectoref08_Count : Ctr := { k0 := 0, inp := I_rectoref08_Count, body := fun v => .need (Sp.prOk v.1) (.ret ⟨O_rectoref08_Count, ((Sp.countP v.1), ())⟩), ex := 0 }
def an_rectoref08_Count : Ann := [(3, { slots := [(3, .ce (.v (.int .i64))), (6, .ce (.v (.sl .node))), (7, .ce (.v (.int .i64))), (8, .ce (.v (.int .i64)))], ents := [] })]
def cx_rectoref08_Count (nn : Nat) : Cx := mkCx [(24, [r_rectoref08_Count nn])]
theorem eq_rectoref08_Count (nn : Nat) (l : (List Vi.Node)) (R : ((p : Pat) × p.V) → Prop) : fnVc (cx_rectoref08_Count nn) an_rectoref08_Count 0 Tryz.f24 I_rectoref08_Count [O_rectoref08_Count] (l, ()) R = rectoref08_Count.vc (fun y0 => R ⟨O_rectoref08_Count, (y0, ())⟩) nn l := by kernel_rfl
theorem fs_rectoref08_Count (nn : Nat) (ih_rectoref08_Count : CtrOk Tryz.prog 24 (r_rectoref08_Count nn) gl) : CtrsOk Tryz.prog [(24, [r_rectoref08_Count nn])] gl := ⟨(ctr1 ih_rectoref08_Count), trivial⟩
theorem grp_cnt (nn : Nat) : CtrOk Tryz.prog 24 (r_rectoref08_Count nn) gl := by
  induction nn with
  | zero => exact ⟨⟨_, Tryz.func24, by kernel_rfl, by kernel_rfl⟩, fun H v r h => absurd h.1.2 (Nat.not_lt_zero _)⟩
  | succ nn ih =>
  have ih_rectoref08_Count := ih
  refine ⟨⟨_, Tryz.func24, by kernel_rfl, by kernel_rfl⟩, ?_⟩
  · intro H v r h
    obtain ⟨l, ⟨⟩⟩ := v
    obtain ⟨h, rfl⟩ := h
    exact mk_ok _ (fs_rectoref08_Count nn ih_rectoref08_Count) (an := an_rectoref08_Count) (outs := [O_rectoref08_Count]) Tryz.func24 (Nat.le_of_ble_eq_true rfl) (Eq.mpr (eq_rectoref08_Count nn l _) (rectoref08_Count.ok nn _ l h rfl))

theorem ctr_rectoref08_Count : CtrOk Tryz.prog 24 c_rectoref08_Count gl := ⟨⟨_, Tryz.func24, by kernel_rfl, by kernel_rfl⟩, fun H v r h => ((grp_cnt (Sp.mCt v.1 + 1)).2 H v r ⟨⟨h.1, Nat.lt_succ_self _⟩, h.2⟩).body⟩
end Vs
