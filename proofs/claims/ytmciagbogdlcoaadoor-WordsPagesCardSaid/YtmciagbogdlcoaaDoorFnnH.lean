/- Functions held against what they tell. Written by a program of this session. -/
import Derived.Test.YtmciagbogdlcoaaDoorPlH
import Derived.Test.YtmciagbogdlcoaaDoorViThree
import Derived.Test.YtmciagbogdlcoaaDoorFnnP
import Derived.Test.YtmciagbogdlcoaaDoorShn
set_option linter.unnecessarySimpa false
set_option linter.unusedVariables false
set_option linter.unusedSectionVars false
set_option linter.unusedSimpArgs false
set_option autoImplicit false
set_option linter.unusedVariables false
set_option maxRecDepth 100000
attribute [local irreducible] Vi.fnVc
namespace Vs
open Go Vi Go.Proofs
abbrev I_strings_ReplaceAll : Pat := { slots := [(0, .ce (.v .str)), (1, .ce (.v .str)), (2, .ce (.v .str))], ents := [] }
abbrev O_strings_ReplaceAll : Pat := { slots := [(0, .ce (.v .str))], ents := [] }
def c_strings_ReplaceAll : Ctr := { k0 := 0, inp := I_strings_ReplaceAll, body := fun v => .need (Sp.repA.pre v.1 v.2.1 v.2.2.1) (.ret ⟨O_strings_ReplaceAll, ((Sp.repA v.1 v.2.1 v.2.2.1), ())⟩), ex := 3 }

theorem repA_core (s old new : Str) (h : Sp.repA.pre s old new) (w : World) (m : Int) (hm : w.cell? ⟨1, 0, none⟩ = some (.int .i64 m)) :
    Calls Tryd.prog 53 #[.string ⟨s.toArray⟩, .string ⟨old.toArray⟩, .string ⟨new.toArray⟩] w fun e w' => e = .returned (.string ⟨(Sp.repA s old new).toArray⟩) ∧ Go.RowKit.Below w.heap.size w w' := by
  obtain ⟨h1, h2, h3⟩ := h
  have hs : (⟨s.toArray⟩ : ByteArray).size = s.length := rfl
  have ho : (⟨old.toArray⟩ : ByteArray).size = old.length := rfl
  have hn : (⟨new.toArray⟩ : ByteArray).size = new.length := rfl
  have hmul := Lib.countB_mul_le (⟨old.toArray⟩ : ByteArray) (by rw [ho]; exact h2) s.length ⟨s.toArray⟩ (by rw [hs]; exact Nat.le_refl _)
  rw [ho, hs] at hmul
  have hc : Lib.countB ⟨s.toArray⟩ ⟨old.toArray⟩ ≤ 1000000000 := Nat.le_trans (Nat.le_mul_of_pos_right _ h2) (Nat.le_trans hmul h1)
  have hk := Nat.mul_le_mul hc h3
  refine Calls.mono (Tryd.strings_ReplaceAll ⟨s.toArray⟩ ⟨old.toArray⟩ ⟨new.toArray⟩ m w (by rw [hs]; omega) hm (by rw [ho]; exact h2) (by rw [hs, hn]; omega)) fun e w' he => ?_
  obtain ⟨rfl, hb⟩ := he
  exact ⟨rfl, hb⟩
theorem ctr_strings_ReplaceAll : CtrOk Tryd.prog 53 c_strings_ReplaceAll gl := ⟨⟨_, Tryd.func53, by kernel_rfl, by kernel_rfl⟩, fun H v r h => by
  obtain ⟨s, old, new, ⟨⟩⟩ := v
  obtain ⟨hp, h⟩ := h
  have hp : Sp.repA.pre s old new := hp
  subst h
  refine pure_okG fun F S μ w us hG hF hex hs => ?_
  have hex : us.length = 3 := hex.resolve_left (by decide)
  obtain ⟨m, hm⟩ := hG 1 (.head _)
  match us, hex with
  | [u0, u1, u2], _ =>
  obtain ⟨rfl, hsl⟩ := str_of (x := s) (hs (0, _) (.head _))
  obtain ⟨rfl, _⟩ := str_of (x := old) (hs (1, _) (.tail _ (.head _)))
  obtain ⟨rfl, _⟩ := str_of (x := new) (hs (2, _) (.tail _ (.tail _ (.head _))))
  refine Calls.mono (repA_core s old new hp w m hm) fun e w' he => ?_
  obtain ⟨rfl, hbel⟩ := he
  exact ⟨hbel, fun F' S' μ' _ _ => pr_str (s := Sp.repA s old new) (Sp.repA_len hp)⟩⟩

abbrev I_utf_is : Pat := { slots := [(0, .ce (.v (.int .i64)))], ents := [] }
abbrev O_utf_is : Pat := { slots := [(0, .ce (.v .bool))], ents := [] }
def c_utf_is : Ctr := { k0 := 0, inp := I_utf_is, body := fun v => .ret ⟨O_utf_is, ((Sp.isC v.1), ())⟩, ex := 0 }
def an_utf_is : Ann := []
def cx_utf_is : Cx := mkCx []
theorem eq_utf_is (c : Int) (R : ((p : Pat) × p.V) → Prop) : fnVc (cx_utf_is) an_utf_is 0 Tryd.f77 I_utf_is [O_utf_is] (c, ()) R = utf_is.vc (fun y0 => R ⟨O_utf_is, (y0, ())⟩) c := by kernel_rfl
theorem fs_utf_is : CtrsOk Tryd.prog [] gl := trivial
theorem vc_utf_is (H : Nat → Entry) (v : c_utf_is.inp.V) (r : (p : Pat) × p.V) (h : (c_utf_is.body v).Sel H r) : fnVc (cx_utf_is) an_utf_is 0 Tryd.f77 c_utf_is.inp [O_utf_is] v (fun r' => r' = r) := by
  obtain ⟨c, ⟨⟩⟩ := v
  obtain rfl := h
  exact Eq.mpr (eq_utf_is c _) (utf_is.ok _ c  rfl)
theorem ctr_utf_is : CtrOk Tryd.prog 77 c_utf_is gl := ⟨⟨_, Tryd.func77, by kernel_rfl, by kernel_rfl⟩, fun H v r h => mk_ok _ (fs_utf_is) (an := an_utf_is) (outs := [O_utf_is]) Tryd.func77 (by decide) (vc_utf_is H v r h)⟩
abbrev I_utf_size : Pat := { slots := [(0, .ce (.v (.int .i64)))], ents := [] }
abbrev O_utf_size : Pat := { slots := [(0, .ce (.v (.int .i64)))], ents := [] }
def c_utf_size : Ctr := { k0 := 0, inp := I_utf_size, body := fun v => .need (Sp.sizeC.pre v.1) (.ret ⟨O_utf_size, ((Sp.sizeC v.1), ())⟩), ex := 0 }
def an_utf_size : Ann := [(2, { slots := [(0, .ce (.v (.int .i64))), (3, .ce (.v (.int .i64)))], ents := [] })]
def cx_utf_size : Cx := mkCx []
theorem eq_utf_size (c : Int) (R : ((p : Pat) × p.V) → Prop) : fnVc (cx_utf_size) an_utf_size 0 Tryd.f78 I_utf_size [O_utf_size] (c, ()) R = utf_size.vc (fun y0 => R ⟨O_utf_size, (y0, ())⟩) c := by kernel_rfl
theorem fs_utf_size : CtrsOk Tryd.prog [] gl := trivial
theorem vc_utf_size (H : Nat → Entry) (v : c_utf_size.inp.V) (r : (p : Pat) × p.V) (h : (c_utf_size.body v).Sel H r) : fnVc (cx_utf_size) an_utf_size 0 Tryd.f78 c_utf_size.inp [O_utf_size] v (fun r' => r' = r) := by
  obtain ⟨c, ⟨⟩⟩ := v
  obtain ⟨h, rfl⟩ := h
  exact Eq.mpr (eq_utf_size c _) (utf_size.ok _ c h rfl)
theorem ctr_utf_size : CtrOk Tryd.prog 78 c_utf_size gl := ⟨⟨_, Tryd.func78, by kernel_rfl, by kernel_rfl⟩, fun H v r h => mk_ok _ (fs_utf_size) (an := an_utf_size) (outs := [O_utf_size]) Tryd.func78 (by decide) (vc_utf_size H v r h)⟩
abbrev I_utf_Bytes : Pat := { slots := [(0, .ce (.v (.int .i64)))], ents := [] }
abbrev O_utf_Bytes : Pat := { slots := [(0, .ce (.v .str))], ents := [] }
def c_utf_Bytes : Ctr := { k0 := 0, inp := I_utf_Bytes, body := fun v => .ret ⟨O_utf_Bytes, ((Sp.bytesC v.1), ())⟩, ex := 0 }
def an_utf_Bytes : Ann := [(6, { slots := [(0, .ce (.v (.int .i64))), (3, .ce (.v (.int .i64))), (4, .ce (.os 0)), (5, .ce (.v (.int .i64)))], ents := [.row 5 (.int .u8)] })]
def cx_utf_Bytes : Cx := mkCx [(77, [c_utf_is]), (78, [c_utf_size])]
theorem eq_utf_Bytes (c : Int) (R : ((p : Pat) × p.V) → Prop) : fnVc (cx_utf_Bytes) an_utf_Bytes 0 Tryd.f54 I_utf_Bytes [O_utf_Bytes] (c, ()) R = utf_Bytes.vc (fun y0 => R ⟨O_utf_Bytes, (y0, ())⟩) c := by kernel_rfl
theorem fs_utf_Bytes : CtrsOk Tryd.prog [(77, [c_utf_is]), (78, [c_utf_size])] gl := ⟨ctr1 (ctr_utf_is), ctr1 (ctr_utf_size), trivial⟩
theorem vc_utf_Bytes (H : Nat → Entry) (v : c_utf_Bytes.inp.V) (r : (p : Pat) × p.V) (h : (c_utf_Bytes.body v).Sel H r) : fnVc (cx_utf_Bytes) an_utf_Bytes 0 Tryd.f54 c_utf_Bytes.inp [O_utf_Bytes] v (fun r' => r' = r) := by
  obtain ⟨c, ⟨⟩⟩ := v
  obtain rfl := h
  exact Eq.mpr (eq_utf_Bytes c _) (utf_Bytes.ok _ c  rfl)
theorem ctr_utf_Bytes : CtrOk Tryd.prog 54 c_utf_Bytes gl := ⟨⟨_, Tryd.func54, by kernel_rfl, by kernel_rfl⟩, fun H v r h => mk_ok _ (fs_utf_Bytes) (an := an_utf_Bytes) (outs := [O_utf_Bytes]) Tryd.func54 (by decide) (vc_utf_Bytes H v r h)⟩
abbrev I_strings_Builder_WriteString : Pat := { slots := [(0, .ce (.ptr 0 0)), (1, .ce (.v .str))], ents := [.box 50 [.pn 0, .os 1], .row 5 (.int .u8)] }
abbrev O_strings_Builder_WriteString : Pat := { slots := [(0, .ce (.v (.int .i64))), (1, .ce .z)], ents := [.box 50 [.pn 0, .os 1], .row 5 (.int .u8)] }
def c_strings_Builder_WriteString : Ctr := { k0 := 1, inp := I_strings_Builder_WriteString, body := fun v => .need (Sp.wr.pre v.2.1 v.1) (.ret ⟨O_strings_Builder_WriteString, ((v.1.length : Int), Sp.wr v.2.1 v.1, ())⟩), ex := 0 }
def an_strings_Builder_WriteString : Ann := []
def cx_strings_Builder_WriteString : Cx := mkCx []
theorem eq_strings_Builder_WriteString (s : Str) (x : (List Int)) (R : ((p : Pat) × p.V) → Prop) : fnVc (cx_strings_Builder_WriteString) an_strings_Builder_WriteString 1 Tryd.f31 I_strings_Builder_WriteString [O_strings_Builder_WriteString] (s, x, ()) R = strings_Builder_WriteString.vc (fun y0 y1 => R ⟨O_strings_Builder_WriteString, (y0, y1, ())⟩) s x := by kernel_rfl
theorem fs_strings_Builder_WriteString : CtrsOk Tryd.prog [] gl := trivial
theorem vc_strings_Builder_WriteString (H : Nat → Entry) (v : c_strings_Builder_WriteString.inp.V) (r : (p : Pat) × p.V) (h : (c_strings_Builder_WriteString.body v).Sel H r) : fnVc (cx_strings_Builder_WriteString) an_strings_Builder_WriteString 1 Tryd.f31 c_strings_Builder_WriteString.inp [O_strings_Builder_WriteString] v (fun r' => r' = r) := by
  obtain ⟨s, x, ⟨⟩⟩ := v
  obtain ⟨h, rfl⟩ := h
  exact Eq.mpr (eq_strings_Builder_WriteString s x _) (strings_Builder_WriteString.ok _ s x h rfl)
theorem ctr_strings_Builder_WriteString : CtrOk Tryd.prog 31 c_strings_Builder_WriteString gl := ⟨⟨_, Tryd.func31, by kernel_rfl, by kernel_rfl⟩, fun H v r h => mk_ok _ (fs_strings_Builder_WriteString) (an := an_strings_Builder_WriteString) (outs := [O_strings_Builder_WriteString]) Tryd.func31 (by decide) (vc_strings_Builder_WriteString H v r h)⟩
abbrev I_refs_Escape : Pat := { slots := [(0, .ce (.v .str)), (1, .ce (.v .bool))], ents := [] }
abbrev O_refs_Escape : Pat := { slots := [(0, .ce (.v .str))], ents := [] }
def c_refs_Escape : Ctr := { k0 := 0, inp := I_refs_Escape, body := fun v => .need (Sp.escS.pre v.1 v.2.1) (.ret ⟨O_refs_Escape, ((Sp.escS v.1 v.2.1), ())⟩), ex := 0 }
def an_refs_Escape : Ann := []
def cx_refs_Escape : Cx := mkCx [(53, [c_strings_ReplaceAll]), (54, [c_utf_Bytes])]
theorem eq_refs_Escape (s : Str) (value : Bool) (R : ((p : Pat) × p.V) → Prop) : fnVc (cx_refs_Escape) an_refs_Escape 0 Tryd.f32 I_refs_Escape [O_refs_Escape] (s, value, ()) R = refs_Escape.vc (fun y0 => R ⟨O_refs_Escape, (y0, ())⟩) s value := by kernel_rfl
theorem fs_refs_Escape : CtrsOk Tryd.prog [(53, [c_strings_ReplaceAll]), (54, [c_utf_Bytes])] gl := ⟨ctr1 (ctr_strings_ReplaceAll), ctr1 (ctr_utf_Bytes), trivial⟩
theorem vc_refs_Escape (H : Nat → Entry) (v : c_refs_Escape.inp.V) (r : (p : Pat) × p.V) (h : (c_refs_Escape.body v).Sel H r) : fnVc (cx_refs_Escape) an_refs_Escape 0 Tryd.f32 c_refs_Escape.inp [O_refs_Escape] v (fun r' => r' = r) := by
  obtain ⟨s, value, ⟨⟩⟩ := v
  obtain ⟨h, rfl⟩ := h
  exact Eq.mpr (eq_refs_Escape s value _) (refs_Escape.ok _ s value h rfl)
theorem ctr_refs_Escape : CtrOk Tryd.prog 32 c_refs_Escape gl := ⟨⟨_, Tryd.func32, by kernel_rfl, by kernel_rfl⟩, fun H v r h => mk_ok _ (fs_refs_Escape) (an := an_refs_Escape) (outs := [O_refs_Escape]) Tryd.func32 (by decide) (vc_refs_Escape H v r h)⟩
abbrev I_rectoref04_at : Pat := { slots := [(0, .ce (.v .str)), (1, .ce (.v (.int .i64)))], ents := [] }
abbrev O_rectoref04_at : Pat := { slots := [(0, .ce (.v (.int .u8)))], ents := [] }
def c_rectoref04_at : Ctr := { k0 := 0, inp := I_rectoref04_at, body := fun v => .ret ⟨O_rectoref04_at, ((Sp.atRef v.1 v.2.1), ())⟩, ex := 0 }
def an_rectoref04_at : Ann := []
def cx_rectoref04_at : Cx := mkCx []
theorem eq_rectoref04_at (s : Str) (i : Int) (R : ((p : Pat) × p.V) → Prop) : fnVc (cx_rectoref04_at) an_rectoref04_at 0 Tryd.f55 I_rectoref04_at [O_rectoref04_at] (s, i, ()) R = rectoref04_at.vc (fun y0 => R ⟨O_rectoref04_at, (y0, ())⟩) s i := by kernel_rfl
theorem fs_rectoref04_at : CtrsOk Tryd.prog [] gl := trivial
theorem vc_rectoref04_at (H : Nat → Entry) (v : c_rectoref04_at.inp.V) (r : (p : Pat) × p.V) (h : (c_rectoref04_at.body v).Sel H r) : fnVc (cx_rectoref04_at) an_rectoref04_at 0 Tryd.f55 c_rectoref04_at.inp [O_rectoref04_at] v (fun r' => r' = r) := by
  obtain ⟨s, i, ⟨⟩⟩ := v
  obtain rfl := h
  exact Eq.mpr (eq_rectoref04_at s i _) (rectoref04_at.ok _ s i  rfl)
theorem ctr_rectoref04_at : CtrOk Tryd.prog 55 c_rectoref04_at gl := ⟨⟨_, Tryd.func55, by kernel_rfl, by kernel_rfl⟩, fun H v r h => mk_ok _ (fs_rectoref04_at) (an := an_rectoref04_at) (outs := [O_rectoref04_at]) Tryd.func55 (by decide) (vc_rectoref04_at H v r h)⟩
abbrev I_rectoref04_Escape : Pat := { slots := [(0, .ce (.v .str)), (1, .ce (.v .bool))], ents := [] }
abbrev O_rectoref04_Escape : Pat := { slots := [(0, .ce (.v .str))], ents := [] }
def c_rectoref04_Escape : Ctr := { k0 := 0, inp := I_rectoref04_Escape, body := fun v => .need (Sp.escS.pre v.1 v.2.1) (.ret ⟨O_rectoref04_Escape, ((Sp.escS v.1 v.2.1), ())⟩), ex := 0 }
def an_rectoref04_Escape : Ann := [(3, { slots := [(0, .ce (.v .str)), (1, .ce (.v .bool)), (5, .ce (.v .str)), (6, .ce (.v (.int .i64)))], ents := [] })]
def cx_rectoref04_Escape : Cx := mkCx [(55, [c_rectoref04_at])]
theorem eq_rectoref04_Escape (s : Str) (inValue : Bool) (R : ((p : Pat) × p.V) → Prop) : fnVc (cx_rectoref04_Escape) an_rectoref04_Escape 0 Tryd.f34 I_rectoref04_Escape [O_rectoref04_Escape] (s, inValue, ()) R = rectoref04_Escape.vc (fun y0 => R ⟨O_rectoref04_Escape, (y0, ())⟩) s inValue := by kernel_rfl
theorem fs_rectoref04_Escape : CtrsOk Tryd.prog [(55, [c_rectoref04_at])] gl := ⟨ctr1 (ctr_rectoref04_at), trivial⟩
theorem vc_rectoref04_Escape (H : Nat → Entry) (v : c_rectoref04_Escape.inp.V) (r : (p : Pat) × p.V) (h : (c_rectoref04_Escape.body v).Sel H r) : fnVc (cx_rectoref04_Escape) an_rectoref04_Escape 0 Tryd.f34 c_rectoref04_Escape.inp [O_rectoref04_Escape] v (fun r' => r' = r) := by
  obtain ⟨s, inValue, ⟨⟩⟩ := v
  obtain ⟨h, rfl⟩ := h
  exact Eq.mpr (eq_rectoref04_Escape s inValue _) (rectoref04_Escape.ok _ s inValue h rfl)
theorem ctr_rectoref04_Escape : CtrOk Tryd.prog 34 c_rectoref04_Escape gl := ⟨⟨_, Tryd.func34, by kernel_rfl, by kernel_rfl⟩, fun H v r h => mk_ok _ (fs_rectoref04_Escape) (an := an_rectoref04_Escape) (outs := [O_rectoref04_Escape]) Tryd.func34 (by decide) (vc_rectoref04_Escape H v r h)⟩
abbrev I_print_Open : Pat := { slots := [(0, .ag .node)], ents := [] }
abbrev O_print_Open : Pat := { slots := [(0, .ce (.v .str))], ents := [] }
def c_print_Open : Ctr := { k0 := 0, inp := I_print_Open, body := fun v => .need (Sp.openP.pre v.1) (.ret ⟨O_print_Open, ((Sp.openP v.1), ())⟩), ex := 0 }
def an_print_Open : Ann := [(6, { slots := [(3, .ce (.ptr 0 0)), (14, .ce (.v (.sl (.pair .str .str)))), (15, .ce (.v (.int .i64))), (16, .ce (.v (.int .i64)))], ents := [.box 50 [.pn 0, .os 1], .row 5 (.int .u8)] })]
def cx_print_Open : Cx := mkCx [(31, [c_strings_Builder_WriteString]), (32, [c_refs_Escape]), (33, [c_strings_Builder_WriteByte]), (30, [c_strings_Builder_String])]
theorem eq_print_Open (n : Vi.Node) (R : ((p : Pat) × p.V) → Prop) : fnVc (cx_print_Open) an_print_Open 0 Tryd.f14 I_print_Open [O_print_Open] (n, ()) R = print_Open.vc (fun y0 => R ⟨O_print_Open, (y0, ())⟩) n := by kernel_rfl
theorem fs_print_Open : CtrsOk Tryd.prog [(31, [c_strings_Builder_WriteString]), (32, [c_refs_Escape]), (33, [c_strings_Builder_WriteByte]), (30, [c_strings_Builder_String])] gl := ⟨ctr1 (ctr_strings_Builder_WriteString), ctr1 (ctr_refs_Escape), ctr1 (ctr_strings_Builder_WriteByte), ctr1 (ctr_strings_Builder_String), trivial⟩
theorem vc_print_Open (H : Nat → Entry) (v : c_print_Open.inp.V) (r : (p : Pat) × p.V) (h : (c_print_Open.body v).Sel H r) : fnVc (cx_print_Open) an_print_Open 0 Tryd.f14 c_print_Open.inp [O_print_Open] v (fun r' => r' = r) := by
  obtain ⟨n, ⟨⟩⟩ := v
  obtain ⟨h, rfl⟩ := h
  exact Eq.mpr (eq_print_Open n _) (print_Open.ok _ n h rfl)
theorem ctr_print_Open : CtrOk Tryd.prog 14 c_print_Open gl := ⟨⟨_, Tryd.func14, by kernel_rfl, by kernel_rfl⟩, fun H v r h => mk_ok _ (fs_print_Open) (an := an_print_Open) (outs := [O_print_Open]) Tryd.func14 (by decide) (vc_print_Open H v r h)⟩
abbrev I_rectoref13_Open : Pat := { slots := [(0, .ag .node)], ents := [] }
abbrev O_rectoref13_Open : Pat := { slots := [(0, .ce (.v .str))], ents := [] }
def c_rectoref13_Open : Ctr := { k0 := 0, inp := I_rectoref13_Open, body := fun v => .need (Sp.openP.pre v.1) (.ret ⟨O_rectoref13_Open, ((Sp.openP v.1), ())⟩), ex := 0 }
def an_rectoref13_Open : Ann := [(5, { slots := [(3, .ce (.v .str)), (13, .ce (.v (.sl (.pair .str .str)))), (14, .ce (.v (.int .i64))), (15, .ce (.v (.int .i64)))], ents := [] })]
def cx_rectoref13_Open : Cx := mkCx [(34, [c_rectoref04_Escape])]
theorem eq_rectoref13_Open (n : Vi.Node) (R : ((p : Pat) × p.V) → Prop) : fnVc (cx_rectoref13_Open) an_rectoref13_Open 0 Tryd.f15 I_rectoref13_Open [O_rectoref13_Open] (n, ()) R = rectoref13_Open.vc (fun y0 => R ⟨O_rectoref13_Open, (y0, ())⟩) n := by kernel_rfl
theorem fs_rectoref13_Open : CtrsOk Tryd.prog [(34, [c_rectoref04_Escape])] gl := ⟨ctr1 (ctr_rectoref04_Escape), trivial⟩
theorem vc_rectoref13_Open (H : Nat → Entry) (v : c_rectoref13_Open.inp.V) (r : (p : Pat) × p.V) (h : (c_rectoref13_Open.body v).Sel H r) : fnVc (cx_rectoref13_Open) an_rectoref13_Open 0 Tryd.f15 c_rectoref13_Open.inp [O_rectoref13_Open] v (fun r' => r' = r) := by
  obtain ⟨n, ⟨⟩⟩ := v
  obtain ⟨h, rfl⟩ := h
  exact Eq.mpr (eq_rectoref13_Open n _) (rectoref13_Open.ok _ n h rfl)
theorem ctr_rectoref13_Open : CtrOk Tryd.prog 15 c_rectoref13_Open gl := ⟨⟨_, Tryd.func15, by kernel_rfl, by kernel_rfl⟩, fun H v r h => mk_ok _ (fs_rectoref13_Open) (an := an_rectoref13_Open) (outs := [O_rectoref13_Open]) Tryd.func15 (by decide) (vc_rectoref13_Open H v r h)⟩
abbrev I_writer_WriteString : Pat := { slots := [(0, .ce (.ptr 0 0)), (1, .ce (.v .str))], ents := [.box 52 [.pn 0, .os 1], .row 5 (.int .u8)] }
abbrev O_writer_WriteString : Pat := { slots := [(0, .ce (.v (.int .i64))), (1, .ce .z)], ents := [.box 52 [.pn 0, .os 1], .row 5 (.int .u8)] }
def c_writer_WriteString : Ctr := { k0 := 1, inp := I_writer_WriteString, body := fun v => .need (Sp.wr.pre v.2.1 v.1) (.ret ⟨O_writer_WriteString, ((v.1.length : Int), Sp.wr v.2.1 v.1, ())⟩), ex := 0 }
def an_writer_WriteString : Ann := []
def cx_writer_WriteString : Cx := mkCx []
theorem eq_writer_WriteString (s : Str) (x : (List Int)) (R : ((p : Pat) × p.V) → Prop) : fnVc (cx_writer_WriteString) an_writer_WriteString 1 Tryd.f31 I_writer_WriteString [O_writer_WriteString] (s, x, ()) R = writer_WriteString.vc (fun y0 y1 => R ⟨O_writer_WriteString, (y0, y1, ())⟩) s x := by kernel_rfl
theorem fs_writer_WriteString : CtrsOk Tryd.prog [] gl := trivial
theorem vc_writer_WriteString (H : Nat → Entry) (v : c_writer_WriteString.inp.V) (r : (p : Pat) × p.V) (h : (c_writer_WriteString.body v).Sel H r) : fnVc (cx_writer_WriteString) an_writer_WriteString 1 Tryd.f31 c_writer_WriteString.inp [O_writer_WriteString] v (fun r' => r' = r) := by
  obtain ⟨s, x, ⟨⟩⟩ := v
  obtain ⟨h, rfl⟩ := h
  exact Eq.mpr (eq_writer_WriteString s x _) (writer_WriteString.ok _ s x h rfl)
theorem ctr_writer_WriteString : CtrOk Tryd.prog 31 c_writer_WriteString gl := ⟨⟨_, Tryd.func31, by kernel_rfl, by kernel_rfl⟩, fun H v r h => mk_ok _ (fs_writer_WriteString) (an := an_writer_WriteString) (outs := [O_writer_WriteString]) Tryd.func31 (by decide) (vc_writer_WriteString H v r h)⟩
abbrev I_writer_String : Pat := { slots := [(0, .ce (.ptr 0 0))], ents := [.box 52 [.pn 0, .os 1], .row 5 (.int .u8)] }
abbrev O_writer_String : Pat := { slots := [(0, .ce (.v .str))], ents := [.box 52 [.pn 0, .z]] }
def c_writer_String : Ctr := { k0 := 1, inp := I_writer_String, body := fun v => .ret ⟨O_writer_String, (bytesOf v.1, ())⟩, ex := 0 }
def an_writer_String : Ann := []
def cx_writer_String : Cx := mkCx []
theorem eq_writer_String (x : (List Int)) (R : ((p : Pat) × p.V) → Prop) : fnVc (cx_writer_String) an_writer_String 1 Tryd.f30 I_writer_String [O_writer_String] (x, ()) R = writer_String.vc (fun y0 => R ⟨O_writer_String, (y0, ())⟩) x := by kernel_rfl
theorem fs_writer_String : CtrsOk Tryd.prog [] gl := trivial
theorem vc_writer_String (H : Nat → Entry) (v : c_writer_String.inp.V) (r : (p : Pat) × p.V) (h : (c_writer_String.body v).Sel H r) : fnVc (cx_writer_String) an_writer_String 1 Tryd.f30 c_writer_String.inp [O_writer_String] v (fun r' => r' = r) := by
  obtain ⟨x, ⟨⟩⟩ := v
  obtain rfl := h
  exact Eq.mpr (eq_writer_String x _) (writer_String.ok _ x  rfl)
theorem ctr_writer_String : CtrOk Tryd.prog 30 c_writer_String gl := ⟨⟨_, Tryd.func30, by kernel_rfl, by kernel_rfl⟩, fun H v r h => mk_ok _ (fs_writer_String) (an := an_writer_String) (outs := [O_writer_String]) Tryd.func30 (by decide) (vc_writer_String H v r h)⟩
abbrev I_rectoref13_flat : Pat := { slots := [(0, .ce (.v .str))], ents := [] }
abbrev O_rectoref13_flat : Pat := { slots := [(0, .ce (.v .str))], ents := [] }
def c_rectoref13_flat : Ctr := { k0 := 0, inp := I_rectoref13_flat, body := fun v => .need (Sp.flatT.pre v.1) (.ret ⟨O_rectoref13_flat, ((Sp.flatT v.1), ())⟩), ex := 0 }
def an_rectoref13_flat : Ann := [(3, { slots := [(0, .ce (.v .str)), (3, .ce (.v .str)), (4, .ce (.v (.int .i64)))], ents := [] })]
def cx_rectoref13_flat : Cx := mkCx []
theorem eq_rectoref13_flat (s : Str) (R : ((p : Pat) × p.V) → Prop) : fnVc (cx_rectoref13_flat) an_rectoref13_flat 0 Tryd.f38 I_rectoref13_flat [O_rectoref13_flat] (s, ()) R = rectoref13_flat.vc (fun y0 => R ⟨O_rectoref13_flat, (y0, ())⟩) s := by kernel_rfl
theorem fs_rectoref13_flat : CtrsOk Tryd.prog [] gl := trivial
theorem vc_rectoref13_flat (H : Nat → Entry) (v : c_rectoref13_flat.inp.V) (r : (p : Pat) × p.V) (h : (c_rectoref13_flat.body v).Sel H r) : fnVc (cx_rectoref13_flat) an_rectoref13_flat 0 Tryd.f38 c_rectoref13_flat.inp [O_rectoref13_flat] v (fun r' => r' = r) := by
  obtain ⟨s, ⟨⟩⟩ := v
  obtain ⟨h, rfl⟩ := h
  exact Eq.mpr (eq_rectoref13_flat s _) (rectoref13_flat.ok _ s h rfl)
theorem ctr_rectoref13_flat : CtrOk Tryd.prog 38 c_rectoref13_flat gl := ⟨⟨_, Tryd.func38, by kernel_rfl, by kernel_rfl⟩, fun H v r h => mk_ok _ (fs_rectoref13_flat) (an := an_rectoref13_flat) (outs := [O_rectoref13_flat]) Tryd.func38 (by decide) (vc_rectoref13_flat H v r h)⟩
abbrev I_print_shown : Pat := { slots := [(0, .ag .node)], ents := [] }
abbrev O_print_shown : Pat := { slots := [(0, .ce (.v .str))], ents := [] }
def c_print_shown : Ctr := { k0 := 0, inp := I_print_shown, body := fun v => .need (Sp.shownN.pre v.1) (.ret ⟨O_print_shown, ((Sp.shownN v.1), ())⟩), ex := 0 }
def an_print_shown : Ann := []
def cx_print_shown : Cx := mkCx [(14, [c_print_Open]), (53, [c_strings_ReplaceAll])]
theorem eq_print_shown (n : Vi.Node) (R : ((p : Pat) × p.V) → Prop) : fnVc (cx_print_shown) an_print_shown 0 Tryd.f37 I_print_shown [O_print_shown] (n, ()) R = print_shown.vc (fun y0 => R ⟨O_print_shown, (y0, ())⟩) n := by kernel_rfl
theorem fs_print_shown : CtrsOk Tryd.prog [(14, [c_print_Open]), (53, [c_strings_ReplaceAll])] gl := ⟨ctr1 (ctr_print_Open), ctr1 (ctr_strings_ReplaceAll), trivial⟩
theorem vc_print_shown (H : Nat → Entry) (v : c_print_shown.inp.V) (r : (p : Pat) × p.V) (h : (c_print_shown.body v).Sel H r) : fnVc (cx_print_shown) an_print_shown 0 Tryd.f37 c_print_shown.inp [O_print_shown] v (fun r' => r' = r) := by
  obtain ⟨n, ⟨⟩⟩ := v
  obtain ⟨h, rfl⟩ := h
  exact Eq.mpr (eq_print_shown n _) (print_shown.ok _ n h rfl)
theorem ctr_print_shown : CtrOk Tryd.prog 37 c_print_shown gl := ⟨⟨_, Tryd.func37, by kernel_rfl, by kernel_rfl⟩, fun H v r h => mk_ok _ (fs_print_shown) (an := an_print_shown) (outs := [O_print_shown]) Tryd.func37 (by decide) (vc_print_shown H v r h)⟩
abbrev I_strings_Repeat : Pat := { slots := [(0, .ce (.v .str)), (1, .ce (.v (.int .i64)))], ents := [] }
abbrev O_strings_Repeat : Pat := { slots := [(0, .ce (.v .str))], ents := [] }
def c_strings_Repeat : Ctr := { k0 := 0, inp := I_strings_Repeat, body := fun v => .need (Sp.repS.pre v.1 v.2.1) (.ret ⟨O_strings_Repeat, ((Sp.repS v.1 v.2.1), ())⟩), ex := 2 }

theorem repeat_core (s : Str) (c : Int) (h : Sp.repS.pre s c) (w : World) : Calls Tryd.prog 36 #[.string ⟨s.toArray⟩, .int .i64 c] w fun e w' => e = .returned (.string ⟨(Sp.repS s c).toArray⟩) ∧ Go.RowKit.Below w.heap.size w w' := by
  obtain ⟨h1, h2, h3⟩ := h
  obtain ⟨k, rfl⟩ : ∃ k : Nat, c = k := ⟨Int.toNat c, (Int.toNat_of_nonneg h1).symm⟩
  have hss : (⟨s.toArray⟩ : ByteArray).size = List.length s := by simp [ByteArray.size]
  have hk : k ≤ 1000000 := by omega
  have hb : List.length s * k ≤ 1000000 * 1000000 := Nat.mul_le_mul h3 hk
  refine Calls.mono (Tryd.strings_Repeat ⟨s.toArray⟩ k w (by omega) (by rw [hss]; omega)) fun e w' he => ?_
  obtain ⟨rfl, hbel⟩ := he
  exact ⟨by rw [show (Lib.repeatL (⟨s.toArray⟩ : ByteArray).data.toList k) = Sp.repS s k from Sp.repS_lib s k], hbel⟩
theorem repeat_len {s : Str} {c : Int} (h : Sp.repS.pre s c) : (Sp.repS s c).length ≤ maxLen := by
  obtain ⟨h1, h2, h3⟩ := h
  obtain ⟨k, rfl⟩ : ∃ k : Nat, c = k := ⟨Int.toNat c, (Int.toNat_of_nonneg h1).symm⟩
  have hk : k ≤ 1000000 := by omega
  have hb : List.length s * k ≤ 1000000 * 1000000 := Nat.mul_le_mul h3 hk
  rw [Sp.repS_len]
  simp only [maxLen]
  omega
theorem ctr_strings_Repeat : CtrOk Tryd.prog 36 c_strings_Repeat gl := ⟨⟨_, Tryd.func36, by kernel_rfl, by kernel_rfl⟩, fun H v r h => by
  obtain ⟨s, c, ⟨⟩⟩ := v
  obtain ⟨hp, h⟩ := h
  have hp : Sp.repS.pre s c := hp
  subst h
  refine pure_ok fun F S μ w us hF hex hs => ?_
  have hex : us.length = 2 := hex.resolve_left (by decide)
  match us, hex with
  | [u0, u1], _ =>
  obtain ⟨rfl, hsl⟩ := str_of (x := s) (hs (0, _) (.head _))
  obtain ⟨rfl, h4⟩ := int_of (x := c) (hs (1, _) (.tail _ (.head _)))
  refine Calls.mono (repeat_core s c hp w) fun e w' he => ?_
  obtain ⟨rfl, hbel⟩ := he
  exact ⟨hbel, fun F' S' μ' _ _ => pr_str (s := Sp.repS s c) (repeat_len hp)⟩⟩

abbrev I_print_Lines_1 : Pat := { slots := [(0, .ce (.v (.sl .node))), (1, .ce (.v (.int .i64))), (2, .ce (.ptr 0 0)), (3, .ce (.ptr 1 0))], ents := [.box 33 [.os 2], .box 63 [.fn 35 [] [0, 1]], .row 9 .str] }
abbrev O_print_Lines_1 : Pat := { slots := [], ents := [.box 33 [.os 2], .box 63 [.fn 35 [] [0, 1]], .row 9 .str] }
def r_print_Lines_1 (nn : Nat) : Ctr := { k0 := 2, inp := I_print_Lines_1, body := fun v => .need (Sp.linesD.pre v.1 v.2.1 v.2.2.1 ∧ Sp.mLn v.1 v.2.1 v.2.2.1 < nn) (.ret ⟨O_print_Lines_1, (Sp.linesD v.1 v.2.1 v.2.2.1, ())⟩), ex := 0 }
def c_print_Lines_1 : Ctr := { k0 := 2, inp := I_print_Lines_1, body := fun v => .need (Sp.linesD.pre v.1 v.2.1 v.2.2.1) (.ret ⟨O_print_Lines_1, (Sp.linesD v.1 v.2.1 v.2.2.1, ())⟩), ex := 0 }
def an_print_Lines_1 : Ann := [(1, { slots := [(1, .ce (.v (.int .i64))), (2, .ce (.ptr 0 0)), (3, .ce (.ptr 1 0)), (8, .ce (.v (.sl .node))), (9, .ce (.v (.int .i64))), (10, .ce (.v (.int .i64)))], ents := [.box 33 [.os 2], .box 63 [.fn 35 [] [0, 1]], .row 9 .str] })]
def cx_print_Lines_1 (nn : Nat) : Cx := mkCx [(36, [c_strings_Repeat]), (37, [c_print_shown]), (35, [r_print_Lines_1 nn])]
theorem eq_print_Lines_1 (nn : Nat) (l : (List Vi.Node)) (depth : Int) (out : (List Str)) (R : ((p : Pat) × p.V) → Prop) : fnVc (cx_print_Lines_1 nn) an_print_Lines_1 2 Tryd.f35 I_print_Lines_1 [O_print_Lines_1] (l, depth, out, ()) R = print_Lines_1.vc (fun y0 => R ⟨O_print_Lines_1, (y0, ())⟩) nn l depth out := by kernel_rfl
theorem fs_print_Lines_1 (nn : Nat) (ih_print_Lines_1 : CtrOk Tryd.prog 35 (r_print_Lines_1 nn) gl) : CtrsOk Tryd.prog [(36, [c_strings_Repeat]), (37, [c_print_shown]), (35, [r_print_Lines_1 nn])] gl := ⟨(ctr1 (ctr_strings_Repeat)), (ctr1 (ctr_print_shown)), (ctr1 ih_print_Lines_1), trivial⟩
theorem grp_ln (nn : Nat) : CtrOk Tryd.prog 35 (r_print_Lines_1 nn) gl := by
  induction nn with
  | zero => exact ⟨⟨_, Tryd.func35, by kernel_rfl, by kernel_rfl⟩, fun H v r h => absurd h.1.2 (Nat.not_lt_zero _)⟩
  | succ nn ih =>
  have ih_print_Lines_1 := ih
  refine ⟨⟨_, Tryd.func35, by kernel_rfl, by kernel_rfl⟩, ?_⟩
  · intro H v r h
    obtain ⟨l, depth, out, ⟨⟩⟩ := v
    obtain ⟨h, rfl⟩ := h
    exact mk_ok _ (fs_print_Lines_1 nn ih_print_Lines_1) (an := an_print_Lines_1) (outs := [O_print_Lines_1]) Tryd.func35 (Nat.le_of_ble_eq_true rfl) (Eq.mpr (eq_print_Lines_1 nn l depth out _) (print_Lines_1.ok nn _ l depth out h rfl))

theorem ctr_print_Lines_1 : CtrOk Tryd.prog 35 c_print_Lines_1 gl := ⟨⟨_, Tryd.func35, by kernel_rfl, by kernel_rfl⟩, fun H v r h => ((grp_ln (Sp.mLn v.1 v.2.1 v.2.2.1 + 1)).2 H v r ⟨⟨h.1, Nat.lt_succ_self _⟩, h.2⟩).body⟩
abbrev I_print_Lines : Pat := { slots := [(0, .ce (.v (.sl .node)))], ents := [] }
abbrev O_print_Lines : Pat := { slots := [(0, .ce (.v (.sl .str)))], ents := [] }
def c_print_Lines : Ctr := { k0 := 0, inp := I_print_Lines, body := fun v => .need (Sp.prOk v.1 ∧ Sp.szL v.1 ≤ 900000) (.ret ⟨O_print_Lines, ((Sp.linesP v.1), ())⟩), ex := 0 }
def an_print_Lines : Ann := []
def cx_print_Lines : Cx := mkCx [(35, [c_print_Lines_1])]
theorem eq_print_Lines (l : (List Vi.Node)) (R : ((p : Pat) × p.V) → Prop) : fnVc (cx_print_Lines) an_print_Lines 0 Tryd.f17 I_print_Lines [O_print_Lines] (l, ()) R = print_Lines.vc (fun y0 => R ⟨O_print_Lines, (y0, ())⟩) l := by kernel_rfl
theorem fs_print_Lines : CtrsOk Tryd.prog [(35, [c_print_Lines_1])] gl := ⟨ctr1 (ctr_print_Lines_1), trivial⟩
theorem vc_print_Lines (H : Nat → Entry) (v : c_print_Lines.inp.V) (r : (p : Pat) × p.V) (h : (c_print_Lines.body v).Sel H r) : fnVc (cx_print_Lines) an_print_Lines 0 Tryd.f17 c_print_Lines.inp [O_print_Lines] v (fun r' => r' = r) := by
  obtain ⟨l, ⟨⟩⟩ := v
  obtain ⟨h, rfl⟩ := h
  exact Eq.mpr (eq_print_Lines l _) (print_Lines.ok _ l h rfl)
theorem ctr_print_Lines : CtrOk Tryd.prog 17 c_print_Lines gl := ⟨⟨_, Tryd.func17, by kernel_rfl, by kernel_rfl⟩, fun H v r h => mk_ok _ (fs_print_Lines) (an := an_print_Lines) (outs := [O_print_Lines]) Tryd.func17 (by decide) (vc_print_Lines H v r h)⟩
abbrev I_rectoref13_Lines : Pat := { slots := [(0, .ce (.v (.sl .node))), (1, .ce (.v .str))], ents := [] }
abbrev O_rectoref13_Lines : Pat := { slots := [(0, .ce (.v (.sl .str)))], ents := [] }
def r_rectoref13_Lines (nn : Nat) : Ctr := { k0 := 0, inp := I_rectoref13_Lines, body := fun v => .need (Sp.linesR.pre v.1 v.2.1 ∧ Sp.mLr v.1 v.2.1 < nn) (.ret ⟨O_rectoref13_Lines, ((Sp.linesR v.1 v.2.1), ())⟩), ex := 0 }
def c_rectoref13_Lines : Ctr := { k0 := 0, inp := I_rectoref13_Lines, body := fun v => .need (Sp.linesR.pre v.1 v.2.1) (.ret ⟨O_rectoref13_Lines, ((Sp.linesR v.1 v.2.1), ())⟩), ex := 0 }
def an_rectoref13_Lines : Ann := [(3, { slots := [(1, .ce (.v .str)), (5, .ce (.os 0)), (9, .ce (.v (.sl .node))), (10, .ce (.v (.int .i64))), (11, .ce (.v (.int .i64)))], ents := [.row 9 .str] })]
def cx_rectoref13_Lines (nn : Nat) : Cx := mkCx [(15, [c_rectoref13_Open]), (38, [c_rectoref13_flat]), (18, [r_rectoref13_Lines nn])]
theorem eq_rectoref13_Lines (nn : Nat) (l : (List Vi.Node)) (ahead : Str) (R : ((p : Pat) × p.V) → Prop) : fnVc (cx_rectoref13_Lines nn) an_rectoref13_Lines 0 Tryd.f18 I_rectoref13_Lines [O_rectoref13_Lines] (l, ahead, ()) R = rectoref13_Lines.vc (fun y0 => R ⟨O_rectoref13_Lines, (y0, ())⟩) nn l ahead := by kernel_rfl
theorem fs_rectoref13_Lines (nn : Nat) (ih_rectoref13_Lines : CtrOk Tryd.prog 18 (r_rectoref13_Lines nn) gl) : CtrsOk Tryd.prog [(15, [c_rectoref13_Open]), (38, [c_rectoref13_flat]), (18, [r_rectoref13_Lines nn])] gl := ⟨(ctr1 (ctr_rectoref13_Open)), (ctr1 (ctr_rectoref13_flat)), (ctr1 ih_rectoref13_Lines), trivial⟩
theorem grp_lnr (nn : Nat) : CtrOk Tryd.prog 18 (r_rectoref13_Lines nn) gl := by
  induction nn with
  | zero => exact ⟨⟨_, Tryd.func18, by kernel_rfl, by kernel_rfl⟩, fun H v r h => absurd h.1.2 (Nat.not_lt_zero _)⟩
  | succ nn ih =>
  have ih_rectoref13_Lines := ih
  refine ⟨⟨_, Tryd.func18, by kernel_rfl, by kernel_rfl⟩, ?_⟩
  · intro H v r h
    obtain ⟨l, ahead, ⟨⟩⟩ := v
    obtain ⟨h, rfl⟩ := h
    exact mk_ok _ (fs_rectoref13_Lines nn ih_rectoref13_Lines) (an := an_rectoref13_Lines) (outs := [O_rectoref13_Lines]) Tryd.func18 (Nat.le_of_ble_eq_true rfl) (Eq.mpr (eq_rectoref13_Lines nn l ahead _) (rectoref13_Lines.ok nn _ l ahead h rfl))

theorem ctr_rectoref13_Lines : CtrOk Tryd.prog 18 c_rectoref13_Lines gl := ⟨⟨_, Tryd.func18, by kernel_rfl, by kernel_rfl⟩, fun H v r h => ((grp_lnr (Sp.mLr v.1 v.2.1 + 1)).2 H v r ⟨⟨h.1, Nat.lt_succ_self _⟩, h.2⟩).body⟩
end Vs
