/- The types of the program, checked. -/
import Derived.Test.YtdeajocokfhklaaViThree
import Derived.KernelRfl
import Derived.Test.YtdeajocokfhklaaProg
import Derived.Test.YtdeajocokfhklaaCpd
set_option linter.unnecessarySimpa false
set_option linter.unusedVariables false
set_option linter.unusedSectionVars false
set_option linter.unusedSimpArgs false
set_option autoImplicit false
namespace Vs
open Go Vi Go.Proofs
def tbl : List (Nat × Option TI) := [
  (1, some { de := .ot, n := 1, bytes := 8, ag := false, zero := [.nilf], ty := none }),
  (2, some { de := .sc, n := 1, bytes := 8, ag := false, zero := [.v (.int .i64) (0 : Int)], ty := some (.int .i64) }),
  (3, some { de := .sc, n := 1, bytes := 8, ag := false, zero := [.v (.int .i64) (0 : Int)], ty := some (.int .i64) }),
  (4, some { de := .sc, n := 1, bytes := 1, ag := false, zero := [.v .bool false], ty := some .bool }),
  (5, some { de := .sc, n := 1, bytes := 1, ag := false, zero := [.v (.int .u8) (0 : Int)], ty := some (.int .u8) }),
  (6, some { de := .sc, n := 1, bytes := 1, ag := false, zero := [.v (.int .u8) (0 : Int)], ty := some (.int .u8) }),
  (7, some { de := .st [(0, 2), (1, 3), (2, 4), (3, 6)], n := 4, bytes := 24, ag := true, zero := [.v (.int .i64) (0 : Int), .v (.int .i64) (0 : Int), .v .bool false, .v (.int .u8) (0 : Int)], ty := some (.pair (.int .i64) (.pair (.int .i64) (.pair .bool (.int .u8)))) }),
  (8, some { de := .st [(0, 2), (1, 3), (2, 4), (3, 6)], n := 4, bytes := 24, ag := true, zero := [.v (.int .i64) (0 : Int), .v (.int .i64) (0 : Int), .v .bool false, .v (.int .u8) (0 : Int)], ty := some (.pair (.int .i64) (.pair (.int .i64) (.pair .bool (.int .u8)))) }),
  (9, some { de := .sc, n := 1, bytes := 16, ag := false, zero := [.v .str ([] : Str)], ty := some .str }),
  (10, some { de := .sc, n := 1, bytes := 16, ag := false, zero := [.v .str ([] : Str)], ty := some .str }),
  (11, some { de := .sc, n := 1, bytes := 16, ag := false, zero := [.v .str ([] : Str)], ty := some .str }),
  (12, some { de := .sc, n := 1, bytes := 8, ag := false, zero := [.v (.int .u64) (0 : Int)], ty := some (.int .u64) }),
  (13, some { de := .st [(0, 9), (1, 12)], n := 2, bytes := 24, ag := true, zero := [.v .str ([] : Str), .v (.int .u64) (0 : Int)], ty := some (.pair .str (.int .u64)) }),
  (14, some { de := .st [(0, 9), (1, 12)], n := 2, bytes := 24, ag := true, zero := [.v .str ([] : Str), .v (.int .u64) (0 : Int)], ty := some (.pair .str (.int .u64)) }),
  (15, some { de := .pt 150, n := 1, bytes := 8, ag := false, zero := [.nilp], ty := none }),
  (16, some { de := .pt 153, n := 1, bytes := 8, ag := false, zero := [.nilp], ty := none }),
  (17, some { de := .pt 160, n := 1, bytes := 8, ag := false, zero := [.nilp], ty := none }),
  (18, some { de := .st [(0, 17)], n := 1, bytes := 8, ag := true, zero := [.nilp], ty := none }),
  (19, some { de := .st [(0, 17)], n := 1, bytes := 8, ag := true, zero := [.nilp], ty := none }),
  (22, some { de := .sl 33, n := 1, bytes := 24, ag := false, zero := [.nils], ty := some (.sl (.pair (.int .i64) (.pair (.int .i64) (.pair (.int .u8) (.pair .bool (.sl (.int .i64))))))) }),
  (23, some { de := .sl 3, n := 1, bytes := 24, ag := false, zero := [.nils], ty := some (.sl (.int .i64)) }),
  (24, some { de := .pt 93, n := 1, bytes := 8, ag := false, zero := [.nilp], ty := none }),
  (25, some { de := .sc, n := 1, bytes := 8, ag := false, zero := [.v (.int .i64) (0 : Int)], ty := some (.int .i64) }),
  (30, some { de := .pt 44, n := 1, bytes := 8, ag := false, zero := [.nilp], ty := none }),
  (32, some { de := .st [(0, 3), (1, 3), (2, 5), (3, 4), (4, 23)], n := 5, bytes := 48, ag := true, zero := [.v (.int .i64) (0 : Int), .v (.int .i64) (0 : Int), .v (.int .u8) (0 : Int), .v .bool false, .nils], ty := some (.pair (.int .i64) (.pair (.int .i64) (.pair (.int .u8) (.pair .bool (.sl (.int .i64)))))) }),
  (33, some { de := .st [(0, 3), (1, 3), (2, 5), (3, 4), (4, 23)], n := 5, bytes := 48, ag := true, zero := [.v (.int .i64) (0 : Int), .v (.int .i64) (0 : Int), .v (.int .u8) (0 : Int), .v .bool false, .nils], ty := some (.pair (.int .i64) (.pair (.int .i64) (.pair (.int .u8) (.pair .bool (.sl (.int .i64)))))) }),
  (39, some { de := .sl 9, n := 1, bytes := 24, ag := false, zero := [.nils], ty := some (.sl .str) }),
  (40, some { de := .sl 48, n := 1, bytes := 24, ag := false, zero := [.nils], ty := some (.sl (.pair (.int .i64) .str)) }),
  (41, some { de := .st [(0, 3), (1, 4), (2, 23)], n := 3, bytes := 40, ag := true, zero := [.v (.int .i64) (0 : Int), .v .bool false, .nils], ty := some (.pair (.int .i64) (.pair .bool (.sl (.int .i64)))) }),
  (42, some { de := .st [(0, 3), (1, 4), (2, 23)], n := 3, bytes := 40, ag := true, zero := [.v (.int .i64) (0 : Int), .v .bool false, .nils], ty := some (.pair (.int .i64) (.pair .bool (.sl (.int .i64)))) }),
  (44, some { de := .st [(0, 39), (1, 40), (2, 4), (3, 4), (4, 42)], n := 7, bytes := 96, ag := true, zero := [.nils, .nils, .v .bool false, .v .bool false, .v (.int .i64) (0 : Int), .v .bool false, .nils], ty := some (.pair (.sl .str) (.pair (.sl (.pair (.int .i64) .str)) (.pair .bool (.pair .bool (.pair (.int .i64) (.pair .bool (.sl (.int .i64)))))))) }),
  (47, some { de := .st [(0, 3), (1, 9)], n := 2, bytes := 24, ag := true, zero := [.v (.int .i64) (0 : Int), .v .str ([] : Str)], ty := some (.pair (.int .i64) .str) }),
  (48, some { de := .st [(0, 3), (1, 9)], n := 2, bytes := 24, ag := true, zero := [.v (.int .i64) (0 : Int), .v .str ([] : Str)], ty := some (.pair (.int .i64) .str) }),
  (58, some { de := .st [(0, 3), (1, 4), (2, 23)], n := 3, bytes := 40, ag := true, zero := [.v (.int .i64) (0 : Int), .v .bool false, .nils], ty := some (.pair (.int .i64) (.pair .bool (.sl (.int .i64)))) }),
  (61, some { de := .st [(0, 3), (1, 3), (2, 3), (3, 3)], n := 4, bytes := 32, ag := true, zero := [.v (.int .i64) (0 : Int), .v (.int .i64) (0 : Int), .v (.int .i64) (0 : Int), .v (.int .i64) (0 : Int)], ty := some (.pair (.int .i64) (.pair (.int .i64) (.pair (.int .i64) (.int .i64)))) }),
  (62, some { de := .st [(0, 3), (1, 3), (2, 3), (3, 3)], n := 4, bytes := 32, ag := true, zero := [.v (.int .i64) (0 : Int), .v (.int .i64) (0 : Int), .v (.int .i64) (0 : Int), .v (.int .i64) (0 : Int)], ty := some (.pair (.int .i64) (.pair (.int .i64) (.pair (.int .i64) (.int .i64)))) }),
  (64, some { de := .sl 5, n := 1, bytes := 24, ag := false, zero := [.nils], ty := some (.sl (.int .u8)) }),
  (68, some { de := .sl 71, n := 1, bytes := 24, ag := false, zero := [.nils], ty := some (.sl (.pair (.int .i64) (.pair (.int .i64) (.pair (.pair (.int .i64) (.pair (.int .i64) (.pair (.int .i64) (.int .i64)))) (.pair (.int .u8) (.pair .bool (.sl (.int .i64)))))))) }),
  (70, some { de := .st [(0, 3), (1, 3), (2, 62), (6, 5), (7, 4), (8, 23)], n := 9, bytes := 80, ag := true, zero := [.v (.int .i64) (0 : Int), .v (.int .i64) (0 : Int), .v (.int .i64) (0 : Int), .v (.int .i64) (0 : Int), .v (.int .i64) (0 : Int), .v (.int .i64) (0 : Int), .v (.int .u8) (0 : Int), .v .bool false, .nils], ty := some (.pair (.int .i64) (.pair (.int .i64) (.pair (.pair (.int .i64) (.pair (.int .i64) (.pair (.int .i64) (.int .i64)))) (.pair (.int .u8) (.pair .bool (.sl (.int .i64))))))) }),
  (71, some { de := .st [(0, 3), (1, 3), (2, 62), (6, 5), (7, 4), (8, 23)], n := 9, bytes := 80, ag := true, zero := [.v (.int .i64) (0 : Int), .v (.int .i64) (0 : Int), .v (.int .i64) (0 : Int), .v (.int .i64) (0 : Int), .v (.int .i64) (0 : Int), .v (.int .i64) (0 : Int), .v (.int .u8) (0 : Int), .v .bool false, .nils], ty := some (.pair (.int .i64) (.pair (.int .i64) (.pair (.pair (.int .i64) (.pair (.int .i64) (.pair (.int .i64) (.int .i64)))) (.pair (.int .u8) (.pair .bool (.sl (.int .i64))))))) }),
  (75, some { de := .st [(0, 3), (1, 3), (2, 3), (3, 3)], n := 4, bytes := 32, ag := true, zero := [.v (.int .i64) (0 : Int), .v (.int .i64) (0 : Int), .v (.int .i64) (0 : Int), .v (.int .i64) (0 : Int)], ty := some (.pair (.int .i64) (.pair (.int .i64) (.pair (.int .i64) (.int .i64)))) }),
  (76, some { de := .st [(0, 75), (4, 3), (5, 3)], n := 6, bytes := 48, ag := true, zero := [.v (.int .i64) (0 : Int), .v (.int .i64) (0 : Int), .v (.int .i64) (0 : Int), .v (.int .i64) (0 : Int), .v (.int .i64) (0 : Int), .v (.int .i64) (0 : Int)], ty := some (.pair (.pair (.int .i64) (.pair (.int .i64) (.pair (.int .i64) (.int .i64)))) (.pair (.int .i64) (.int .i64))) }),
  (77, some { de := .st [(0, 75), (4, 3), (5, 3)], n := 6, bytes := 48, ag := true, zero := [.v (.int .i64) (0 : Int), .v (.int .i64) (0 : Int), .v (.int .i64) (0 : Int), .v (.int .i64) (0 : Int), .v (.int .i64) (0 : Int), .v (.int .i64) (0 : Int)], ty := some (.pair (.pair (.int .i64) (.pair (.int .i64) (.pair (.int .i64) (.int .i64)))) (.pair (.int .i64) (.int .i64))) }),
  (80, some { de := .sl 62, n := 1, bytes := 24, ag := false, zero := [.nils], ty := some (.sl (.pair (.int .i64) (.pair (.int .i64) (.pair (.int .i64) (.int .i64))))) }),
  (81, some { de := .sl 58, n := 1, bytes := 24, ag := false, zero := [.nils], ty := some (.sl (.pair (.int .i64) (.pair .bool (.sl (.int .i64))))) }),
  (85, some { de := .ar 4 9, n := 4, bytes := 64, ag := true, zero := [.v .str ([] : Str), .v .str ([] : Str), .v .str ([] : Str), .v .str ([] : Str)], ty := some (.arr 4 .str) }),
  (86, some { de := .ar 4 9, n := 4, bytes := 64, ag := true, zero := [.v .str ([] : Str), .v .str ([] : Str), .v .str ([] : Str), .v .str ([] : Str)], ty := some (.arr 4 .str) }),
  (89, some { de := .sl 86, n := 1, bytes := 24, ag := false, zero := [.nils], ty := some (.sl (.arr 4 .str)) }),
  (91, some { de := .sl 98, n := 1, bytes := 24, ag := false, zero := [.nils], ty := some (.sl (.pair (.int .i64) (.arr 4 .str))) }),
  (93, some { de := .st [(0, 89), (1, 91), (2, 4), (3, 4), (4, 58)], n := 7, bytes := 96, ag := true, zero := [.nils, .nils, .v .bool false, .v .bool false, .v (.int .i64) (0 : Int), .v .bool false, .nils], ty := some (.pair (.sl (.arr 4 .str)) (.pair (.sl (.pair (.int .i64) (.arr 4 .str))) (.pair .bool (.pair .bool (.pair (.int .i64) (.pair .bool (.sl (.int .i64)))))))) }),
  (97, some { de := .st [(0, 3), (1, 86)], n := 5, bytes := 72, ag := true, zero := [.v (.int .i64) (0 : Int), .v .str ([] : Str), .v .str ([] : Str), .v .str ([] : Str), .v .str ([] : Str)], ty := some (.pair (.int .i64) (.arr 4 .str)) }),
  (98, some { de := .st [(0, 3), (1, 86)], n := 5, bytes := 72, ag := true, zero := [.v (.int .i64) (0 : Int), .v .str ([] : Str), .v .str ([] : Str), .v .str ([] : Str), .v .str ([] : Str)], ty := some (.pair (.int .i64) (.arr 4 .str)) }),
  (104, some { de := .ar 4 3, n := 4, bytes := 32, ag := true, zero := [.v (.int .i64) (0 : Int), .v (.int .i64) (0 : Int), .v (.int .i64) (0 : Int), .v (.int .i64) (0 : Int)], ty := some (.arr 4 (.int .i64)) }),
  (113, some { de := .st [(0, 75), (4, 4)], n := 5, bytes := 40, ag := true, zero := [.v (.int .i64) (0 : Int), .v (.int .i64) (0 : Int), .v (.int .i64) (0 : Int), .v (.int .i64) (0 : Int), .v .bool false], ty := some (.pair (.pair (.int .i64) (.pair (.int .i64) (.pair (.int .i64) (.int .i64)))) .bool) }),
  (114, some { de := .st [(0, 75), (4, 4)], n := 5, bytes := 40, ag := true, zero := [.v (.int .i64) (0 : Int), .v (.int .i64) (0 : Int), .v (.int .i64) (0 : Int), .v (.int .i64) (0 : Int), .v .bool false], ty := some (.pair (.pair (.int .i64) (.pair (.int .i64) (.pair (.int .i64) (.int .i64)))) .bool) }),
  (116, some { de := .ar 2 9, n := 2, bytes := 32, ag := true, zero := [.v .str ([] : Str), .v .str ([] : Str)], ty := some (.arr 2 .str) }),
  (117, some { de := .sc, n := 1, bytes := 8, ag := false, zero := [.v (.int .u64) (0 : Int)], ty := some (.int .u64) }),
  (121, some { de := .pt 123, n := 1, bytes := 8, ag := false, zero := [.nilp], ty := none }),
  (122, some { de := .st [(0, 121), (1, 64)], n := 2, bytes := 32, ag := true, zero := [.nilp, .nils], ty := none }),
  (123, some { de := .st [(0, 121), (1, 64)], n := 2, bytes := 32, ag := true, zero := [.nilp, .nils], ty := none }),
  (132, some { de := .st [(0, 3), (1, 9), (2, 39), (3, 9), (4, 3)], n := 5, bytes := 72, ag := true, zero := [.v (.int .i64) (0 : Int), .v .str ([] : Str), .nils, .v .str ([] : Str), .v (.int .i64) (0 : Int)], ty := some (.pair (.int .i64) (.pair .str (.pair (.sl .str) (.pair .str (.int .i64))))) }),
  (133, some { de := .st [(0, 3), (1, 9), (2, 39), (3, 9), (4, 3)], n := 5, bytes := 72, ag := true, zero := [.v (.int .i64) (0 : Int), .v .str ([] : Str), .nils, .v .str ([] : Str), .v (.int .i64) (0 : Int)], ty := some (.pair (.int .i64) (.pair .str (.pair (.sl .str) (.pair .str (.int .i64))))) }),
  (135, some { de := .sc, n := 1, bytes := 4, ag := false, zero := [.v (.int .u32) (0 : Int)], ty := some (.int .u32) }),
  (138, some { de := .sc, n := 1, bytes := 8, ag := false, zero := [.v (.int .u64) (0 : Int)], ty := some (.int .u64) }),
  (141, some { de := .pt 5, n := 1, bytes := 8, ag := false, zero := [.nilp], ty := none }),
  (142, some { de := .st [(0, 3), (1, 3)], n := 2, bytes := 16, ag := true, zero := [.v (.int .i64) (0 : Int), .v (.int .i64) (0 : Int)], ty := some (.pair (.int .i64) (.int .i64)) }),
  (143, some { de := .st [(0, 3), (1, 3)], n := 2, bytes := 16, ag := true, zero := [.v (.int .i64) (0 : Int), .v (.int .i64) (0 : Int)], ty := some (.pair (.int .i64) (.int .i64)) }),
  (150, some { de := .st [(0, 17), (1, 17), (2, 17), (3, 9)], n := 4, bytes := 40, ag := true, zero := [.nilp, .nilp, .nilp, .v .str ([] : Str)], ty := none }),
  (153, some { de := .st [(0, 151)], n := 0, bytes := 0, ag := true, zero := [], ty := none }),
  (155, some { de := .sc, n := 1, bytes := 1, ag := false, zero := [.v (.int .u8) (0 : Int)], ty := some (.int .u8) }),
  (160, some { de := .st [(0, 12), (1, 12), (2, 135), (3, 154), (4, 5), (5, 5), (6, 155), (7, 156), (8, 141), (9, 157), (10, 158)], n := 11, bytes := 48, ag := true, zero := [.v (.int .u64) (0 : Int), .v (.int .u64) (0 : Int), .v (.int .u32) (0 : Int), .v (.int .u8) (0 : Int), .v (.int .u8) (0 : Int), .v (.int .u8) (0 : Int), .v (.int .u8) (0 : Int), .nilf, .nilp, .v (.int .i32) (0 : Int), .v (.int .i32) (0 : Int)], ty := none })
]
def etbl : List (Nat × Option Ty) := [(62, some (.pair (.int .i64) (.pair (.int .i64) (.pair (.int .i64) (.int .i64))))), (75, some (.pair (.int .i64) (.pair (.int .i64) (.pair (.int .i64) (.int .i64)))))]

def ti : Nat → Option TI := fun t => find none tbl t
def eqt : Nat → Option Ty := fun t => find none etbl t
theorem tOk : tblB Try.prog tbl = true := by kernel_rfl
theorem eOk : eqTblB Try.prog ti etbl = true := by kernel_rfl
theorem fol : Try.prog.follows .mixedOrders = true := by kernel_rfl
def mkCx (l : List (Nat × List Ctr)) (win : Bool := false) : Cx := { win := win, ti := ti, fs := fun f => find [] l f, eqt := eqt, rr := fun t => memb t [], u8 := fun e => memb e [5], cpy := fun f => find none [(79, some 123)] f }
theorem cxOk (l : List (Nat × List Ctr)) {win : Bool} : CxOk (mkCx l win) Try.prog := cxOk_of (l := tbl) rfl tOk
theorem eqOk (l : List (Nat × List Ctr)) {win : Bool} : EqOk (mkCx l win) Try.prog := eqOk_of (l := etbl) (cxOk l) rfl eOk (u8Ok_of (l := [5]) rfl (by kernel_rfl)) cpyAll
theorem mk_ok (l : List (Nat × List Ctr)) {win : Bool} (hl : CtrsOk Try.prog l) {f : Nat} {fn : Func} {c : Ctr} {an : Ann} {outs : List Pat} {v : c.inp.V} {r : (p : Pat) × p.V} (hfn : Try.prog.funcs[f]? = some fn) (hk : c.k0 ≤ c.inp.ents.length)
    (hvc : fnVc (mkCx l win) an c.k0 fn c.inp outs v (fun r' => r' = r)) : SoundAt Try.prog f c v r := fn_ok fol (cxOk l) (eqOk l) (fsOk_of rfl hl) hfn hk hvc
end Vs
