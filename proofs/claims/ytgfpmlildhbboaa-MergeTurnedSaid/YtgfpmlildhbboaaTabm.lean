/- The types of the program, checked. -/
import Derived.Test.YtgfpmlildhbboaaViThree
import Derived.KernelRfl
import Derived.Test.YtgfpmlildhbboaaProg
import Derived.Test.YtgfpmlildhbboaaCpm
set_option linter.unnecessarySimpa false
set_option linter.unusedVariables false
set_option linter.unusedSectionVars false
set_option linter.unusedSimpArgs false
set_option autoImplicit false
namespace Vs
open Go Vi Go.Proofs
def tbl : List (Nat × Option TI) := [
  (1, some { de := .ot, n := 1, bytes := 8, ag := false, zero := [.nilf], ty := none }),
  (2, some { de := .sc, n := 1, bytes := 8, ag := false, zero := [.v (.int .i64) (0 : Int)], ty := some (.int .i64) }),
  (3, some { de := .sc, n := 1, bytes := 8, ag := false, zero := [.v (.int .i64) (0 : Int)], ty := some (.int .i64) }),
  (4, some { de := .sc, n := 1, bytes := 1, ag := false, zero := [.v .bool false], ty := some .bool }),
  (5, some { de := .sc, n := 1, bytes := 1, ag := false, zero := [.v (.int .u8) (0 : Int)], ty := some (.int .u8) }),
  (6, some { de := .sc, n := 1, bytes := 1, ag := false, zero := [.v (.int .u8) (0 : Int)], ty := some (.int .u8) }),
  (7, some { de := .st [(0, 2), (1, 3), (2, 4), (3, 6)], n := 4, bytes := 24, ag := true, zero := [.v (.int .i64) (0 : Int), .v (.int .i64) (0 : Int), .v .bool false, .v (.int .u8) (0 : Int)], ty := some (.pair (.int .i64) (.pair (.int .i64) (.pair .bool (.int .u8)))) }),
  (8, some { de := .st [(0, 2), (1, 3), (2, 4), (3, 6)], n := 4, bytes := 24, ag := true, zero := [.v (.int .i64) (0 : Int), .v (.int .i64) (0 : Int), .v .bool false, .v (.int .u8) (0 : Int)], ty := some (.pair (.int .i64) (.pair (.int .i64) (.pair .bool (.int .u8)))) }),
  (9, some { de := .sc, n := 1, bytes := 16, ag := false, zero := [.v .str ([] : Str)], ty := some .str }),
  (10, some { de := .sc, n := 1, bytes := 16, ag := false, zero := [.v .str ([] : Str)], ty := some .str }),
  (11, some { de := .sc, n := 1, bytes := 16, ag := false, zero := [.v .str ([] : Str)], ty := some .str }),
  (12, some { de := .sc, n := 1, bytes := 8, ag := false, zero := [.v (.int .u64) (0 : Int)], ty := some (.int .u64) }),
  (13, some { de := .st [(0, 9), (1, 12)], n := 2, bytes := 24, ag := true, zero := [.v .str ([] : Str), .v (.int .u64) (0 : Int)], ty := some (.pair .str (.int .u64)) }),
  (14, some { de := .st [(0, 9), (1, 12)], n := 2, bytes := 24, ag := true, zero := [.v .str ([] : Str), .v (.int .u64) (0 : Int)], ty := some (.pair .str (.int .u64)) }),
  (15, some { de := .pt 150, n := 1, bytes := 8, ag := false, zero := [.nilp], ty := none }),
  (16, some { de := .pt 153, n := 1, bytes := 8, ag := false, zero := [.nilp], ty := none }),
  (17, some { de := .pt 162, n := 1, bytes := 8, ag := false, zero := [.nilp], ty := none }),
  (18, some { de := .st [(0, 17)], n := 1, bytes := 8, ag := true, zero := [.nilp], ty := none }),
  (19, some { de := .st [(0, 17)], n := 1, bytes := 8, ag := true, zero := [.nilp], ty := none }),
  (22, some { de := .sl 9, n := 1, bytes := 24, ag := false, zero := [.nils], ty := some (.sl .str) }),
  (25, some { de := .sl 31, n := 1, bytes := 24, ag := false, zero := [.nils], ty := some (.sl (.pair (.int .i64) (.pair (.int .i64) .bool))) }),
  (27, some { de := .sl 62, n := 1, bytes := 24, ag := false, zero := [.nils], ty := some (.sl (.pair (.int .i64) (.pair (.int .i64) .bool))) }),
  (29, some { de := .ot, n := 1, bytes := 8, ag := false, zero := [.nilf], ty := none }),
  (30, some { de := .st [(0, 3), (1, 3), (2, 4)], n := 3, bytes := 24, ag := true, zero := [.v (.int .i64) (0 : Int), .v (.int .i64) (0 : Int), .v .bool false], ty := some (.pair (.int .i64) (.pair (.int .i64) .bool)) }),
  (31, some { de := .st [(0, 3), (1, 3), (2, 4)], n := 3, bytes := 24, ag := true, zero := [.v (.int .i64) (0 : Int), .v (.int .i64) (0 : Int), .v .bool false], ty := some (.pair (.int .i64) (.pair (.int .i64) .bool)) }),
  (33, some { de := .sl 80, n := 1, bytes := 24, ag := false, zero := [.nils], ty := some (.sl .node) }),
  (37, some { de := .ot, n := 1, bytes := 8, ag := false, zero := [.nilf], ty := none }),
  (41, some { de := .st [(0, 22), (1, 3)], n := 2, bytes := 32, ag := true, zero := [.nils, .v (.int .i64) (0 : Int)], ty := some (.pair (.sl .str) (.int .i64)) }),
  (42, some { de := .st [(0, 22), (1, 3)], n := 2, bytes := 32, ag := true, zero := [.nils, .v (.int .i64) (0 : Int)], ty := some (.pair (.sl .str) (.int .i64)) }),
  (44, some { de := .sl 54, n := 1, bytes := 24, ag := false, zero := [.nils], ty := some (.sl (.pair (.int .i64) (.pair (.pair (.int .i64) (.int .i64)) (.pair (.pair (.int .i64) (.int .i64)) (.pair (.int .i64) (.int .i64)))))) }),
  (47, some { de := .sl 86, n := 1, bytes := 24, ag := false, zero := [.nils], ty := some (.sl (.pair (.int .i64) (.pair (.arr 3 (.int .i64)) (.arr 3 (.int .i64))))) }),
  (51, some { de := .st [(0, 3), (1, 3)], n := 2, bytes := 16, ag := true, zero := [.v (.int .i64) (0 : Int), .v (.int .i64) (0 : Int)], ty := some (.pair (.int .i64) (.int .i64)) }),
  (52, some { de := .st [(0, 3), (1, 3)], n := 2, bytes := 16, ag := true, zero := [.v (.int .i64) (0 : Int), .v (.int .i64) (0 : Int)], ty := some (.pair (.int .i64) (.int .i64)) }),
  (53, some { de := .st [(0, 3), (1, 52), (3, 52), (5, 52)], n := 7, bytes := 56, ag := true, zero := [.v (.int .i64) (0 : Int), .v (.int .i64) (0 : Int), .v (.int .i64) (0 : Int), .v (.int .i64) (0 : Int), .v (.int .i64) (0 : Int), .v (.int .i64) (0 : Int), .v (.int .i64) (0 : Int)], ty := some (.pair (.int .i64) (.pair (.pair (.int .i64) (.int .i64)) (.pair (.pair (.int .i64) (.int .i64)) (.pair (.int .i64) (.int .i64))))) }),
  (54, some { de := .st [(0, 3), (1, 52), (3, 52), (5, 52)], n := 7, bytes := 56, ag := true, zero := [.v (.int .i64) (0 : Int), .v (.int .i64) (0 : Int), .v (.int .i64) (0 : Int), .v (.int .i64) (0 : Int), .v (.int .i64) (0 : Int), .v (.int .i64) (0 : Int), .v (.int .i64) (0 : Int)], ty := some (.pair (.int .i64) (.pair (.pair (.int .i64) (.int .i64)) (.pair (.pair (.int .i64) (.int .i64)) (.pair (.int .i64) (.int .i64))))) }),
  (59, some { de := .st [(0, 33), (1, 3)], n := 2, bytes := 32, ag := true, zero := [.nils, .v (.int .i64) (0 : Int)], ty := some (.pair (.sl .node) (.int .i64)) }),
  (60, some { de := .st [(0, 33), (1, 3)], n := 2, bytes := 32, ag := true, zero := [.nils, .v (.int .i64) (0 : Int)], ty := some (.pair (.sl .node) (.int .i64)) }),
  (62, some { de := .st [(0, 3), (1, 3), (2, 4)], n := 3, bytes := 24, ag := true, zero := [.v (.int .i64) (0 : Int), .v (.int .i64) (0 : Int), .v .bool false], ty := some (.pair (.int .i64) (.pair (.int .i64) .bool)) }),
  (63, some { de := .sl 65, n := 1, bytes := 24, ag := false, zero := [.nils], ty := some (.sl (.sl (.int .i64))) }),
  (65, some { de := .sl 3, n := 1, bytes := 24, ag := false, zero := [.nils], ty := some (.sl (.int .i64)) }),
  (66, some { de := .sl 69, n := 1, bytes := 24, ag := false, zero := [.nils], ty := some (.sl (.one (.sl (.int .i64)))) }),
  (68, some { de := .st [(0, 65)], n := 1, bytes := 24, ag := true, zero := [.nils], ty := some (.one (.sl (.int .i64))) }),
  (69, some { de := .st [(0, 65)], n := 1, bytes := 24, ag := true, zero := [.nils], ty := some (.one (.sl (.int .i64))) }),
  (71, some { de := .pt 73, n := 1, bytes := 8, ag := false, zero := [.nilp], ty := none }),
  (72, some { de := .st [(0, 3)], n := 1, bytes := 8, ag := true, zero := [.v (.int .i64) (0 : Int)], ty := some (.one (.int .i64)) }),
  (73, some { de := .st [(0, 3)], n := 1, bytes := 8, ag := true, zero := [.v (.int .i64) (0 : Int)], ty := some (.one (.int .i64)) }),
  (75, some { de := .ot, n := 1, bytes := 8, ag := false, zero := [.nilf], ty := none }),
  (76, some { de := .st [(0, 3), (1, 3), (2, 3), (3, 3)], n := 4, bytes := 32, ag := true, zero := [.v (.int .i64) (0 : Int), .v (.int .i64) (0 : Int), .v (.int .i64) (0 : Int), .v (.int .i64) (0 : Int)], ty := some (.pair (.int .i64) (.pair (.int .i64) (.pair (.int .i64) (.int .i64)))) }),
  (77, some { de := .st [(0, 3), (1, 3), (2, 3), (3, 3)], n := 4, bytes := 32, ag := true, zero := [.v (.int .i64) (0 : Int), .v (.int .i64) (0 : Int), .v (.int .i64) (0 : Int), .v (.int .i64) (0 : Int)], ty := some (.pair (.int .i64) (.pair (.int .i64) (.pair (.int .i64) (.int .i64)))) }),
  (78, some { de := .sl 108, n := 1, bytes := 24, ag := false, zero := [.nils], ty := some (.sl (.pair .str .str)) }),
  (79, some { de := .st [(0, 3), (1, 3), (2, 9), (3, 78), (4, 9), (5, 33)], n := 6, bytes := 96, ag := true, zero := [.v (.int .i64) (0 : Int), .v (.int .i64) (0 : Int), .v .str ([] : Str), .nils, .v .str ([] : Str), .nils], ty := some (.pair (.int .i64) (.pair (.int .i64) (.pair .str (.pair (.sl (.pair .str .str)) (.pair .str (.sl .node)))))) }),
  (80, some { de := .st [(0, 3), (1, 3), (2, 9), (3, 78), (4, 9), (5, 33)], n := 6, bytes := 96, ag := true, zero := [.v (.int .i64) (0 : Int), .v (.int .i64) (0 : Int), .v .str ([] : Str), .nils, .v .str ([] : Str), .nils], ty := some .node }),
  (82, some { de := .ot, n := 1, bytes := 8, ag := false, zero := [.nilf], ty := none }),
  (84, some { de := .ar 3 3, n := 3, bytes := 24, ag := true, zero := [.v (.int .i64) (0 : Int), .v (.int .i64) (0 : Int), .v (.int .i64) (0 : Int)], ty := some (.arr 3 (.int .i64)) }),
  (85, some { de := .st [(0, 3), (1, 84), (4, 84)], n := 7, bytes := 56, ag := true, zero := [.v (.int .i64) (0 : Int), .v (.int .i64) (0 : Int), .v (.int .i64) (0 : Int), .v (.int .i64) (0 : Int), .v (.int .i64) (0 : Int), .v (.int .i64) (0 : Int), .v (.int .i64) (0 : Int)], ty := some (.pair (.int .i64) (.pair (.arr 3 (.int .i64)) (.arr 3 (.int .i64)))) }),
  (86, some { de := .st [(0, 3), (1, 84), (4, 84)], n := 7, bytes := 56, ag := true, zero := [.v (.int .i64) (0 : Int), .v (.int .i64) (0 : Int), .v (.int .i64) (0 : Int), .v (.int .i64) (0 : Int), .v (.int .i64) (0 : Int), .v (.int .i64) (0 : Int), .v (.int .i64) (0 : Int)], ty := some (.pair (.int .i64) (.pair (.arr 3 (.int .i64)) (.arr 3 (.int .i64)))) }),
  (88, some { de := .st [(0, 22), (1, 22), (2, 22), (3, 29)], n := 4, bytes := 80, ag := true, zero := [.nils, .nils, .nils, .nilf], ty := none }),
  (89, some { de := .st [(0, 22), (1, 22), (2, 22), (3, 29)], n := 4, bytes := 80, ag := true, zero := [.nils, .nils, .nils, .nilf], ty := none }),
  (90, some { de := .sl 84, n := 1, bytes := 24, ag := false, zero := [.nils], ty := some (.sl (.arr 3 (.int .i64))) }),
  (95, some { de := .ot, n := 1, bytes := 8, ag := false, zero := [.nilf], ty := none }),
  (97, some { de := .st [(0, 33), (1, 33), (2, 33), (3, 37)], n := 4, bytes := 80, ag := true, zero := [.nils, .nils, .nils, .nilf], ty := none }),
  (98, some { de := .st [(0, 33), (1, 33), (2, 33), (3, 37)], n := 4, bytes := 80, ag := true, zero := [.nils, .nils, .nils, .nilf], ty := none }),
  (103, some { de := .pt 105, n := 1, bytes := 8, ag := false, zero := [.nilp], ty := none }),
  (104, some { de := .st [(0, 3)], n := 1, bytes := 8, ag := true, zero := [.v (.int .i64) (0 : Int)], ty := some (.one (.int .i64)) }),
  (105, some { de := .st [(0, 3)], n := 1, bytes := 8, ag := true, zero := [.v (.int .i64) (0 : Int)], ty := some (.one (.int .i64)) }),
  (107, some { de := .st [(0, 9), (1, 9)], n := 2, bytes := 32, ag := true, zero := [.v .str ([] : Str), .v .str ([] : Str)], ty := some (.pair .str .str) }),
  (108, some { de := .st [(0, 9), (1, 9)], n := 2, bytes := 32, ag := true, zero := [.v .str ([] : Str), .v .str ([] : Str)], ty := some (.pair .str .str) }),
  (109, some { de := .pt 112, n := 1, bytes := 8, ag := false, zero := [.nilp], ty := none }),
  (110, some { de := .sl 5, n := 1, bytes := 24, ag := false, zero := [.nils], ty := some (.sl (.int .u8)) }),
  (111, some { de := .st [(0, 109), (1, 110)], n := 2, bytes := 32, ag := true, zero := [.nilp, .nils], ty := none }),
  (112, some { de := .st [(0, 109), (1, 110)], n := 2, bytes := 32, ag := true, zero := [.nilp, .nils], ty := none }),
  (129, some { de := .ot, n := 1, bytes := 8, ag := false, zero := [.nilf], ty := none }),
  (134, some { de := .ot, n := 1, bytes := 8, ag := false, zero := [.nilf], ty := none }),
  (135, some { de := .pt 5, n := 1, bytes := 8, ag := false, zero := [.nilp], ty := none }),
  (137, some { de := .ot, n := 1, bytes := 8, ag := false, zero := [.nilf], ty := none }),
  (145, some { de := .ot, n := 1, bytes := 8, ag := false, zero := [.nilf], ty := none }),
  (150, some { de := .st [(0, 17), (1, 17), (2, 17), (3, 9)], n := 4, bytes := 40, ag := true, zero := [.nilp, .nilp, .nilp, .v .str ([] : Str)], ty := none }),
  (153, some { de := .st [(0, 151)], n := 0, bytes := 0, ag := true, zero := [], ty := none }),
  (157, some { de := .sc, n := 1, bytes := 1, ag := false, zero := [.v (.int .u8) (0 : Int)], ty := some (.int .u8) }),
  (162, some { de := .st [(0, 12), (1, 12), (2, 155), (3, 156), (4, 5), (5, 5), (6, 157), (7, 158), (8, 135), (9, 159), (10, 160)], n := 11, bytes := 48, ag := true, zero := [.v (.int .u64) (0 : Int), .v (.int .u64) (0 : Int), .v (.int .u32) (0 : Int), .v (.int .u8) (0 : Int), .v (.int .u8) (0 : Int), .v (.int .u8) (0 : Int), .v (.int .u8) (0 : Int), .nilf, .nilp, .v (.int .i32) (0 : Int), .v (.int .i32) (0 : Int)], ty := none })
]
def etbl : List (Nat × Option Ty) := [(31, some (.pair (.int .i64) (.pair (.int .i64) .bool))), (52, some (.pair (.int .i64) (.int .i64))), (84, some (.arr 3 (.int .i64))), (108, some (.pair .str .str))]

def ti : Nat → Option TI := fun t => find none tbl t
def eqt : Nat → Option Ty := fun t => find none etbl t
theorem tOk : tblB Try.prog tbl = true := by kernel_rfl
theorem eOk : eqTblB Try.prog ti etbl = true := by kernel_rfl
theorem fol : Try.prog.follows .mixedOrders = true := by kernel_rfl
def mkCx (l : List (Nat × List Ctr)) (win : Bool := false) : Cx := { win := win, ti := ti, fs := fun f => find [] l f, eqt := eqt, rr := fun t => memb t [63], u8 := fun e => memb e [5], cpy := fun f => find none [(86, some 112)] f }
theorem cxOk (l : List (Nat × List Ctr)) {win : Bool} : CxOk (mkCx l win) Try.prog := cxOk_of (l := tbl) rfl tOk
theorem eqOk (l : List (Nat × List Ctr)) {win : Bool} : EqOk (mkCx l win) Try.prog := eqOk_of (l := etbl) (cxOk l) rfl eOk (u8Ok_of (l := [5]) rfl (by kernel_rfl)) cpyAll
theorem mk_ok (l : List (Nat × List Ctr)) {win : Bool} (hl : CtrsOk Try.prog l) {f : Nat} {fn : Func} {c : Ctr} {an : Ann} {outs : List Pat} {v : c.inp.V} {r : (p : Pat) × p.V} (hfn : Try.prog.funcs[f]? = some fn) (hk : c.k0 ≤ c.inp.ents.length)
    (hvc : fnVc (mkCx l win) an c.k0 fn c.inp outs v (fun r' => r' = r)) : SoundAt Try.prog f c v r := fn_ok fol (cxOk l) (eqOk l) (fsOk_of rfl hl) hfn hk hvc
end Vs
