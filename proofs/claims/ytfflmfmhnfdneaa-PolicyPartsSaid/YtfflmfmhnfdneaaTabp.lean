/- The types of the program, checked. -/
import Derived.Test.YtfflmfmhnfdneaaViThree
import Derived.KernelRfl
import Derived.Test.YtfflmfmhnfdneaaProg
import Derived.Test.YtfflmfmhnfdneaaCpp
set_option linter.unnecessarySimpa false
set_option linter.unusedVariables false
set_option linter.unusedSectionVars false
set_option linter.unusedSimpArgs false
set_option autoImplicit false
namespace Vs
open Go Vi Go.Proofs
def tbl : List (Nat × Option TI) := [
  (1, some { de := .ot, n := 1, bytes := 8, ag := false, zero := [.nilf], ty := none }),
  (2, some { de := .sc, n := 1, bytes := 8, ag := false, zero := [.v (.int .i64) (0 : Int)], ty := some (.int .i64) }),
  (3, some { de := .sc, n := 1, bytes := 8, ag := false, zero := [.v (.int .i64) (0 : Int)], ty := some (.int .i64) }),
  (4, some { de := .sc, n := 1, bytes := 1, ag := false, zero := [.v .bool false], ty := some .bool }),
  (5, some { de := .sc, n := 1, bytes := 1, ag := false, zero := [.v (.int .u8) (0 : Int)], ty := some (.int .u8) }),
  (6, some { de := .sc, n := 1, bytes := 1, ag := false, zero := [.v (.int .u8) (0 : Int)], ty := some (.int .u8) }),
  (7, some { de := .st [(0, 2), (1, 3), (2, 4), (3, 6)], n := 4, bytes := 24, ag := true, zero := [.v (.int .i64) (0 : Int), .v (.int .i64) (0 : Int), .v .bool false, .v (.int .u8) (0 : Int)], ty := some (.pair (.int .i64) (.pair (.int .i64) (.pair .bool (.int .u8)))) }),
  (8, some { de := .st [(0, 2), (1, 3), (2, 4), (3, 6)], n := 4, bytes := 24, ag := true, zero := [.v (.int .i64) (0 : Int), .v (.int .i64) (0 : Int), .v .bool false, .v (.int .u8) (0 : Int)], ty := some (.pair (.int .i64) (.pair (.int .i64) (.pair .bool (.int .u8)))) }),
  (9, some { de := .sc, n := 1, bytes := 16, ag := false, zero := [.v .str ([] : Str)], ty := some .str }),
  (10, some { de := .sc, n := 1, bytes := 16, ag := false, zero := [.v .str ([] : Str)], ty := some .str }),
  (11, some { de := .sc, n := 1, bytes := 16, ag := false, zero := [.v .str ([] : Str)], ty := some .str }),
  (12, some { de := .sc, n := 1, bytes := 8, ag := false, zero := [.v (.int .u64) (0 : Int)], ty := some (.int .u64) }),
  (13, some { de := .st [(0, 9), (1, 12)], n := 2, bytes := 24, ag := true, zero := [.v .str ([] : Str), .v (.int .u64) (0 : Int)], ty := some (.pair .str (.int .u64)) }),
  (14, some { de := .st [(0, 9), (1, 12)], n := 2, bytes := 24, ag := true, zero := [.v .str ([] : Str), .v (.int .u64) (0 : Int)], ty := some (.pair .str (.int .u64)) }),
  (15, some { de := .pt 128, n := 1, bytes := 8, ag := false, zero := [.nilp], ty := none }),
  (16, some { de := .pt 131, n := 1, bytes := 8, ag := false, zero := [.nilp], ty := none }),
  (17, some { de := .pt 139, n := 1, bytes := 8, ag := false, zero := [.nilp], ty := none }),
  (18, some { de := .st [(0, 17)], n := 1, bytes := 8, ag := true, zero := [.nilp], ty := none }),
  (19, some { de := .st [(0, 17)], n := 1, bytes := 8, ag := true, zero := [.nilp], ty := none }),
  (22, some { de := .sl 53, n := 1, bytes := 24, ag := false, zero := [.nils], ty := some (.sl (.pair .str (.pair (.int .i64) (.pair (.sl .str) (.sl .str))))) }),
  (23, some { de := .sl 9, n := 1, bytes := 24, ag := false, zero := [.nils], ty := some (.sl .str) }),
  (24, some { de := .st [(0, 22), (1, 23), (2, 3), (3, 3)], n := 4, bytes := 64, ag := true, zero := [.nils, .nils, .v (.int .i64) (0 : Int), .v (.int .i64) (0 : Int)], ty := some (.pair (.sl (.pair .str (.pair (.int .i64) (.pair (.sl .str) (.sl .str))))) (.pair (.sl .str) (.pair (.int .i64) (.int .i64)))) }),
  (25, some { de := .st [(0, 22), (1, 23), (2, 3), (3, 3)], n := 4, bytes := 64, ag := true, zero := [.nils, .nils, .v (.int .i64) (0 : Int), .v (.int .i64) (0 : Int)], ty := some (.pair (.sl (.pair .str (.pair (.int .i64) (.pair (.sl .str) (.sl .str))))) (.pair (.sl .str) (.pair (.int .i64) (.int .i64)))) }),
  (26, some { de := .ot, n := 1, bytes := 8, ag := false, zero := [.nilf], ty := none }),
  (28, some { de := .sl 36, n := 1, bytes := 24, ag := false, zero := [.nils], ty := some (.sl (.pair .str (.pair (.int .i64) (.pair (.sl .str) (.sl .str))))) }),
  (29, some { de := .st [(0, 28), (1, 23), (2, 3), (3, 3)], n := 4, bytes := 64, ag := true, zero := [.nils, .nils, .v (.int .i64) (0 : Int), .v (.int .i64) (0 : Int)], ty := some (.pair (.sl (.pair .str (.pair (.int .i64) (.pair (.sl .str) (.sl .str))))) (.pair (.sl .str) (.pair (.int .i64) (.int .i64)))) }),
  (30, some { de := .st [(0, 28), (1, 23), (2, 3), (3, 3)], n := 4, bytes := 64, ag := true, zero := [.nils, .nils, .v (.int .i64) (0 : Int), .v (.int .i64) (0 : Int)], ty := some (.pair (.sl (.pair .str (.pair (.int .i64) (.pair (.sl .str) (.sl .str))))) (.pair (.sl .str) (.pair (.int .i64) (.int .i64)))) }),
  (35, some { de := .st [(0, 9), (1, 3), (2, 23), (3, 23)], n := 4, bytes := 72, ag := true, zero := [.v .str ([] : Str), .v (.int .i64) (0 : Int), .nils, .nils], ty := some (.pair .str (.pair (.int .i64) (.pair (.sl .str) (.sl .str)))) }),
  (36, some { de := .st [(0, 9), (1, 3), (2, 23), (3, 23)], n := 4, bytes := 72, ag := true, zero := [.v .str ([] : Str), .v (.int .i64) (0 : Int), .nils, .nils], ty := some (.pair .str (.pair (.int .i64) (.pair (.sl .str) (.sl .str)))) }),
  (37, some { de := .sc, n := 1, bytes := 8, ag := false, zero := [.v (.int .i64) (0 : Int)], ty := some (.int .i64) }),
  (40, some { de := .sl 45, n := 1, bytes := 24, ag := false, zero := [.nils], ty := some (.sl (.pair .str .str)) }),
  (41, some { de := .sl 43, n := 1, bytes := 24, ag := false, zero := [.nils], ty := some (.sl .node) }),
  (42, some { de := .st [(0, 3), (1, 3), (2, 9), (3, 40), (4, 9), (5, 41)], n := 6, bytes := 96, ag := true, zero := [.v (.int .i64) (0 : Int), .v (.int .i64) (0 : Int), .v .str ([] : Str), .nils, .v .str ([] : Str), .nils], ty := some (.pair (.int .i64) (.pair (.int .i64) (.pair .str (.pair (.sl (.pair .str .str)) (.pair .str (.sl .node)))))) }),
  (43, some { de := .st [(0, 3), (1, 3), (2, 9), (3, 40), (4, 9), (5, 41)], n := 6, bytes := 96, ag := true, zero := [.v (.int .i64) (0 : Int), .v (.int .i64) (0 : Int), .v .str ([] : Str), .nils, .v .str ([] : Str), .nils], ty := some .node }),
  (44, some { de := .st [(0, 9), (1, 9)], n := 2, bytes := 32, ag := true, zero := [.v .str ([] : Str), .v .str ([] : Str)], ty := some (.pair .str .str) }),
  (45, some { de := .st [(0, 9), (1, 9)], n := 2, bytes := 32, ag := true, zero := [.v .str ([] : Str), .v .str ([] : Str)], ty := some (.pair .str .str) }),
  (53, some { de := .st [(0, 9), (1, 3), (2, 23), (3, 23)], n := 4, bytes := 72, ag := true, zero := [.v .str ([] : Str), .v (.int .i64) (0 : Int), .nils, .nils], ty := some (.pair .str (.pair (.int .i64) (.pair (.sl .str) (.sl .str)))) }),
  (54, some { de := .st [(0, 26), (1, 37)], n := 2, bytes := 16, ag := true, zero := [.nilf, .v (.int .i64) (0 : Int)], ty := none }),
  (55, some { de := .st [(0, 26), (1, 37)], n := 2, bytes := 16, ag := true, zero := [.nilf, .v (.int .i64) (0 : Int)], ty := none }),
  (56, some { de := .sl 55, n := 1, bytes := 24, ag := false, zero := [.nils], ty := none }),
  (65, some { de := .pt 67, n := 1, bytes := 8, ag := false, zero := [.nilp], ty := none }),
  (66, some { de := .st [(0, 3)], n := 1, bytes := 8, ag := true, zero := [.v (.int .i64) (0 : Int)], ty := some (.one (.int .i64)) }),
  (67, some { de := .st [(0, 3)], n := 1, bytes := 8, ag := true, zero := [.v (.int .i64) (0 : Int)], ty := some (.one (.int .i64)) }),
  (73, some { de := .ot, n := 1, bytes := 8, ag := false, zero := [.nilf], ty := none }),
  (78, some { de := .ot, n := 1, bytes := 8, ag := false, zero := [.nilf], ty := none }),
  (81, some { de := .sl 5, n := 1, bytes := 24, ag := false, zero := [.nils], ty := some (.sl (.int .u8)) }),
  (84, some { de := .st [(0, 9), (1, 9), (2, 9), (3, 9), (4, 9), (5, 4), (6, 4), (7, 4), (8, 4)], n := 9, bytes := 88, ag := true, zero := [.v .str ([] : Str), .v .str ([] : Str), .v .str ([] : Str), .v .str ([] : Str), .v .str ([] : Str), .v .bool false, .v .bool false, .v .bool false, .v .bool false], ty := some (.pair .str (.pair .str (.pair .str (.pair .str (.pair .str (.pair .bool (.pair .bool (.pair .bool .bool)))))))) }),
  (85, some { de := .st [(0, 9), (1, 9), (2, 9), (3, 9), (4, 9), (5, 4), (6, 4), (7, 4), (8, 4)], n := 9, bytes := 88, ag := true, zero := [.v .str ([] : Str), .v .str ([] : Str), .v .str ([] : Str), .v .str ([] : Str), .v .str ([] : Str), .v .bool false, .v .bool false, .v .bool false, .v .bool false], ty := some (.pair .str (.pair .str (.pair .str (.pair .str (.pair .str (.pair .bool (.pair .bool (.pair .bool .bool)))))))) }),
  (88, some { de := .st [(0, 9), (1, 9), (2, 9), (3, 9), (4, 9), (5, 4), (6, 4), (7, 4), (8, 4)], n := 9, bytes := 88, ag := true, zero := [.v .str ([] : Str), .v .str ([] : Str), .v .str ([] : Str), .v .str ([] : Str), .v .str ([] : Str), .v .bool false, .v .bool false, .v .bool false, .v .bool false], ty := some (.pair .str (.pair .str (.pair .str (.pair .str (.pair .str (.pair .bool (.pair .bool (.pair .bool .bool)))))))) }),
  (96, some { de := .ot, n := 1, bytes := 8, ag := false, zero := [.nilf], ty := none }),
  (97, some { de := .pt 99, n := 1, bytes := 8, ag := false, zero := [.nilp], ty := none }),
  (98, some { de := .st [(0, 9), (1, 88)], n := 10, bytes := 104, ag := true, zero := [.v .str ([] : Str), .v .str ([] : Str), .v .str ([] : Str), .v .str ([] : Str), .v .str ([] : Str), .v .str ([] : Str), .v .bool false, .v .bool false, .v .bool false, .v .bool false], ty := some (.pair .str (.pair .str (.pair .str (.pair .str (.pair .str (.pair .str (.pair .bool (.pair .bool (.pair .bool .bool))))))))) }),
  (99, some { de := .st [(0, 9), (1, 88)], n := 10, bytes := 104, ag := true, zero := [.v .str ([] : Str), .v .str ([] : Str), .v .str ([] : Str), .v .str ([] : Str), .v .str ([] : Str), .v .str ([] : Str), .v .bool false, .v .bool false, .v .bool false, .v .bool false], ty := some (.pair .str (.pair .str (.pair .str (.pair .str (.pair .str (.pair .str (.pair .bool (.pair .bool (.pair .bool .bool))))))))) }),
  (100, some { de := .ar 4 1, n := 4, bytes := 32, ag := true, zero := [.nilf, .nilf, .nilf, .nilf], ty := none }),
  (101, some { de := .sl 23, n := 1, bytes := 24, ag := false, zero := [.nils], ty := some (.sl (.sl .str)) }),
  (103, some { de := .ot, n := 1, bytes := 8, ag := false, zero := [.nilf], ty := none }),
  (106, some { de := .pt 108, n := 1, bytes := 8, ag := false, zero := [.nilp], ty := none }),
  (107, some { de := .st [(0, 106), (1, 81)], n := 2, bytes := 32, ag := true, zero := [.nilp, .nils], ty := none }),
  (108, some { de := .st [(0, 106), (1, 81)], n := 2, bytes := 32, ag := true, zero := [.nilp, .nils], ty := none }),
  (117, some { de := .pt 5, n := 1, bytes := 8, ag := false, zero := [.nilp], ty := none }),
  (124, some { de := .sc, n := 1, bytes := 4, ag := false, zero := [.v (.int .u32) (0 : Int)], ty := some (.int .u32) }),
  (128, some { de := .st [(0, 17), (1, 17), (2, 17), (3, 9)], n := 4, bytes := 40, ag := true, zero := [.nilp, .nilp, .nilp, .v .str ([] : Str)], ty := none }),
  (131, some { de := .st [(0, 129)], n := 0, bytes := 0, ag := true, zero := [], ty := none }),
  (134, some { de := .sc, n := 1, bytes := 1, ag := false, zero := [.v (.int .u8) (0 : Int)], ty := some (.int .u8) }),
  (139, some { de := .st [(0, 12), (1, 12), (2, 124), (3, 133), (4, 5), (5, 5), (6, 134), (7, 135), (8, 117), (9, 136), (10, 137)], n := 11, bytes := 48, ag := true, zero := [.v (.int .u64) (0 : Int), .v (.int .u64) (0 : Int), .v (.int .u32) (0 : Int), .v (.int .u8) (0 : Int), .v (.int .u8) (0 : Int), .v (.int .u8) (0 : Int), .v (.int .u8) (0 : Int), .nilf, .nilp, .v (.int .i32) (0 : Int), .v (.int .i32) (0 : Int)], ty := none })
]
def etbl : List (Nat × Option Ty) := []

def ti : Nat → Option TI := fun t => find none tbl t
def eqt : Nat → Option Ty := fun t => find none etbl t
theorem tOk : tblB Try.prog tbl = true := by kernel_rfl
theorem eOk : eqTblB Try.prog ti etbl = true := by kernel_rfl
theorem fol : Try.prog.follows .mixedOrders = true := by kernel_rfl
def mkCx (l : List (Nat × List Ctr)) (win lits : Bool := false) : Cx := { win := win, lits := lits, ti := ti, fs := fun f => find [] l f, eqt := eqt, rr := fun t => memb t [], u8 := fun e => memb e [5], cpy := fun f => find none [(90, some 108)] f }
theorem cxOk (l : List (Nat × List Ctr)) {win lits : Bool} : CxOk (mkCx l win lits) Try.prog := cxOk_of (l := tbl) rfl tOk
theorem eqOk (l : List (Nat × List Ctr)) {win lits : Bool} : EqOk (mkCx l win lits) Try.prog := eqOk_of (l := etbl) (cxOk l) rfl eOk (u8Ok_of (l := [5]) rfl (by kernel_rfl)) cpyAll
theorem mk_ok (l : List (Nat × List Ctr)) {win lits : Bool} (hl : CtrsOk Try.prog l) {f : Nat} {fn : Func} {c : Ctr} {an : Ann} {outs : List Pat} {v : c.inp.V} {r : (p : Pat) × p.V} (hfn : Try.prog.funcs[f]? = some fn) (hk : c.k0 ≤ c.inp.ents.length)
    (hvc : fnVc (mkCx l win lits) an c.k0 fn c.inp outs v (fun r' => r' = r)) : SoundAt Try.prog f c v r := fn_ok fol (cxOk l) (eqOk l) (fsOk_of rfl hl) hfn hk hvc
end Vs
