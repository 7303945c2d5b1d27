/- The types of the program, checked. -/
import Derived.Test.YtpgodffogmgnhaaViThree
import Derived.KernelRfl
import Derived.Test.YtpgodffogmgnhaaProg
import Derived.Test.YtpgodffogmgnhaaCpl
set_option linter.unnecessarySimpa false
set_option linter.unusedVariables false
set_option linter.unusedSectionVars false
set_option linter.unusedSimpArgs false
set_option autoImplicit false
namespace Vs
open Go Vi Go.Proofs
def tbl : List (Nat × Option TI) := [
  (1, some { de := .ot, n := 1, bytes := 8, ag := false, zero := [.nilf], ty := none }),
  (2, some { de := .sc, n := 1, bytes := 8, ag := false, zero := [.v (.int .i64) (0 : Int)], ty := some (.int .i64) }),
  (3, some { de := .sc, n := 1, bytes := 8, ag := false, zero := [.v (.int .i64) (0 : Int)], ty := some (.int .i64) }),
  (4, some { de := .sc, n := 1, bytes := 1, ag := false, zero := [.v .bool false], ty := some .bool }),
  (5, some { de := .sc, n := 1, bytes := 1, ag := false, zero := [.v (.int .u8) (0 : Int)], ty := some (.int .u8) }),
  (6, some { de := .sc, n := 1, bytes := 1, ag := false, zero := [.v (.int .u8) (0 : Int)], ty := some (.int .u8) }),
  (7, some { de := .st [(0, 2), (1, 3), (2, 4), (3, 6)], n := 4, bytes := 24, ag := true, zero := [.v (.int .i64) (0 : Int), .v (.int .i64) (0 : Int), .v .bool false, .v (.int .u8) (0 : Int)], ty := some (.pair (.int .i64) (.pair (.int .i64) (.pair .bool (.int .u8)))) }),
  (8, some { de := .st [(0, 2), (1, 3), (2, 4), (3, 6)], n := 4, bytes := 24, ag := true, zero := [.v (.int .i64) (0 : Int), .v (.int .i64) (0 : Int), .v .bool false, .v (.int .u8) (0 : Int)], ty := some (.pair (.int .i64) (.pair (.int .i64) (.pair .bool (.int .u8)))) }),
  (9, some { de := .sc, n := 1, bytes := 16, ag := false, zero := [.v .str ([] : Str)], ty := some .str }),
  (10, some { de := .sc, n := 1, bytes := 16, ag := false, zero := [.v .str ([] : Str)], ty := some .str }),
  (11, some { de := .sc, n := 1, bytes := 16, ag := false, zero := [.v .str ([] : Str)], ty := some .str }),
  (12, some { de := .sc, n := 1, bytes := 8, ag := false, zero := [.v (.int .u64) (0 : Int)], ty := some (.int .u64) }),
  (13, some { de := .st [(0, 9), (1, 12)], n := 2, bytes := 24, ag := true, zero := [.v .str ([] : Str), .v (.int .u64) (0 : Int)], ty := some (.pair .str (.int .u64)) }),
  (14, some { de := .st [(0, 9), (1, 12)], n := 2, bytes := 24, ag := true, zero := [.v .str ([] : Str), .v (.int .u64) (0 : Int)], ty := some (.pair .str (.int .u64)) }),
  (15, some { de := .pt 186, n := 1, bytes := 8, ag := false, zero := [.nilp], ty := none }),
  (16, some { de := .pt 189, n := 1, bytes := 8, ag := false, zero := [.nilp], ty := none }),
  (17, some { de := .pt 196, n := 1, bytes := 8, ag := false, zero := [.nilp], ty := none }),
  (18, some { de := .st [(0, 17)], n := 1, bytes := 8, ag := true, zero := [.nilp], ty := none }),
  (19, some { de := .st [(0, 17)], n := 1, bytes := 8, ag := true, zero := [.nilp], ty := none }),
  (22, some { de := .pt 96, n := 1, bytes := 8, ag := false, zero := [.nilp], ty := none }),
  (23, some { de := .sc, n := 1, bytes := 8, ag := false, zero := [.v (.int .i64) (0 : Int)], ty := some (.int .i64) }),
  (27, some { de := .pt 68, n := 1, bytes := 8, ag := false, zero := [.nilp], ty := none }),
  (31, some { de := .pt 116, n := 1, bytes := 8, ag := false, zero := [.nilp], ty := none }),
  (34, some { de := .pt 44, n := 1, bytes := 8, ag := false, zero := [.nilp], ty := none }),
  (35, some { de := .st [(0, 34), (1, 3)], n := 2, bytes := 16, ag := true, zero := [.nilp, .v (.int .i64) (0 : Int)], ty := none }),
  (36, some { de := .st [(0, 34), (1, 3)], n := 2, bytes := 16, ag := true, zero := [.nilp, .v (.int .i64) (0 : Int)], ty := none }),
  (38, some { de := .st [(0, 3), (1, 3), (2, 3)], n := 3, bytes := 24, ag := true, zero := [.v (.int .i64) (0 : Int), .v (.int .i64) (0 : Int), .v (.int .i64) (0 : Int)], ty := some (.pair (.int .i64) (.pair (.int .i64) (.int .i64))) }),
  (39, some { de := .st [(0, 3), (1, 3), (2, 3)], n := 3, bytes := 24, ag := true, zero := [.v (.int .i64) (0 : Int), .v (.int .i64) (0 : Int), .v (.int .i64) (0 : Int)], ty := some (.pair (.int .i64) (.pair (.int .i64) (.int .i64))) }),
  (41, some { de := .sl 9, n := 1, bytes := 24, ag := false, zero := [.nils], ty := some (.sl .str) }),
  (44, some { de := .st [(0, 3), (1, 3), (2, 41), (3, 3)], n := 4, bytes := 48, ag := true, zero := [.v (.int .i64) (0 : Int), .v (.int .i64) (0 : Int), .nils, .v (.int .i64) (0 : Int)], ty := some (.pair (.int .i64) (.pair (.int .i64) (.pair (.sl .str) (.int .i64)))) }),
  (52, some { de := .sl 3, n := 1, bytes := 24, ag := false, zero := [.nils], ty := some (.sl (.int .i64)) }),
  (55, some { de := .sl 61, n := 1, bytes := 24, ag := false, zero := [.nils], ty := some (.sl (.pair (.int .i64) (.pair (.int .i64) (.pair .str (.sl (.int .i64)))))) }),
  (57, some { de := .pt 59, n := 1, bytes := 8, ag := false, zero := [.nilp], ty := none }),
  (58, some { de := .st [(0, 22), (1, 27), (2, 31), (3, 34)], n := 4, bytes := 32, ag := true, zero := [.nilp, .nilp, .nilp, .nilp], ty := none }),
  (59, some { de := .st [(0, 22), (1, 27), (2, 31), (3, 34)], n := 4, bytes := 32, ag := true, zero := [.nilp, .nilp, .nilp, .nilp], ty := none }),
  (60, some { de := .st [(0, 3), (1, 3), (2, 9), (3, 52)], n := 4, bytes := 56, ag := true, zero := [.v (.int .i64) (0 : Int), .v (.int .i64) (0 : Int), .v .str ([] : Str), .nils], ty := some (.pair (.int .i64) (.pair (.int .i64) (.pair .str (.sl (.int .i64))))) }),
  (61, some { de := .st [(0, 3), (1, 3), (2, 9), (3, 52)], n := 4, bytes := 56, ag := true, zero := [.v (.int .i64) (0 : Int), .v (.int .i64) (0 : Int), .v .str ([] : Str), .nils], ty := some (.pair (.int .i64) (.pair (.int .i64) (.pair .str (.sl (.int .i64))))) }),
  (64, some { de := .sl 103, n := 1, bytes := 24, ag := false, zero := [.nils], ty := some (.sl (.pair (.int .i64) .str)) }),
  (65, some { de := .st [(0, 3), (1, 4), (2, 52)], n := 3, bytes := 40, ag := true, zero := [.v (.int .i64) (0 : Int), .v .bool false, .nils], ty := some (.pair (.int .i64) (.pair .bool (.sl (.int .i64)))) }),
  (66, some { de := .st [(0, 3), (1, 4), (2, 52)], n := 3, bytes := 40, ag := true, zero := [.v (.int .i64) (0 : Int), .v .bool false, .nils], ty := some (.pair (.int .i64) (.pair .bool (.sl (.int .i64)))) }),
  (68, some { de := .st [(0, 41), (1, 64), (2, 4), (3, 4), (4, 66)], n := 7, bytes := 96, ag := true, zero := [.nils, .nils, .v .bool false, .v .bool false, .v (.int .i64) (0 : Int), .v .bool false, .nils], ty := some (.pair (.sl .str) (.pair (.sl (.pair (.int .i64) .str)) (.pair .bool (.pair .bool (.pair (.int .i64) (.pair .bool (.sl (.int .i64)))))))) }),
  (72, some { de := .st [(0, 3), (1, 3), (2, 41), (3, 4), (4, 52)], n := 5, bytes := 72, ag := true, zero := [.v (.int .i64) (0 : Int), .v (.int .i64) (0 : Int), .nils, .v .bool false, .nils], ty := some (.pair (.int .i64) (.pair (.int .i64) (.pair (.sl .str) (.pair .bool (.sl (.int .i64)))))) }),
  (73, some { de := .st [(0, 3), (1, 3), (2, 41), (3, 4), (4, 52)], n := 5, bytes := 72, ag := true, zero := [.v (.int .i64) (0 : Int), .v (.int .i64) (0 : Int), .nils, .v .bool false, .nils], ty := some (.pair (.int .i64) (.pair (.int .i64) (.pair (.sl .str) (.pair .bool (.sl (.int .i64)))))) }),
  (74, some { de := .sl 73, n := 1, bytes := 24, ag := false, zero := [.nils], ty := some (.sl (.pair (.int .i64) (.pair (.int .i64) (.pair (.sl .str) (.pair .bool (.sl (.int .i64))))))) }),
  (79, some { de := .pt 140, n := 1, bytes := 8, ag := false, zero := [.nilp], ty := none }),
  (85, some { de := .st [(0, 3), (1, 4), (2, 52)], n := 3, bytes := 40, ag := true, zero := [.v (.int .i64) (0 : Int), .v .bool false, .nils], ty := some (.pair (.int .i64) (.pair .bool (.sl (.int .i64)))) }),
  (88, some { de := .ar 4 9, n := 4, bytes := 64, ag := true, zero := [.v .str ([] : Str), .v .str ([] : Str), .v .str ([] : Str), .v .str ([] : Str)], ty := some (.arr 4 .str) }),
  (89, some { de := .ar 4 9, n := 4, bytes := 64, ag := true, zero := [.v .str ([] : Str), .v .str ([] : Str), .v .str ([] : Str), .v .str ([] : Str)], ty := some (.arr 4 .str) }),
  (92, some { de := .sl 89, n := 1, bytes := 24, ag := false, zero := [.nils], ty := some (.sl (.arr 4 .str)) }),
  (94, some { de := .sl 101, n := 1, bytes := 24, ag := false, zero := [.nils], ty := some (.sl (.pair (.int .i64) (.arr 4 .str))) }),
  (96, some { de := .st [(0, 92), (1, 94), (2, 4), (3, 4), (4, 85)], n := 7, bytes := 96, ag := true, zero := [.nils, .nils, .v .bool false, .v .bool false, .v (.int .i64) (0 : Int), .v .bool false, .nils], ty := some (.pair (.sl (.arr 4 .str)) (.pair (.sl (.pair (.int .i64) (.arr 4 .str))) (.pair .bool (.pair .bool (.pair (.int .i64) (.pair .bool (.sl (.int .i64)))))))) }),
  (100, some { de := .st [(0, 3), (1, 89)], n := 5, bytes := 72, ag := true, zero := [.v (.int .i64) (0 : Int), .v .str ([] : Str), .v .str ([] : Str), .v .str ([] : Str), .v .str ([] : Str)], ty := some (.pair (.int .i64) (.arr 4 .str)) }),
  (101, some { de := .st [(0, 3), (1, 89)], n := 5, bytes := 72, ag := true, zero := [.v (.int .i64) (0 : Int), .v .str ([] : Str), .v .str ([] : Str), .v .str ([] : Str), .v .str ([] : Str)], ty := some (.pair (.int .i64) (.arr 4 .str)) }),
  (102, some { de := .st [(0, 3), (1, 9)], n := 2, bytes := 24, ag := true, zero := [.v (.int .i64) (0 : Int), .v .str ([] : Str)], ty := some (.pair (.int .i64) .str) }),
  (103, some { de := .st [(0, 3), (1, 9)], n := 2, bytes := 24, ag := true, zero := [.v (.int .i64) (0 : Int), .v .str ([] : Str)], ty := some (.pair (.int .i64) .str) }),
  (104, some { de := .pt 107, n := 1, bytes := 8, ag := false, zero := [.nilp], ty := none }),
  (105, some { de := .sl 5, n := 1, bytes := 24, ag := false, zero := [.nils], ty := some (.sl (.int .u8)) }),
  (106, some { de := .st [(0, 104), (1, 105)], n := 2, bytes := 32, ag := true, zero := [.nilp, .nils], ty := none }),
  (107, some { de := .st [(0, 104), (1, 105)], n := 2, bytes := 32, ag := true, zero := [.nilp, .nils], ty := none }),
  (116, some { de := .st [(0, 22), (1, 3), (2, 3), (3, 9), (4, 3)], n := 5, bytes := 48, ag := true, zero := [.nilp, .v (.int .i64) (0 : Int), .v (.int .i64) (0 : Int), .v .str ([] : Str), .v (.int .i64) (0 : Int)], ty := none }),
  (119, some { de := .st [(0, 41), (1, 4)], n := 2, bytes := 32, ag := true, zero := [.nils, .v .bool false], ty := some (.pair (.sl .str) .bool) }),
  (120, some { de := .st [(0, 41), (1, 4)], n := 2, bytes := 32, ag := true, zero := [.nils, .v .bool false], ty := some (.pair (.sl .str) .bool) }),
  (122, some { de := .ot, n := 1, bytes := 8, ag := false, zero := [.nilf], ty := none }),
  (123, some { de := .ot, n := 1, bytes := 8, ag := false, zero := [.nilf], ty := none }),
  (135, some { de := .st [(0, 22)], n := 1, bytes := 8, ag := true, zero := [.nilp], ty := none }),
  (136, some { de := .st [(0, 22)], n := 1, bytes := 8, ag := true, zero := [.nilp], ty := none }),
  (137, some { de := .st [(0, 31)], n := 1, bytes := 8, ag := true, zero := [.nilp], ty := none }),
  (138, some { de := .st [(0, 31)], n := 1, bytes := 8, ag := true, zero := [.nilp], ty := none }),
  (140, some { de := .st [(0, 136), (1, 138), (2, 3)], n := 3, bytes := 24, ag := true, zero := [.nilp, .nilp, .v (.int .i64) (0 : Int)], ty := none }),
  (144, some { de := .st [(0, 3), (1, 3), (2, 3), (3, 3)], n := 4, bytes := 32, ag := true, zero := [.v (.int .i64) (0 : Int), .v (.int .i64) (0 : Int), .v (.int .i64) (0 : Int), .v (.int .i64) (0 : Int)], ty := some (.pair (.int .i64) (.pair (.int .i64) (.pair (.int .i64) (.int .i64)))) }),
  (145, some { de := .st [(0, 3), (1, 3), (2, 3), (3, 3)], n := 4, bytes := 32, ag := true, zero := [.v (.int .i64) (0 : Int), .v (.int .i64) (0 : Int), .v (.int .i64) (0 : Int), .v (.int .i64) (0 : Int)], ty := some (.pair (.int .i64) (.pair (.int .i64) (.pair (.int .i64) (.int .i64)))) }),
  (148, some { de := .sc, n := 1, bytes := 8, ag := false, zero := [.v (.int .u64) (0 : Int)], ty := some (.int .u64) }),
  (151, some { de := .ot, n := 1, bytes := 8, ag := false, zero := [.nilf], ty := none }),
  (153, some { de := .pt 5, n := 1, bytes := 8, ag := false, zero := [.nilp], ty := none }),
  (154, some { de := .st [(0, 3), (1, 9), (2, 41), (3, 9), (4, 3)], n := 5, bytes := 72, ag := true, zero := [.v (.int .i64) (0 : Int), .v .str ([] : Str), .nils, .v .str ([] : Str), .v (.int .i64) (0 : Int)], ty := some (.pair (.int .i64) (.pair .str (.pair (.sl .str) (.pair .str (.int .i64))))) }),
  (155, some { de := .st [(0, 3), (1, 9), (2, 41), (3, 9), (4, 3)], n := 5, bytes := 72, ag := true, zero := [.v (.int .i64) (0 : Int), .v .str ([] : Str), .nils, .v .str ([] : Str), .v (.int .i64) (0 : Int)], ty := some (.pair (.int .i64) (.pair .str (.pair (.sl .str) (.pair .str (.int .i64))))) }),
  (163, some { de := .ar 2 9, n := 2, bytes := 32, ag := true, zero := [.v .str ([] : Str), .v .str ([] : Str)], ty := some (.arr 2 .str) }),
  (167, some { de := .sc, n := 1, bytes := 4, ag := false, zero := [.v (.int .u32) (0 : Int)], ty := some (.int .u32) }),
  (170, some { de := .sc, n := 1, bytes := 8, ag := false, zero := [.v (.int .u64) (0 : Int)], ty := some (.int .u64) }),
  (175, some { de := .st [(0, 3), (1, 3)], n := 2, bytes := 16, ag := true, zero := [.v (.int .i64) (0 : Int), .v (.int .i64) (0 : Int)], ty := some (.pair (.int .i64) (.int .i64)) }),
  (176, some { de := .st [(0, 3), (1, 3)], n := 2, bytes := 16, ag := true, zero := [.v (.int .i64) (0 : Int), .v (.int .i64) (0 : Int)], ty := some (.pair (.int .i64) (.int .i64)) }),
  (180, some { de := .ar 4 3, n := 4, bytes := 32, ag := true, zero := [.v (.int .i64) (0 : Int), .v (.int .i64) (0 : Int), .v (.int .i64) (0 : Int), .v (.int .i64) (0 : Int)], ty := some (.arr 4 (.int .i64)) }),
  (186, some { de := .st [(0, 17), (1, 17), (2, 17), (3, 9)], n := 4, bytes := 40, ag := true, zero := [.nilp, .nilp, .nilp, .v .str ([] : Str)], ty := none }),
  (189, some { de := .st [(0, 187)], n := 0, bytes := 0, ag := true, zero := [], ty := none }),
  (191, some { de := .sc, n := 1, bytes := 1, ag := false, zero := [.v (.int .u8) (0 : Int)], ty := some (.int .u8) }),
  (196, some { de := .st [(0, 12), (1, 12), (2, 167), (3, 190), (4, 5), (5, 5), (6, 191), (7, 192), (8, 153), (9, 193), (10, 194)], n := 11, bytes := 48, ag := true, zero := [.v (.int .u64) (0 : Int), .v (.int .u64) (0 : Int), .v (.int .u32) (0 : Int), .v (.int .u8) (0 : Int), .v (.int .u8) (0 : Int), .v (.int .u8) (0 : Int), .v (.int .u8) (0 : Int), .nilf, .nilp, .v (.int .i32) (0 : Int), .v (.int .i32) (0 : Int)], ty := none })
]
def etbl : List (Nat × Option Ty) := []

def ti : Nat → Option TI := fun t => find none tbl t
def eqt : Nat → Option Ty := fun t => find none etbl t
theorem tOk : tblB Try.prog tbl = true := by kernel_rfl
theorem eOk : eqTblB Try.prog ti etbl = true := by kernel_rfl
theorem fol : Try.prog.follows .mixedOrders = true := by kernel_rfl
def mkCx (l : List (Nat × List Ctr)) (win lits : Bool := false) : Cx := { win := win, lits := lits, ti := ti, fs := fun f => find [] l f, eqt := eqt, rr := fun t => memb t [], u8 := fun e => memb e [5], cpy := fun f => find none [(89, some 107)] f }
theorem cxOk (l : List (Nat × List Ctr)) {win lits : Bool} : CxOk (mkCx l win lits) Try.prog := cxOk_of (l := tbl) rfl tOk
theorem eqOk (l : List (Nat × List Ctr)) {win lits : Bool} : EqOk (mkCx l win lits) Try.prog := eqOk_of (l := etbl) (cxOk l) rfl eOk (u8Ok_of (l := [5]) rfl (by kernel_rfl)) cpyAll
theorem mk_ok (l : List (Nat × List Ctr)) {win lits : Bool} (hl : CtrsOk Try.prog l) {f : Nat} {fn : Func} {c : Ctr} {an : Ann} {outs : List Pat} {v : c.inp.V} {r : (p : Pat) × p.V} (hfn : Try.prog.funcs[f]? = some fn) (hk : c.k0 ≤ c.inp.ents.length)
    (hvc : fnVc (mkCx l win lits) an c.k0 fn c.inp outs v (fun r' => r' = r)) : SoundAt Try.prog f c v r := fn_ok fol (cxOk l) (eqOk l) (fsOk_of rfl hl) hfn hk hvc
end Vs
