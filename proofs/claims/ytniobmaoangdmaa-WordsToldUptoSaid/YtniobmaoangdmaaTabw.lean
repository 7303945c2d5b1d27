/- The types of the program, checked. -/
import Derived.Test.YtniobmaoangdmaaViThree
import Derived.KernelRfl
import Derived.Test.YtniobmaoangdmaaProg
import Derived.Test.YtniobmaoangdmaaCpw
set_option linter.unnecessarySimpa false
set_option linter.unusedVariables false
set_option linter.unusedSectionVars false
set_option linter.unusedSimpArgs false
set_option autoImplicit false
namespace Vs
open Go Vi Go.Proofs
def tbl : List (Nat × Option TI) := [
  (1, some { de := .ot, n := 1, bytes := 8, ag := false, zero := [.nilf], ty := none }),
  (2, some { de := .sc, n := 1, bytes := 8, ag := false, zero := [.v (.int .i64) (0 : Int)], ty := some (.int .i64) }),
  (3, some { de := .sc, n := 1, bytes := 8, ag := false, zero := [.v (.int .i64) (0 : Int)], ty := some (.int .i64) }),
  (4, some { de := .sc, n := 1, bytes := 1, ag := false, zero := [.v .bool false], ty := some .bool }),
  (5, some { de := .sc, n := 1, bytes := 1, ag := false, zero := [.v (.int .u8) (0 : Int)], ty := some (.int .u8) }),
  (6, some { de := .sc, n := 1, bytes := 1, ag := false, zero := [.v (.int .u8) (0 : Int)], ty := some (.int .u8) }),
  (7, some { de := .st [(0, 2), (1, 3), (2, 4), (3, 6)], n := 4, bytes := 24, ag := true, zero := [.v (.int .i64) (0 : Int), .v (.int .i64) (0 : Int), .v .bool false, .v (.int .u8) (0 : Int)], ty := some (.pair (.int .i64) (.pair (.int .i64) (.pair .bool (.int .u8)))) }),
  (8, some { de := .st [(0, 2), (1, 3), (2, 4), (3, 6)], n := 4, bytes := 24, ag := true, zero := [.v (.int .i64) (0 : Int), .v (.int .i64) (0 : Int), .v .bool false, .v (.int .u8) (0 : Int)], ty := some (.pair (.int .i64) (.pair (.int .i64) (.pair .bool (.int .u8)))) }),
  (9, some { de := .sc, n := 1, bytes := 16, ag := false, zero := [.v .str ([] : Str)], ty := some .str }),
  (10, some { de := .sc, n := 1, bytes := 16, ag := false, zero := [.v .str ([] : Str)], ty := some .str }),
  (11, some { de := .sc, n := 1, bytes := 16, ag := false, zero := [.v .str ([] : Str)], ty := some .str }),
  (12, some { de := .sc, n := 1, bytes := 8, ag := false, zero := [.v (.int .u64) (0 : Int)], ty := some (.int .u64) }),
  (13, some { de := .st [(0, 9), (1, 12)], n := 2, bytes := 24, ag := true, zero := [.v .str ([] : Str), .v (.int .u64) (0 : Int)], ty := some (.pair .str (.int .u64)) }),
  (14, some { de := .st [(0, 9), (1, 12)], n := 2, bytes := 24, ag := true, zero := [.v .str ([] : Str), .v (.int .u64) (0 : Int)], ty := some (.pair .str (.int .u64)) }),
  (15, some { de := .pt 76, n := 1, bytes := 8, ag := false, zero := [.nilp], ty := none }),
  (16, some { de := .pt 79, n := 1, bytes := 8, ag := false, zero := [.nilp], ty := none }),
  (17, some { de := .pt 88, n := 1, bytes := 8, ag := false, zero := [.nilp], ty := none }),
  (18, some { de := .st [(0, 17)], n := 1, bytes := 8, ag := true, zero := [.nilp], ty := none }),
  (19, some { de := .st [(0, 17)], n := 1, bytes := 8, ag := true, zero := [.nilp], ty := none }),
  (22, some { de := .sl 9, n := 1, bytes := 24, ag := false, zero := [.nils], ty := some (.sl .str) }),
  (26, some { de := .sl 40, n := 1, bytes := 24, ag := false, zero := [.nils], ty := some (.sl (.pair (.int .i64) .str)) }),
  (28, some { de := .sl 42, n := 1, bytes := 24, ag := false, zero := [.nils], ty := some (.sl (.pair (.int .i64) .str)) }),
  (39, some { de := .st [(0, 3), (1, 9)], n := 2, bytes := 24, ag := true, zero := [.v (.int .i64) (0 : Int), .v .str ([] : Str)], ty := some (.pair (.int .i64) .str) }),
  (40, some { de := .st [(0, 3), (1, 9)], n := 2, bytes := 24, ag := true, zero := [.v (.int .i64) (0 : Int), .v .str ([] : Str)], ty := some (.pair (.int .i64) .str) }),
  (42, some { de := .st [(0, 3), (1, 9)], n := 2, bytes := 24, ag := true, zero := [.v (.int .i64) (0 : Int), .v .str ([] : Str)], ty := some (.pair (.int .i64) .str) }),
  (44, some { de := .sl 47, n := 1, bytes := 24, ag := false, zero := [.nils], ty := some (.sl (.pair (.int .i64) (.pair (.int .i64) .bool))) }),
  (46, some { de := .st [(0, 3), (1, 3), (2, 4)], n := 3, bytes := 24, ag := true, zero := [.v (.int .i64) (0 : Int), .v (.int .i64) (0 : Int), .v .bool false], ty := some (.pair (.int .i64) (.pair (.int .i64) .bool)) }),
  (47, some { de := .st [(0, 3), (1, 3), (2, 4)], n := 3, bytes := 24, ag := true, zero := [.v (.int .i64) (0 : Int), .v (.int .i64) (0 : Int), .v .bool false], ty := some (.pair (.int .i64) (.pair (.int .i64) .bool)) }),
  (48, some { de := .sl 50, n := 1, bytes := 24, ag := false, zero := [.nils], ty := some (.sl (.pair (.int .i64) (.pair (.int .i64) .bool))) }),
  (50, some { de := .st [(0, 3), (1, 3), (2, 4)], n := 3, bytes := 24, ag := true, zero := [.v (.int .i64) (0 : Int), .v (.int .i64) (0 : Int), .v .bool false], ty := some (.pair (.int .i64) (.pair (.int .i64) .bool)) }),
  (53, some { de := .ot, n := 1, bytes := 8, ag := false, zero := [.nilf], ty := none }),
  (56, some { de := .sl 58, n := 1, bytes := 24, ag := false, zero := [.nils], ty := some (.sl (.sl (.int .i64))) }),
  (58, some { de := .sl 3, n := 1, bytes := 24, ag := false, zero := [.nils], ty := some (.sl (.int .i64)) }),
  (59, some { de := .sl 62, n := 1, bytes := 24, ag := false, zero := [.nils], ty := some (.sl (.one (.sl (.int .i64)))) }),
  (61, some { de := .st [(0, 58)], n := 1, bytes := 24, ag := true, zero := [.nils], ty := some (.one (.sl (.int .i64))) }),
  (62, some { de := .st [(0, 58)], n := 1, bytes := 24, ag := true, zero := [.nils], ty := some (.one (.sl (.int .i64))) }),
  (63, some { de := .pt 66, n := 1, bytes := 8, ag := false, zero := [.nilp], ty := none }),
  (64, some { de := .sl 5, n := 1, bytes := 24, ag := false, zero := [.nils], ty := some (.sl (.int .u8)) }),
  (65, some { de := .st [(0, 63), (1, 64)], n := 2, bytes := 32, ag := true, zero := [.nilp, .nils], ty := none }),
  (66, some { de := .st [(0, 63), (1, 64)], n := 2, bytes := 32, ag := true, zero := [.nilp, .nils], ty := none }),
  (72, some { de := .pt 5, n := 1, bytes := 8, ag := false, zero := [.nilp], ty := none }),
  (76, some { de := .st [(0, 17), (1, 17), (2, 17), (3, 9)], n := 4, bytes := 40, ag := true, zero := [.nilp, .nilp, .nilp, .v .str ([] : Str)], ty := none }),
  (79, some { de := .st [(0, 77)], n := 0, bytes := 0, ag := true, zero := [], ty := none }),
  (83, some { de := .sc, n := 1, bytes := 1, ag := false, zero := [.v (.int .u8) (0 : Int)], ty := some (.int .u8) }),
  (88, some { de := .st [(0, 12), (1, 12), (2, 81), (3, 82), (4, 5), (5, 5), (6, 83), (7, 84), (8, 72), (9, 85), (10, 86)], n := 11, bytes := 48, ag := true, zero := [.v (.int .u64) (0 : Int), .v (.int .u64) (0 : Int), .v (.int .u32) (0 : Int), .v (.int .u8) (0 : Int), .v (.int .u8) (0 : Int), .v (.int .u8) (0 : Int), .v (.int .u8) (0 : Int), .nilf, .nilp, .v (.int .i32) (0 : Int), .v (.int .i32) (0 : Int)], ty := none })
]
def etbl : List (Nat × Option Ty) := [(40, some (.pair (.int .i64) .str))]

def ti : Nat → Option TI := fun t => find none tbl t
def eqt : Nat → Option Ty := fun t => find none etbl t
theorem tOk : tblB Try.prog tbl = true := by kernel_rfl
theorem eOk : eqTblB Try.prog ti etbl = true := by kernel_rfl
theorem fol : Try.prog.follows .mixedOrders = true := by kernel_rfl
def mkCx (l : List (Nat × List Ctr)) (win : Bool := false) : Cx := { win := win, ti := ti, fs := fun f => find [] l f, eqt := eqt, rr := fun t => memb t [56], u8 := fun e => memb e [5], cpy := fun f => find none [(33, some 66)] f }
theorem cxOk (l : List (Nat × List Ctr)) {win : Bool} : CxOk (mkCx l win) Try.prog := cxOk_of (l := tbl) rfl tOk
theorem eqOk (l : List (Nat × List Ctr)) {win : Bool} : EqOk (mkCx l win) Try.prog := eqOk_of (l := etbl) (cxOk l) rfl eOk (u8Ok_of (l := [5]) rfl (by kernel_rfl)) cpyAll
theorem mk_ok (l : List (Nat × List Ctr)) {win : Bool} (hl : CtrsOk Try.prog l) {f : Nat} {fn : Func} {c : Ctr} {an : Ann} {outs : List Pat} {v : c.inp.V} {r : (p : Pat) × p.V} (hfn : Try.prog.funcs[f]? = some fn) (hk : c.k0 ≤ c.inp.ents.length)
    (hvc : fnVc (mkCx l win) an c.k0 fn c.inp outs v (fun r' => r' = r)) : SoundAt Try.prog f c v r := fn_ok fol (cxOk l) (eqOk l) (fsOk_of rfl hl) hfn hk hvc
end Vs
