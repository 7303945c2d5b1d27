/- The types of the program, checked. -/
import Derived.Test.YtmciagbogdlcoaaDoorViThree
import Derived.KernelRfl
import Derived.Test.YtmciagbogdlcoaaDoorProg
import Derived.Test.YtmciagbogdlcoaaDoorCpn
set_option linter.unnecessarySimpa false
set_option linter.unusedVariables false
set_option linter.unusedSectionVars false
set_option linter.unusedSimpArgs false
set_option autoImplicit false
namespace Vs
open Go Vi Go.Proofs
def tbl : List (Nat × Option TI) := [
  (1, some { de := .ot, n := 1, bytes := 8, ag := false, zero := [.nilf], ty := none }),
  (2, some { de := .sc, n := 1, bytes := 8, ag := false, zero := [.v (.int .i64) (0 : Int)], ty := some (.int .i64) }),
  (3, some { de := .sc, n := 1, bytes := 8, ag := false, zero := [.v (.int .i64) (0 : Int)], ty := some (.int .i64) }),
  (4, some { de := .sc, n := 1, bytes := 1, ag := false, zero := [.v .bool false], ty := some .bool }),
  (5, some { de := .sc, n := 1, bytes := 1, ag := false, zero := [.v (.int .u8) (0 : Int)], ty := some (.int .u8) }),
  (6, some { de := .sc, n := 1, bytes := 1, ag := false, zero := [.v (.int .u8) (0 : Int)], ty := some (.int .u8) }),
  (7, some { de := .st [(0, 2), (1, 3), (2, 4), (3, 6)], n := 4, bytes := 24, ag := true, zero := [.v (.int .i64) (0 : Int), .v (.int .i64) (0 : Int), .v .bool false, .v (.int .u8) (0 : Int)], ty := some (.pair (.int .i64) (.pair (.int .i64) (.pair .bool (.int .u8)))) }),
  (8, some { de := .st [(0, 2), (1, 3), (2, 4), (3, 6)], n := 4, bytes := 24, ag := true, zero := [.v (.int .i64) (0 : Int), .v (.int .i64) (0 : Int), .v .bool false, .v (.int .u8) (0 : Int)], ty := some (.pair (.int .i64) (.pair (.int .i64) (.pair .bool (.int .u8)))) }),
  (9, some { de := .sc, n := 1, bytes := 16, ag := false, zero := [.v .str ([] : Str)], ty := some .str }),
  (10, some { de := .sc, n := 1, bytes := 16, ag := false, zero := [.v .str ([] : Str)], ty := some .str }),
  (11, some { de := .sc, n := 1, bytes := 16, ag := false, zero := [.v .str ([] : Str)], ty := some .str }),
  (12, some { de := .sc, n := 1, bytes := 8, ag := false, zero := [.v (.int .u64) (0 : Int)], ty := some (.int .u64) }),
  (13, some { de := .st [(0, 9), (1, 12)], n := 2, bytes := 24, ag := true, zero := [.v .str ([] : Str), .v (.int .u64) (0 : Int)], ty := some (.pair .str (.int .u64)) }),
  (14, some { de := .st [(0, 9), (1, 12)], n := 2, bytes := 24, ag := true, zero := [.v .str ([] : Str), .v (.int .u64) (0 : Int)], ty := some (.pair .str (.int .u64)) }),
  (15, some { de := .pt 146, n := 1, bytes := 8, ag := false, zero := [.nilp], ty := none }),
  (16, some { de := .pt 149, n := 1, bytes := 8, ag := false, zero := [.nilp], ty := none }),
  (17, some { de := .pt 156, n := 1, bytes := 8, ag := false, zero := [.nilp], ty := none }),
  (18, some { de := .st [(0, 17)], n := 1, bytes := 8, ag := true, zero := [.nilp], ty := none }),
  (19, some { de := .st [(0, 17)], n := 1, bytes := 8, ag := true, zero := [.nilp], ty := none }),
  (21, some { de := .sc, n := 1, bytes := 4, ag := false, zero := [.v (.int .i32) (0 : Int)], ty := some (.int .i32) }),
  (22, some { de := .sl 25, n := 1, bytes := 24, ag := false, zero := [.nils], ty := some (.sl .node) }),
  (23, some { de := .sl 60, n := 1, bytes := 24, ag := false, zero := [.nils], ty := some (.sl (.pair .str .str)) }),
  (24, some { de := .st [(0, 3), (1, 3), (2, 9), (3, 23), (4, 9), (5, 22)], n := 6, bytes := 96, ag := true, zero := [.v (.int .i64) (0 : Int), .v (.int .i64) (0 : Int), .v .str ([] : Str), .nils, .v .str ([] : Str), .nils], ty := some (.pair (.int .i64) (.pair (.int .i64) (.pair .str (.pair (.sl (.pair .str .str)) (.pair .str (.sl .node)))))) }),
  (25, some { de := .st [(0, 3), (1, 3), (2, 9), (3, 23), (4, 9), (5, 22)], n := 6, bytes := 96, ag := true, zero := [.v (.int .i64) (0 : Int), .v (.int .i64) (0 : Int), .v .str ([] : Str), .nils, .v .str ([] : Str), .nils], ty := some .node }),
  (33, some { de := .sl 9, n := 1, bytes := 24, ag := false, zero := [.nils], ty := some (.sl .str) }),
  (42, some { de := .pt 44, n := 1, bytes := 8, ag := false, zero := [.nilp], ty := none }),
  (43, some { de := .st [(0, 3)], n := 1, bytes := 8, ag := true, zero := [.v (.int .i64) (0 : Int)], ty := some (.one (.int .i64)) }),
  (44, some { de := .st [(0, 3)], n := 1, bytes := 8, ag := true, zero := [.v (.int .i64) (0 : Int)], ty := some (.one (.int .i64)) }),
  (46, some { de := .pt 52, n := 1, bytes := 8, ag := false, zero := [.nilp], ty := none }),
  (47, some { de := .pt 50, n := 1, bytes := 8, ag := false, zero := [.nilp], ty := none }),
  (48, some { de := .sl 5, n := 1, bytes := 24, ag := false, zero := [.nils], ty := some (.sl (.int .u8)) }),
  (49, some { de := .st [(0, 47), (1, 48)], n := 2, bytes := 32, ag := true, zero := [.nilp, .nils], ty := none }),
  (50, some { de := .st [(0, 47), (1, 48)], n := 2, bytes := 32, ag := true, zero := [.nilp, .nils], ty := none }),
  (51, some { de := .st [(0, 50)], n := 2, bytes := 32, ag := true, zero := [.nilp, .nils], ty := none }),
  (52, some { de := .st [(0, 50)], n := 2, bytes := 32, ag := true, zero := [.nilp, .nils], ty := none }),
  (59, some { de := .st [(0, 9), (1, 9)], n := 2, bytes := 32, ag := true, zero := [.v .str ([] : Str), .v .str ([] : Str)], ty := some (.pair .str .str) }),
  (60, some { de := .st [(0, 9), (1, 9)], n := 2, bytes := 32, ag := true, zero := [.v .str ([] : Str), .v .str ([] : Str)], ty := some (.pair .str .str) }),
  (63, some { de := .ot, n := 1, bytes := 8, ag := false, zero := [.nilf], ty := none }),
  (69, some { de := .sl 72, n := 1, bytes := 24, ag := false, zero := [.nils], ty := some (.sl (.pair (.int .i64) .str)) }),
  (71, some { de := .st [(0, 3), (1, 9)], n := 2, bytes := 24, ag := true, zero := [.v (.int .i64) (0 : Int), .v .str ([] : Str)], ty := some (.pair (.int .i64) .str) }),
  (72, some { de := .st [(0, 3), (1, 9)], n := 2, bytes := 24, ag := true, zero := [.v (.int .i64) (0 : Int), .v .str ([] : Str)], ty := some (.pair (.int .i64) .str) }),
  (75, some { de := .sl 77, n := 1, bytes := 24, ag := false, zero := [.nils], ty := some (.sl (.pair (.int .i64) .str)) }),
  (77, some { de := .st [(0, 3), (1, 9)], n := 2, bytes := 24, ag := true, zero := [.v (.int .i64) (0 : Int), .v .str ([] : Str)], ty := some (.pair (.int .i64) .str) }),
  (80, some { de := .pt 5, n := 1, bytes := 8, ag := false, zero := [.nilp], ty := none }),
  (84, some { de := .sc, n := 1, bytes := 8, ag := false, zero := [.v (.int .u64) (0 : Int)], ty := some (.int .u64) }),
  (95, some { de := .ot, n := 1, bytes := 8, ag := false, zero := [.nilf], ty := none }),
  (98, some { de := .sl 101, n := 1, bytes := 24, ag := false, zero := [.nils], ty := some (.sl (.pair (.int .i64) (.pair (.int .i64) .bool))) }),
  (100, some { de := .st [(0, 3), (1, 3), (2, 4)], n := 3, bytes := 24, ag := true, zero := [.v (.int .i64) (0 : Int), .v (.int .i64) (0 : Int), .v .bool false], ty := some (.pair (.int .i64) (.pair (.int .i64) .bool)) }),
  (101, some { de := .st [(0, 3), (1, 3), (2, 4)], n := 3, bytes := 24, ag := true, zero := [.v (.int .i64) (0 : Int), .v (.int .i64) (0 : Int), .v .bool false], ty := some (.pair (.int .i64) (.pair (.int .i64) .bool)) }),
  (102, some { de := .sl 104, n := 1, bytes := 24, ag := false, zero := [.nils], ty := some (.sl (.pair (.int .i64) (.pair (.int .i64) .bool))) }),
  (104, some { de := .st [(0, 3), (1, 3), (2, 4)], n := 3, bytes := 24, ag := true, zero := [.v (.int .i64) (0 : Int), .v (.int .i64) (0 : Int), .v .bool false], ty := some (.pair (.int .i64) (.pair (.int .i64) .bool)) }),
  (111, some { de := .st [(0, 3), (1, 3)], n := 2, bytes := 16, ag := true, zero := [.v (.int .i64) (0 : Int), .v (.int .i64) (0 : Int)], ty := some (.pair (.int .i64) (.int .i64)) }),
  (112, some { de := .st [(0, 3), (1, 3)], n := 2, bytes := 16, ag := true, zero := [.v (.int .i64) (0 : Int), .v (.int .i64) (0 : Int)], ty := some (.pair (.int .i64) (.int .i64)) }),
  (113, some { de := .ar 5 112, n := 10, bytes := 80, ag := true, zero := [.v (.int .i64) (0 : Int), .v (.int .i64) (0 : Int), .v (.int .i64) (0 : Int), .v (.int .i64) (0 : Int), .v (.int .i64) (0 : Int), .v (.int .i64) (0 : Int), .v (.int .i64) (0 : Int), .v (.int .i64) (0 : Int), .v (.int .i64) (0 : Int), .v (.int .i64) (0 : Int)], ty := some (.arr 5 (.pair (.int .i64) (.int .i64))) }),
  (114, some { de := .sc, n := 1, bytes := 4, ag := false, zero := [.v (.int .u32) (0 : Int)], ty := some (.int .u32) }),
  (117, some { de := .sc, n := 1, bytes := 8, ag := false, zero := [.v (.int .u64) (0 : Int)], ty := some (.int .u64) }),
  (120, some { de := .sl 3, n := 1, bytes := 24, ag := false, zero := [.nils], ty := some (.sl (.int .i64)) }),
  (121, some { de := .st [(0, 120), (1, 4)], n := 2, bytes := 32, ag := true, zero := [.nils, .v .bool false], ty := some (.pair (.sl (.int .i64)) .bool) }),
  (122, some { de := .st [(0, 120), (1, 4)], n := 2, bytes := 32, ag := true, zero := [.nils, .v .bool false], ty := some (.pair (.sl (.int .i64)) .bool) }),
  (125, some { de := .sl 120, n := 1, bytes := 24, ag := false, zero := [.nils], ty := some (.sl (.sl (.int .i64))) }),
  (127, some { de := .sl 130, n := 1, bytes := 24, ag := false, zero := [.nils], ty := some (.sl (.one (.sl (.int .i64)))) }),
  (129, some { de := .st [(0, 120)], n := 1, bytes := 24, ag := true, zero := [.nils], ty := some (.one (.sl (.int .i64))) }),
  (130, some { de := .st [(0, 120)], n := 1, bytes := 24, ag := true, zero := [.nils], ty := some (.one (.sl (.int .i64))) }),
  (135, some { de := .st [(0, 3), (1, 3), (2, 4)], n := 3, bytes := 24, ag := true, zero := [.v (.int .i64) (0 : Int), .v (.int .i64) (0 : Int), .v .bool false], ty := some (.pair (.int .i64) (.pair (.int .i64) .bool)) }),
  (136, some { de := .st [(0, 3), (1, 3), (2, 4)], n := 3, bytes := 24, ag := true, zero := [.v (.int .i64) (0 : Int), .v (.int .i64) (0 : Int), .v .bool false], ty := some (.pair (.int .i64) (.pair (.int .i64) .bool)) }),
  (140, some { de := .ar 256 5, n := 256, bytes := 256, ag := true, zero := [.v (.int .u8) (0 : Int), .v (.int .u8) (0 : Int), .v (.int .u8) (0 : Int), .v (.int .u8) (0 : Int), .v (.int .u8) (0 : Int), .v (.int .u8) (0 : Int), .v (.int .u8) (0 : Int), .v (.int .u8) (0 : Int), .v (.int .u8) (0 : Int), .v (.int .u8) (0 : Int), .v (.int .u8) (0 : Int), .v (.int .u8) (0 : Int), .v (.int .u8) (0 : Int), .v (.int .u8) (0 : Int), .v (.int .u8) (0 : Int), .v (.int .u8) (0 : Int), .v (.int .u8) (0 : Int), .v (.int .u8) (0 : Int), .v (.int .u8) (0 : Int), .v (.int .u8) (0 : Int), .v (.int .u8) (0 : Int), .v (.int .u8) (0 : Int), .v (.int .u8) (0 : Int), .v (.int .u8) (0 : Int), .v (.int .u8) (0 : Int), .v (.int .u8) (0 : Int), .v (.int .u8) (0 : Int), .v (.int .u8) (0 : Int), .v (.int .u8) (0 : Int), .v (.int .u8) (0 : Int), .v (.int .u8) (0 : Int), .v (.int .u8) (0 : Int), .v (.int .u8) (0 : Int), .v (.int .u8) (0 : Int), .v (.int .u8) (0 : Int), .v (.int .u8) (0 : Int), .v (.int .u8) (0 : Int), .v (.int .u8) (0 : Int), .v (.int .u8) (0 : Int), .v (.int .u8) (0 : Int), .v (.int .u8) (0 : Int), .v (.int .u8) (0 : Int), .v (.int .u8) (0 : Int), .v (.int .u8) (0 : Int), .v (.int .u8) (0 : Int), .v (.int .u8) (0 : Int), .v (.int .u8) (0 : Int), .v (.int .u8) (0 : Int), .v (.int .u8) (0 : Int), .v (.int .u8) (0 : Int), .v (.int .u8) (0 : Int), .v (.int .u8) (0 : Int), .v (.int .u8) (0 : Int), .v (.int .u8) (0 : Int), .v (.int .u8) (0 : Int), .v (.int .u8) (0 : Int), .v (.int .u8) (0 : Int), .v (.int .u8) (0 : Int), .v (.int .u8) (0 : Int), .v (.int .u8) (0 : Int), .v (.int .u8) (0 : Int), .v (.int .u8) (0 : Int), .v (.int .u8) (0 : Int), .v (.int .u8) (0 : Int), .v (.int .u8) (0 : Int), .v (.int .u8) (0 : Int), .v (.int .u8) (0 : Int), .v (.int .u8) (0 : Int), .v (.int .u8) (0 : Int), .v (.int .u8) (0 : Int), .v (.int .u8) (0 : Int), .v (.int .u8) (0 : Int), .v (.int .u8) (0 : Int), .v (.int .u8) (0 : Int), .v (.int .u8) (0 : Int), .v (.int .u8) (0 : Int), .v (.int .u8) (0 : Int), .v (.int .u8) (0 : Int), .v (.int .u8) (0 : Int), .v (.int .u8) (0 : Int), .v (.int .u8) (0 : Int), .v (.int .u8) (0 : Int), .v (.int .u8) (0 : Int), .v (.int .u8) (0 : Int), .v (.int .u8) (0 : Int), .v (.int .u8) (0 : Int), .v (.int .u8) (0 : Int), .v (.int .u8) (0 : Int), .v (.int .u8) (0 : Int), .v (.int .u8) (0 : Int), .v (.int .u8) (0 : Int), .v (.int .u8) (0 : Int), .v (.int .u8) (0 : Int), .v (.int .u8) (0 : Int), .v (.int .u8) (0 : Int), .v (.int .u8) (0 : Int), .v (.int .u8) (0 : Int), .v (.int .u8) (0 : Int), .v (.int .u8) (0 : Int), .v (.int .u8) (0 : Int), .v (.int .u8) (0 : Int), .v (.int .u8) (0 : Int), .v (.int .u8) (0 : Int), .v (.int .u8) (0 : Int), .v (.int .u8) (0 : Int), .v (.int .u8) (0 : Int), .v (.int .u8) (0 : Int), .v (.int .u8) (0 : Int), .v (.int .u8) (0 : Int), .v (.int .u8) (0 : Int), .v (.int .u8) (0 : Int), .v (.int .u8) (0 : Int), .v (.int .u8) (0 : Int), .v (.int .u8) (0 : Int), .v (.int .u8) (0 : Int), .v (.int .u8) (0 : Int), .v (.int .u8) (0 : Int), .v (.int .u8) (0 : Int), .v (.int .u8) (0 : Int), .v (.int .u8) (0 : Int), .v (.int .u8) (0 : Int), .v (.int .u8) (0 : Int), .v (.int .u8) (0 : Int), .v (.int .u8) (0 : Int), .v (.int .u8) (0 : Int), .v (.int .u8) (0 : Int), .v (.int .u8) (0 : Int), .v (.int .u8) (0 : Int), .v (.int .u8) (0 : Int), .v (.int .u8) (0 : Int), .v (.int .u8) (0 : Int), .v (.int .u8) (0 : Int), .v (.int .u8) (0 : Int), .v (.int .u8) (0 : Int), .v (.int .u8) (0 : Int), .v (.int .u8) (0 : Int), .v (.int .u8) (0 : Int), .v (.int .u8) (0 : Int), .v (.int .u8) (0 : Int), .v (.int .u8) (0 : Int), .v (.int .u8) (0 : Int), .v (.int .u8) (0 : Int), .v (.int .u8) (0 : Int), .v (.int .u8) (0 : Int), .v (.int .u8) (0 : Int), .v (.int .u8) (0 : Int), .v (.int .u8) (0 : Int), .v (.int .u8) (0 : Int), .v (.int .u8) (0 : Int), .v (.int .u8) (0 : Int), .v (.int .u8) (0 : Int), .v (.int .u8) (0 : Int), .v (.int .u8) (0 : Int), .v (.int .u8) (0 : Int), .v (.int .u8) (0 : Int), .v (.int .u8) (0 : Int), .v (.int .u8) (0 : Int), .v (.int .u8) (0 : Int), .v (.int .u8) (0 : Int), .v (.int .u8) (0 : Int), .v (.int .u8) (0 : Int), .v (.int .u8) (0 : Int), .v (.int .u8) (0 : Int), .v (.int .u8) (0 : Int), .v (.int .u8) (0 : Int), .v (.int .u8) (0 : Int), .v (.int .u8) (0 : Int), .v (.int .u8) (0 : Int), .v (.int .u8) (0 : Int), .v (.int .u8) (0 : Int), .v (.int .u8) (0 : Int), .v (.int .u8) (0 : Int), .v (.int .u8) (0 : Int), .v (.int .u8) (0 : Int), .v (.int .u8) (0 : Int), .v (.int .u8) (0 : Int), .v (.int .u8) (0 : Int), .v (.int .u8) (0 : Int), .v (.int .u8) (0 : Int), .v (.int .u8) (0 : Int), .v (.int .u8) (0 : Int), .v (.int .u8) (0 : Int), .v (.int .u8) (0 : Int), .v (.int .u8) (0 : Int), .v (.int .u8) (0 : Int), .v (.int .u8) (0 : Int), .v (.int .u8) (0 : Int), .v (.int .u8) (0 : Int), .v (.int .u8) (0 : Int), .v (.int .u8) (0 : Int), .v (.int .u8) (0 : Int), .v (.int .u8) (0 : Int), .v (.int .u8) (0 : Int), .v (.int .u8) (0 : Int), .v (.int .u8) (0 : Int), .v (.int .u8) (0 : Int), .v (.int .u8) (0 : Int), .v (.int .u8) (0 : Int), .v (.int .u8) (0 : Int), .v (.int .u8) (0 : Int), .v (.int .u8) (0 : Int), .v (.int .u8) (0 : Int), .v (.int .u8) (0 : Int), .v (.int .u8) (0 : Int), .v (.int .u8) (0 : Int), .v (.int .u8) (0 : Int), .v (.int .u8) (0 : Int), .v (.int .u8) (0 : Int), .v (.int .u8) (0 : Int), .v (.int .u8) (0 : Int), .v (.int .u8) (0 : Int), .v (.int .u8) (0 : Int), .v (.int .u8) (0 : Int), .v (.int .u8) (0 : Int), .v (.int .u8) (0 : Int), .v (.int .u8) (0 : Int), .v (.int .u8) (0 : Int), .v (.int .u8) (0 : Int), .v (.int .u8) (0 : Int), .v (.int .u8) (0 : Int), .v (.int .u8) (0 : Int), .v (.int .u8) (0 : Int), .v (.int .u8) (0 : Int), .v (.int .u8) (0 : Int), .v (.int .u8) (0 : Int), .v (.int .u8) (0 : Int), .v (.int .u8) (0 : Int), .v (.int .u8) (0 : Int), .v (.int .u8) (0 : Int), .v (.int .u8) (0 : Int), .v (.int .u8) (0 : Int), .v (.int .u8) (0 : Int), .v (.int .u8) (0 : Int), .v (.int .u8) (0 : Int), .v (.int .u8) (0 : Int), .v (.int .u8) (0 : Int), .v (.int .u8) (0 : Int), .v (.int .u8) (0 : Int), .v (.int .u8) (0 : Int), .v (.int .u8) (0 : Int), .v (.int .u8) (0 : Int), .v (.int .u8) (0 : Int), .v (.int .u8) (0 : Int), .v (.int .u8) (0 : Int), .v (.int .u8) (0 : Int), .v (.int .u8) (0 : Int), .v (.int .u8) (0 : Int), .v (.int .u8) (0 : Int), .v (.int .u8) (0 : Int), .v (.int .u8) (0 : Int), .v (.int .u8) (0 : Int), .v (.int .u8) (0 : Int), .v (.int .u8) (0 : Int), .v (.int .u8) (0 : Int), .v (.int .u8) (0 : Int), .v (.int .u8) (0 : Int)], ty := some (.arr 256 (.int .u8)) }),
  (141, some { de := .st [(0, 5), (1, 5)], n := 2, bytes := 2, ag := true, zero := [.v (.int .u8) (0 : Int), .v (.int .u8) (0 : Int)], ty := some (.pair (.int .u8) (.int .u8)) }),
  (142, some { de := .st [(0, 5), (1, 5)], n := 2, bytes := 2, ag := true, zero := [.v (.int .u8) (0 : Int), .v (.int .u8) (0 : Int)], ty := some (.pair (.int .u8) (.int .u8)) }),
  (143, some { de := .ar 16 142, n := 32, bytes := 32, ag := true, zero := [.v (.int .u8) (0 : Int), .v (.int .u8) (0 : Int), .v (.int .u8) (0 : Int), .v (.int .u8) (0 : Int), .v (.int .u8) (0 : Int), .v (.int .u8) (0 : Int), .v (.int .u8) (0 : Int), .v (.int .u8) (0 : Int), .v (.int .u8) (0 : Int), .v (.int .u8) (0 : Int), .v (.int .u8) (0 : Int), .v (.int .u8) (0 : Int), .v (.int .u8) (0 : Int), .v (.int .u8) (0 : Int), .v (.int .u8) (0 : Int), .v (.int .u8) (0 : Int), .v (.int .u8) (0 : Int), .v (.int .u8) (0 : Int), .v (.int .u8) (0 : Int), .v (.int .u8) (0 : Int), .v (.int .u8) (0 : Int), .v (.int .u8) (0 : Int), .v (.int .u8) (0 : Int), .v (.int .u8) (0 : Int), .v (.int .u8) (0 : Int), .v (.int .u8) (0 : Int), .v (.int .u8) (0 : Int), .v (.int .u8) (0 : Int), .v (.int .u8) (0 : Int), .v (.int .u8) (0 : Int), .v (.int .u8) (0 : Int), .v (.int .u8) (0 : Int)], ty := some (.arr 16 (.pair (.int .u8) (.int .u8))) }),
  (146, some { de := .st [(0, 17), (1, 17), (2, 17), (3, 9)], n := 4, bytes := 40, ag := true, zero := [.nilp, .nilp, .nilp, .v .str ([] : Str)], ty := none }),
  (149, some { de := .st [(0, 147)], n := 0, bytes := 0, ag := true, zero := [], ty := none }),
  (151, some { de := .sc, n := 1, bytes := 1, ag := false, zero := [.v (.int .u8) (0 : Int)], ty := some (.int .u8) }),
  (156, some { de := .st [(0, 12), (1, 12), (2, 114), (3, 150), (4, 5), (5, 5), (6, 151), (7, 152), (8, 80), (9, 153), (10, 154)], n := 11, bytes := 48, ag := true, zero := [.v (.int .u64) (0 : Int), .v (.int .u64) (0 : Int), .v (.int .u32) (0 : Int), .v (.int .u8) (0 : Int), .v (.int .u8) (0 : Int), .v (.int .u8) (0 : Int), .v (.int .u8) (0 : Int), .nilf, .nilp, .v (.int .i32) (0 : Int), .v (.int .i32) (0 : Int)], ty := none })
]
def etbl : List (Nat × Option Ty) := [(60, some (.pair .str .str)), (72, some (.pair (.int .i64) .str))]

def gl : Gs := { nums := [1], tabs := [⟨0, .arr 5 (.pair (.int .i64) (.int .i64)), utfRows⟩] }
def ti : Nat → Option TI := fun t => find none tbl t
def eqt : Nat → Option Ty := fun t => find none etbl t
theorem tOk : tblB Tryd.prog tbl = true := by kernel_rfl
theorem eOk : eqTblB Tryd.prog ti etbl = true := by kernel_rfl
theorem fol : Tryd.prog.follows .mixedOrders = true := by kernel_rfl
def mkCx (l : List (Nat × List Ctr)) (win lits : Bool := false) : Cx := { win := win, lits := lits, ti := ti, fs := fun f => find [] l f, eqt := eqt, gl := gl, rr := fun t => memb t [125], u8 := fun e => memb e [5], cpy := fun f => find none [(52, some [50, 52])] f }
theorem cxOk (l : List (Nat × List Ctr)) {win lits : Bool} : CxOk (mkCx l win lits) Tryd.prog := cxOk_of (l := tbl) rfl tOk
theorem eqOk (l : List (Nat × List Ctr)) {win lits : Bool} : EqOk (mkCx l win lits) Tryd.prog := eqOk_of (l := etbl) (cxOk l) rfl eOk (u8Ok_of (l := [5]) rfl (by kernel_rfl)) cpyAll
theorem mk_ok (l : List (Nat × List Ctr)) {win lits : Bool} (hl : CtrsOk Tryd.prog l gl) {f : Nat} {fn : Func} {c : Ctr} {an : Ann} {outs : List Pat} {v : c.inp.V} {r : (p : Pat) × p.V} (hfn : Tryd.prog.funcs[f]? = some fn) (hk : c.k0 ≤ c.inp.ents.length)
    (hvc : fnVc (mkCx l win lits) an c.k0 fn c.inp outs v (fun r' => r' = r)) : SoundAt Tryd.prog f c v r gl := fn_ok fol (cxOk l) (eqOk l) (fsOk_of rfl hl) hfn hk hvc
end Vs
