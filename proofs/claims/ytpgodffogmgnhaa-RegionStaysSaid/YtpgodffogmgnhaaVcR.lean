/- Conditions of functions. Written by a program of this session. -/
import Derived.Test.YtpgodffogmgnhaaSpR
set_option linter.unnecessarySimpa false
set_option linter.unusedVariables false
set_option linter.unusedSectionVars false
set_option linter.unusedSimpArgs false
set_option autoImplicit false
set_option linter.unusedVariables false
open Go Vi

def region_rows_half.vc (R : Int →
 Bool →
 Bool →
 Int →
 Bool →
 List Int →
 List (List (List UInt8)) →
 List (Int × List (List UInt8)) → Prop) (down : Bool) (armed : Bool) (after : Int) (acut : Bool) (keep : List Int) (bs : List (List Str)) (ws : List (Int × List Str)) : Prop :=
 Sp.dPre (down, armed, after, acut, keep, bs, ws) ∧
 Rg IntKind.i64 ((↑(Sp.DSt.bs (down, armed, after, acut, keep, bs, ws)).length : Int) - 2) ∧
 Dv ((↑(Sp.DSt.bs (down, armed, after, acut, keep, bs, ws)).length : Int) - 2) 2 ∧
 R (mx 0 (((↑(Sp.DSt.bs (down, armed, after, acut, keep, bs, ws)).length : Int) - 2) / 2)) down armed after acut keep bs ws

def region_rows_open.vc (R0 : Int →
 Bool →
 Bool →
 Int →
 Bool →
 List Int →
 List (List (List UInt8)) →
 List (Int × List (List UInt8)) →
 Prop) (R1 : Int →
 Bool →
 Bool →
 Int →
 Bool →
 List Int →
 List (List (List UInt8)) →
 List (Int × List (List UInt8)) →
 Int →
 Int →
 List UInt8 →
 Int →
 Prop) (rg : Int) (se : Int) (down : Bool) (armed : Bool) (after : Int) (acut : Bool) (keep : List Int) (bs : List (List Str)) (ws : List (Int × List Str)) : Prop :=
 Sp.gPre (down, armed, after, acut, keep, bs, ws) ∧
 Rg IntKind.i64 (rg * Sp.halfD (down, armed, after, acut, keep, bs, ws)) ∧
 Rg IntKind.i64 (2 + rg * Sp.halfD (down, armed, after, acut, keep, bs, ws)) ∧
 Sp.gPre (down, armed, after, acut, keep, bs, ws) ∧
 Sp.dPre9 (down, armed, after, acut, keep, bs, ws) ∧
 bif Sp.opNil (2 + rg * Sp.halfD (down, armed, after, acut, keep, bs, ws)) (Sp.halfD (down, armed, after, acut, keep, bs, ws)) se (down, armed, after, acut, keep, bs, ws) then
 R0 (Sp.opErr (2 + rg * Sp.halfD (down, armed, after, acut, keep, bs, ws)) (Sp.halfD (down, armed, after, acut, keep, bs, ws)) se (down, armed, after, acut, keep, bs, ws)) down
 armed after acut keep bs ws
 else
 R1 0 down armed after acut keep bs ws (2 + rg * Sp.halfD (down, armed, after, acut, keep, bs, ws)) (Sp.halfD (down, armed, after, acut, keep, bs, ws))
 (Sp.opS (2 + rg * Sp.halfD (down, armed, after, acut, keep, bs, ws)) se (down, armed, after, acut, keep, bs, ws)) se

def region_Open.vc (R0 : Int →
 Bool →
 Bool →
 Int →
 Bool →
 List Int →
 List (List (List UInt8)) →
 List (Int × List (List UInt8)) →
 Prop) (R1 : Int →
 Bool →
 Bool →
 Int →
 Bool →
 List Int →
 List (List (List UInt8)) →
 List (Int × List (List UInt8)) →
 Int →
 Int →
 Int → List UInt8 → Int → Prop) (down : Bool) (armed : Bool) (after : Int) (acut : Bool) (keep : List Int) (bs : List (List Str)) (ws : List (Int × List Str)) : Prop :=
 Sp.dPre (down, armed, after, acut, keep, bs, ws) ∧
 bif !decide ((Sp.chooseS (down, armed, after, acut, keep, bs, ws)).snd.snd = 0) then R0 (Sp.chooseS (down, armed, after, acut, keep, bs, ws)).snd.snd down armed after acut keep bs ws
 else
 Sp.rgPre (Sp.chooseS (down, armed, after, acut, keep, bs, ws)).fst.snd.fst (Sp.chooseS (down, armed, after, acut, keep, bs, ws)).fst.snd.snd.fst
 (down, armed, after, acut, keep, bs, ws) ∧
 bif
 Sp.rgNil (Sp.chooseS (down, armed, after, acut, keep, bs, ws)).fst.snd.fst (Sp.chooseS (down, armed, after, acut, keep, bs, ws)).fst.snd.snd.fst
 (down, armed, after, acut, keep, bs, ws) then
 bif
 decide
 (Sp.rgErr (Sp.chooseS (down, armed, after, acut, keep, bs, ws)).fst.snd.fst (Sp.chooseS (down, armed, after, acut, keep, bs, ws)).fst.snd.snd.fst
 (down, armed, after, acut, keep, bs, ws) =
 1) then
 R0 290 down armed after acut keep bs ws
 else
 bif
 !decide
 (Sp.rgErr (Sp.chooseS (down, armed, after, acut, keep, bs, ws)).fst.snd.fst (Sp.chooseS (down, armed, after, acut, keep, bs, ws)).fst.snd.snd.fst
 (down, armed, after, acut, keep, bs, ws) =
 0) then
 R0
 (Sp.rgErr (Sp.chooseS (down, armed, after, acut, keep, bs, ws)).fst.snd.fst (Sp.chooseS (down, armed, after, acut, keep, bs, ws)).fst.snd.snd.fst
 (down, armed, after, acut, keep, bs, ws))
 down armed after acut keep bs ws
 else bif !decide ((↑0 : Int) = (Sp.chooseS (down, armed, after, acut, keep, bs, ws)).fst.snd.snd.snd) then R0 290 down armed after acut keep bs ws else False
 else
 Sp.lOk
 (Sp.rgF (Sp.chooseS (down, armed, after, acut, keep, bs, ws)).fst.snd.fst (down, armed, after, acut, keep, bs, ws), Sp.halfD (down, armed, after, acut, keep, bs, ws),
 Sp.rgS (Sp.chooseS (down, armed, after, acut, keep, bs, ws)).fst.snd.fst (Sp.chooseS (down, armed, after, acut, keep, bs, ws)).fst.snd.snd.fst
 (down, armed, after, acut, keep, bs, ws),
 (Sp.chooseS (down, armed, after, acut, keep, bs, ws)).fst.snd.snd.fst) ∧
 bif
 !decide
 ((↑(Sp.lRecs
 (Sp.rgF (Sp.chooseS (down, armed, after, acut, keep, bs, ws)).fst.snd.fst (down, armed, after, acut, keep, bs, ws),
 Sp.halfD (down, armed, after, acut, keep, bs, ws),
 Sp.rgS (Sp.chooseS (down, armed, after, acut, keep, bs, ws)).fst.snd.fst (Sp.chooseS (down, armed, after, acut, keep, bs, ws)).fst.snd.snd.fst
 (down, armed, after, acut, keep, bs, ws),
 (Sp.chooseS (down, armed, after, acut, keep, bs, ws)).fst.snd.snd.fst)).length :
 Int) =
 (Sp.chooseS (down, armed, after, acut, keep, bs, ws)).fst.snd.snd.snd) then
 R0 290 down armed after acut keep bs ws
 else
 R1 0 down armed after acut keep bs ws (Sp.chooseS (down, armed, after, acut, keep, bs, ws)).fst.snd.fst
 (Sp.rgF (Sp.chooseS (down, armed, after, acut, keep, bs, ws)).fst.snd.fst (down, armed, after, acut, keep, bs, ws)) (Sp.halfD (down, armed, after, acut, keep, bs, ws))
 (Sp.rgS (Sp.chooseS (down, armed, after, acut, keep, bs, ws)).fst.snd.fst (Sp.chooseS (down, armed, after, acut, keep, bs, ws)).fst.snd.snd.fst
 (down, armed, after, acut, keep, bs, ws))
 (Sp.chooseS (down, armed, after, acut, keep, bs, ws)).fst.snd.snd.fst

def region_Format.vc (R0 : Int →
 Bool →
 Bool →
 Int →
 Bool →
 List Int →
 List (List (List UInt8)) →
 List (Int × List (List UInt8)) →
 Prop) (R1 : Int →
 Bool →
 Bool →
 Int →
 Bool →
 List Int →
 List (List (List UInt8)) →
 List (Int × List (List UInt8)) →
 Int →
 Int →
 Int → List UInt8 → Int → Prop) (down : Bool) (armed : Bool) (after : Int) (acut : Bool) (keep : List Int) (bs : List (List Str)) (ws : List (Int × List Str)) : Prop :=
 Sp.dPre9s (down, armed, after, acut, keep, bs, ws) ∧
 bif !decide ((Sp.formatS (down, armed, after, acut, keep, bs, ws)).snd = 0) then
 R0 (Sp.formatS (down, armed, after, acut, keep, bs, ws)).snd (Sp.formatS (down, armed, after, acut, keep, bs, ws)).fst.fst
 (Sp.formatS (down, armed, after, acut, keep, bs, ws)).fst.snd.fst (Sp.formatS (down, armed, after, acut, keep, bs, ws)).fst.snd.snd.fst
 (Sp.formatS (down, armed, after, acut, keep, bs, ws)).fst.snd.snd.snd.fst (Sp.formatS (down, armed, after, acut, keep, bs, ws)).fst.snd.snd.snd.snd.fst
 (Sp.formatS (down, armed, after, acut, keep, bs, ws)).fst.snd.snd.snd.snd.snd.fst (Sp.formatS (down, armed, after, acut, keep, bs, ws)).fst.snd.snd.snd.snd.snd.snd
 else
 Sp.gPre (Sp.formatS (down, armed, after, acut, keep, bs, ws)).fst ∧
 bif Sp.joNil (Sp.formatS (down, armed, after, acut, keep, bs, ws)).fst then
 R0 (Sp.joErr (Sp.formatS (down, armed, after, acut, keep, bs, ws)).fst) (Sp.formatS (down, armed, after, acut, keep, bs, ws)).fst.fst
 (Sp.formatS (down, armed, after, acut, keep, bs, ws)).fst.snd.fst (Sp.formatS (down, armed, after, acut, keep, bs, ws)).fst.snd.snd.fst
 (Sp.formatS (down, armed, after, acut, keep, bs, ws)).fst.snd.snd.snd.fst (Sp.formatS (down, armed, after, acut, keep, bs, ws)).fst.snd.snd.snd.snd.fst
 (Sp.formatS (down, armed, after, acut, keep, bs, ws)).fst.snd.snd.snd.snd.snd.fst (Sp.formatS (down, armed, after, acut, keep, bs, ws)).fst.snd.snd.snd.snd.snd.snd
 else
 R1 0 (Sp.formatS (down, armed, after, acut, keep, bs, ws)).fst.fst (Sp.formatS (down, armed, after, acut, keep, bs, ws)).fst.snd.fst
 (Sp.formatS (down, armed, after, acut, keep, bs, ws)).fst.snd.snd.fst (Sp.formatS (down, armed, after, acut, keep, bs, ws)).fst.snd.snd.snd.fst
 (Sp.formatS (down, armed, after, acut, keep, bs, ws)).fst.snd.snd.snd.snd.fst (Sp.formatS (down, armed, after, acut, keep, bs, ws)).fst.snd.snd.snd.snd.snd.fst
 (Sp.formatS (down, armed, after, acut, keep, bs, ws)).fst.snd.snd.snd.snd.snd.snd (Sp.joR (Sp.formatS (down, armed, after, acut, keep, bs, ws)).fst)
 (Sp.joL (Sp.formatS (down, armed, after, acut, keep, bs, ws)).fst).fst (Sp.joL (Sp.formatS (down, armed, after, acut, keep, bs, ws)).fst).snd.fst
 (Sp.joL (Sp.formatS (down, armed, after, acut, keep, bs, ws)).fst).snd.snd.fst (Sp.joL (Sp.formatS (down, armed, after, acut, keep, bs, ws)).fst).snd.snd.snd

def region_fill.L0 (R : Int →
 Int →
 Int →
 List UInt8 →
 Int →
 Bool →
 Bool →
 Int →
 Bool →
 List Int →
 List (List (List UInt8)) →
 List (Int × List (List UInt8)) →
 Prop) (t8 : List
 (List
 UInt8)) (t9 : Int) (t10 : Int) (from_ : Int) (blocks : Int) (b : List
 UInt8) (sealed : Int) (down : Bool) (armed : Bool) (after : Int) (acut : Bool) (keep : List
 Int) (bs : List
 (List
 (List
 UInt8))) (ws : List
 (Int ×
 List
 (List
 UInt8))) (K0 : List (List UInt8) ×
 Int × Int × Int × Int × List UInt8 × Int × Bool × Bool × Int × Bool × List Int × List (List (List UInt8)) × List (Int × List (List UInt8)) × Unit →
 Prop) : Prop :=
 bif decide (t10 < t9) then
 Ix t10 t8.length ∧
 Sp.lOk (from_, blocks, b, sealed) ∧
 bif !decide ((Sp.lAdd (nth t8 t10 []) (from_, blocks, b, sealed)).snd = 0) then
 R (Sp.lAdd (nth t8 t10 []) (from_, blocks, b, sealed)).snd (Sp.lAdd (nth t8 t10 []) (from_, blocks, b, sealed)).fst.fst
 (Sp.lAdd (nth t8 t10 []) (from_, blocks, b, sealed)).fst.snd.fst (Sp.lAdd (nth t8 t10 []) (from_, blocks, b, sealed)).fst.snd.snd.fst
 (Sp.lAdd (nth t8 t10 []) (from_, blocks, b, sealed)).fst.snd.snd.snd down armed after acut keep bs ws
 else
 Rg IntKind.i64 (t10 + 1) ∧
 K0
 (t8, t9, t10 + 1, (Sp.lAdd (nth t8 t10 []) (from_, blocks, b, sealed)).fst.fst, (Sp.lAdd (nth t8 t10 []) (from_, blocks, b, sealed)).fst.snd.fst,
 (Sp.lAdd (nth t8 t10 []) (from_, blocks, b, sealed)).fst.snd.snd.fst, (Sp.lAdd (nth t8 t10 []) (from_, blocks, b, sealed)).fst.snd.snd.snd, down, armed, after, acut, keep,
 bs, ws, ())
 else R 0 from_ blocks b sealed down armed after acut keep bs ws
def region_fill.vc (R : Int →
 Int →
 Int →
 List UInt8 →
 Int →
 Bool →
 Bool →
 Int →
 Bool →
 List Int →
 List (List (List UInt8)) →
 List (Int × List (List UInt8)) →
 Prop) (recs : List
 Str) (from_ : Int) (blocks : Int) (b : Str) (sealed : Int) (down : Bool) (armed : Bool) (after : Int) (acut : Bool) (keep : List
 Int) (bs : List (List Str)) (ws : List (Int × List Str)) : Prop :=
 Lp
 (fun v K =>
 region_fill.L0 R v.fst v.snd.fst v.snd.snd.fst v.snd.snd.snd.fst v.snd.snd.snd.snd.fst v.snd.snd.snd.snd.snd.fst v.snd.snd.snd.snd.snd.snd.fst v.snd.snd.snd.snd.snd.snd.snd.fst
 v.snd.snd.snd.snd.snd.snd.snd.snd.fst v.snd.snd.snd.snd.snd.snd.snd.snd.snd.fst v.snd.snd.snd.snd.snd.snd.snd.snd.snd.snd.fst v.snd.snd.snd.snd.snd.snd.snd.snd.snd.snd.snd.fst
 v.snd.snd.snd.snd.snd.snd.snd.snd.snd.snd.snd.snd.fst v.snd.snd.snd.snd.snd.snd.snd.snd.snd.snd.snd.snd.snd.fst K)
 (recs, (↑recs.length : Int), 0, from_, blocks, b, sealed, down, armed, after, acut, keep, bs, ws, ())

def region_Journal_last.vc (R : Int →
 Int →
 Int →
 Int →
 List UInt8 →
 Int →
 Bool →
 Bool →
 Int →
 Bool →
 List Int →
 List (List (List UInt8)) →
 List (Int × List (List UInt8)) →
 Prop) (rg : Int) (reg : Int) (from_ : Int) (blocks : Int) (b : Str) (sealed : Int) (down : Bool) (armed : Bool) (after : Int) (acut : Bool) (keep : List
 Int) (bs : List (List Str)) (ws : List (Int × List Str)) : Prop :=
 Sp.lPre (from_, blocks, b, sealed) (down, armed, after, acut, keep, bs, ws) ∧
 bif !decide ((Sp.lWrite (from_, blocks, b, sealed) (down, armed, after, acut, keep, bs, ws)).snd = 0) then
 R (Sp.lWrite (from_, blocks, b, sealed) (down, armed, after, acut, keep, bs, ws)).snd reg from_ blocks b sealed
 (Sp.lWrite (from_, blocks, b, sealed) (down, armed, after, acut, keep, bs, ws)).fst.fst (Sp.lWrite (from_, blocks, b, sealed) (down, armed, after, acut, keep, bs, ws)).fst.snd.fst
 (Sp.lWrite (from_, blocks, b, sealed) (down, armed, after, acut, keep, bs, ws)).fst.snd.snd.fst
 (Sp.lWrite (from_, blocks, b, sealed) (down, armed, after, acut, keep, bs, ws)).fst.snd.snd.snd.fst
 (Sp.lWrite (from_, blocks, b, sealed) (down, armed, after, acut, keep, bs, ws)).fst.snd.snd.snd.snd.fst
 (Sp.lWrite (from_, blocks, b, sealed) (down, armed, after, acut, keep, bs, ws)).fst.snd.snd.snd.snd.snd.fst
 (Sp.lWrite (from_, blocks, b, sealed) (down, armed, after, acut, keep, bs, ws)).fst.snd.snd.snd.snd.snd.snd
 else
 Sp.dPre (Sp.lWrite (from_, blocks, b, sealed) (down, armed, after, acut, keep, bs, ws)).fst ∧
 bif !decide ((Sp.dFlush (Sp.lWrite (from_, blocks, b, sealed) (down, armed, after, acut, keep, bs, ws)).fst).snd = 0) then
 R (Sp.dFlush (Sp.lWrite (from_, blocks, b, sealed) (down, armed, after, acut, keep, bs, ws)).fst).snd reg from_ blocks b sealed
 (Sp.dFlush (Sp.lWrite (from_, blocks, b, sealed) (down, armed, after, acut, keep, bs, ws)).fst).fst.fst
 (Sp.dFlush (Sp.lWrite (from_, blocks, b, sealed) (down, armed, after, acut, keep, bs, ws)).fst).fst.snd.fst
 (Sp.dFlush (Sp.lWrite (from_, blocks, b, sealed) (down, armed, after, acut, keep, bs, ws)).fst).fst.snd.snd.fst
 (Sp.dFlush (Sp.lWrite (from_, blocks, b, sealed) (down, armed, after, acut, keep, bs, ws)).fst).fst.snd.snd.snd.fst
 (Sp.dFlush (Sp.lWrite (from_, blocks, b, sealed) (down, armed, after, acut, keep, bs, ws)).fst).fst.snd.snd.snd.snd.fst
 (Sp.dFlush (Sp.lWrite (from_, blocks, b, sealed) (down, armed, after, acut, keep, bs, ws)).fst).fst.snd.snd.snd.snd.snd.fst
 (Sp.dFlush (Sp.lWrite (from_, blocks, b, sealed) (down, armed, after, acut, keep, bs, ws)).fst).fst.snd.snd.snd.snd.snd.snd
 else
 Sp.lOk (from_, blocks, b, sealed) ∧
 Sp.putS.pre (0, rg, Sp.lBytes (from_, blocks, b, sealed), (↑(Sp.lRecs (from_, blocks, b, sealed)).length : Int))
 (Sp.dFlush (Sp.lWrite (from_, blocks, b, sealed) (down, armed, after, acut, keep, bs, ws)).fst).fst ∧
 R
 (Sp.putS (0, rg, Sp.lBytes (from_, blocks, b, sealed), (↑(Sp.lRecs (from_, blocks, b, sealed)).length : Int))
 (Sp.dFlush (Sp.lWrite (from_, blocks, b, sealed) (down, armed, after, acut, keep, bs, ws)).fst).fst).snd
 reg from_ blocks b sealed
 (Sp.putS (0, rg, Sp.lBytes (from_, blocks, b, sealed), (↑(Sp.lRecs (from_, blocks, b, sealed)).length : Int))
 (Sp.dFlush (Sp.lWrite (from_, blocks, b, sealed) (down, armed, after, acut, keep, bs, ws)).fst).fst).fst.fst
 (Sp.putS (0, rg, Sp.lBytes (from_, blocks, b, sealed), (↑(Sp.lRecs (from_, blocks, b, sealed)).length : Int))
 (Sp.dFlush (Sp.lWrite (from_, blocks, b, sealed) (down, armed, after, acut, keep, bs, ws)).fst).fst).fst.snd.fst
 (Sp.putS (0, rg, Sp.lBytes (from_, blocks, b, sealed), (↑(Sp.lRecs (from_, blocks, b, sealed)).length : Int))
 (Sp.dFlush (Sp.lWrite (from_, blocks, b, sealed) (down, armed, after, acut, keep, bs, ws)).fst).fst).fst.snd.snd.fst
 (Sp.putS (0, rg, Sp.lBytes (from_, blocks, b, sealed), (↑(Sp.lRecs (from_, blocks, b, sealed)).length : Int))
 (Sp.dFlush (Sp.lWrite (from_, blocks, b, sealed) (down, armed, after, acut, keep, bs, ws)).fst).fst).fst.snd.snd.snd.fst
 (Sp.putS (0, rg, Sp.lBytes (from_, blocks, b, sealed), (↑(Sp.lRecs (from_, blocks, b, sealed)).length : Int))
 (Sp.dFlush (Sp.lWrite (from_, blocks, b, sealed) (down, armed, after, acut, keep, bs, ws)).fst).fst).fst.snd.snd.snd.snd.fst
 (Sp.putS (0, rg, Sp.lBytes (from_, blocks, b, sealed), (↑(Sp.lRecs (from_, blocks, b, sealed)).length : Int))
 (Sp.dFlush (Sp.lWrite (from_, blocks, b, sealed) (down, armed, after, acut, keep, bs, ws)).fst).fst).fst.snd.snd.snd.snd.snd.fst
 (Sp.putS (0, rg, Sp.lBytes (from_, blocks, b, sealed), (↑(Sp.lRecs (from_, blocks, b, sealed)).length : Int))
 (Sp.dFlush (Sp.lWrite (from_, blocks, b, sealed) (down, armed, after, acut, keep, bs, ws)).fst).fst).fst.snd.snd.snd.snd.snd.snd

def region_last_new.vc (R : Int →
 Int →
 Int →
 Int →
 List UInt8 →
 Int →
 Int →
 Int →
 List UInt8 →
 Int →
 Bool →
 Bool →
 Int →
 Bool →
 List Int →
 List (List (List UInt8)) →
 List (Int × List (List UInt8)) →
 Prop) (rg : Int) (reg : Int) (nfrom_ : Int) (nblocks : Int) (nb : Str) (nsealed : Int) (from_ : Int) (blocks : Int) (b : Str) (sealed : Int) (down : Bool) (armed : Bool) (after : Int) (acut : Bool) (keep : List
 Int) (bs : List (List Str)) (ws : List (Int × List Str)) : Prop :=
 Sp.lPre (nfrom_, nblocks, nb, nsealed) (down, armed, after, acut, keep, bs, ws) ∧
 bif !decide ((Sp.lWrite (nfrom_, nblocks, nb, nsealed) (down, armed, after, acut, keep, bs, ws)).snd = 0) then
 R (Sp.lWrite (nfrom_, nblocks, nb, nsealed) (down, armed, after, acut, keep, bs, ws)).snd reg nfrom_ nblocks nb nsealed from_ blocks b sealed
 (Sp.lWrite (nfrom_, nblocks, nb, nsealed) (down, armed, after, acut, keep, bs, ws)).fst.fst
 (Sp.lWrite (nfrom_, nblocks, nb, nsealed) (down, armed, after, acut, keep, bs, ws)).fst.snd.fst
 (Sp.lWrite (nfrom_, nblocks, nb, nsealed) (down, armed, after, acut, keep, bs, ws)).fst.snd.snd.fst
 (Sp.lWrite (nfrom_, nblocks, nb, nsealed) (down, armed, after, acut, keep, bs, ws)).fst.snd.snd.snd.fst
 (Sp.lWrite (nfrom_, nblocks, nb, nsealed) (down, armed, after, acut, keep, bs, ws)).fst.snd.snd.snd.snd.fst
 (Sp.lWrite (nfrom_, nblocks, nb, nsealed) (down, armed, after, acut, keep, bs, ws)).fst.snd.snd.snd.snd.snd.fst
 (Sp.lWrite (nfrom_, nblocks, nb, nsealed) (down, armed, after, acut, keep, bs, ws)).fst.snd.snd.snd.snd.snd.snd
 else
 Sp.dPre (Sp.lWrite (nfrom_, nblocks, nb, nsealed) (down, armed, after, acut, keep, bs, ws)).fst ∧
 bif !decide ((Sp.dFlush (Sp.lWrite (nfrom_, nblocks, nb, nsealed) (down, armed, after, acut, keep, bs, ws)).fst).snd = 0) then
 R (Sp.dFlush (Sp.lWrite (nfrom_, nblocks, nb, nsealed) (down, armed, after, acut, keep, bs, ws)).fst).snd reg nfrom_ nblocks nb nsealed from_ blocks b sealed
 (Sp.dFlush (Sp.lWrite (nfrom_, nblocks, nb, nsealed) (down, armed, after, acut, keep, bs, ws)).fst).fst.fst
 (Sp.dFlush (Sp.lWrite (nfrom_, nblocks, nb, nsealed) (down, armed, after, acut, keep, bs, ws)).fst).fst.snd.fst
 (Sp.dFlush (Sp.lWrite (nfrom_, nblocks, nb, nsealed) (down, armed, after, acut, keep, bs, ws)).fst).fst.snd.snd.fst
 (Sp.dFlush (Sp.lWrite (nfrom_, nblocks, nb, nsealed) (down, armed, after, acut, keep, bs, ws)).fst).fst.snd.snd.snd.fst
 (Sp.dFlush (Sp.lWrite (nfrom_, nblocks, nb, nsealed) (down, armed, after, acut, keep, bs, ws)).fst).fst.snd.snd.snd.snd.fst
 (Sp.dFlush (Sp.lWrite (nfrom_, nblocks, nb, nsealed) (down, armed, after, acut, keep, bs, ws)).fst).fst.snd.snd.snd.snd.snd.fst
 (Sp.dFlush (Sp.lWrite (nfrom_, nblocks, nb, nsealed) (down, armed, after, acut, keep, bs, ws)).fst).fst.snd.snd.snd.snd.snd.snd
 else
 Sp.lOk (nfrom_, nblocks, nb, nsealed) ∧
 Sp.putS.pre (0, rg, Sp.lBytes (nfrom_, nblocks, nb, nsealed), (↑(Sp.lRecs (nfrom_, nblocks, nb, nsealed)).length : Int))
 (Sp.dFlush (Sp.lWrite (nfrom_, nblocks, nb, nsealed) (down, armed, after, acut, keep, bs, ws)).fst).fst ∧
 R
 (Sp.putS (0, rg, Sp.lBytes (nfrom_, nblocks, nb, nsealed), (↑(Sp.lRecs (nfrom_, nblocks, nb, nsealed)).length : Int))
 (Sp.dFlush (Sp.lWrite (nfrom_, nblocks, nb, nsealed) (down, armed, after, acut, keep, bs, ws)).fst).fst).snd
 reg nfrom_ nblocks nb nsealed from_ blocks b sealed
 (Sp.putS (0, rg, Sp.lBytes (nfrom_, nblocks, nb, nsealed), (↑(Sp.lRecs (nfrom_, nblocks, nb, nsealed)).length : Int))
 (Sp.dFlush (Sp.lWrite (nfrom_, nblocks, nb, nsealed) (down, armed, after, acut, keep, bs, ws)).fst).fst).fst.fst
 (Sp.putS (0, rg, Sp.lBytes (nfrom_, nblocks, nb, nsealed), (↑(Sp.lRecs (nfrom_, nblocks, nb, nsealed)).length : Int))
 (Sp.dFlush (Sp.lWrite (nfrom_, nblocks, nb, nsealed) (down, armed, after, acut, keep, bs, ws)).fst).fst).fst.snd.fst
 (Sp.putS (0, rg, Sp.lBytes (nfrom_, nblocks, nb, nsealed), (↑(Sp.lRecs (nfrom_, nblocks, nb, nsealed)).length : Int))
 (Sp.dFlush (Sp.lWrite (nfrom_, nblocks, nb, nsealed) (down, armed, after, acut, keep, bs, ws)).fst).fst).fst.snd.snd.fst
 (Sp.putS (0, rg, Sp.lBytes (nfrom_, nblocks, nb, nsealed), (↑(Sp.lRecs (nfrom_, nblocks, nb, nsealed)).length : Int))
 (Sp.dFlush (Sp.lWrite (nfrom_, nblocks, nb, nsealed) (down, armed, after, acut, keep, bs, ws)).fst).fst).fst.snd.snd.snd.fst
 (Sp.putS (0, rg, Sp.lBytes (nfrom_, nblocks, nb, nsealed), (↑(Sp.lRecs (nfrom_, nblocks, nb, nsealed)).length : Int))
 (Sp.dFlush (Sp.lWrite (nfrom_, nblocks, nb, nsealed) (down, armed, after, acut, keep, bs, ws)).fst).fst).fst.snd.snd.snd.snd.fst
 (Sp.putS (0, rg, Sp.lBytes (nfrom_, nblocks, nb, nsealed), (↑(Sp.lRecs (nfrom_, nblocks, nb, nsealed)).length : Int))
 (Sp.dFlush (Sp.lWrite (nfrom_, nblocks, nb, nsealed) (down, armed, after, acut, keep, bs, ws)).fst).fst).fst.snd.snd.snd.snd.snd.fst
 (Sp.putS (0, rg, Sp.lBytes (nfrom_, nblocks, nb, nsealed), (↑(Sp.lRecs (nfrom_, nblocks, nb, nsealed)).length : Int))
 (Sp.dFlush (Sp.lWrite (nfrom_, nblocks, nb, nsealed) (down, armed, after, acut, keep, bs, ws)).fst).fst).fst.snd.snd.snd.snd.snd.snd

def region_Journal_Commit.vc (R : Int →
 Int →
 Int →
 Int →
 List UInt8 →
 Int →
 Bool →
 Bool →
 Int →
 Bool →
 List Int →
 List (List (List UInt8)) →
 List (Int × List (List UInt8)) →
 Prop) (recs : List
 Str) (reg : Int) (from_ : Int) (blocks : Int) (b : Str) (sealed : Int) (down : Bool) (armed : Bool) (after : Int) (acut : Bool) (keep : List
 Int) (bs : List (List Str)) (ws : List (Int × List Str)) : Prop :=
 Sp.flPre recs (from_, blocks, b, sealed) ∧
 bif decide ((Sp.lFill recs (from_, blocks, b, sealed)).snd = 0) then
 Sp.jOk (Sp.lFill recs (from_, blocks, b, sealed)).fst reg (down, armed, after, acut, keep, bs, ws) ∧
 bif !decide ((Sp.jLast (Sp.lFill recs (from_, blocks, b, sealed)).fst reg (down, armed, after, acut, keep, bs, ws)).snd = 0) then
 Sp.lOk (Sp.lFill recs (from_, blocks, b, sealed)).fst ∧
 R (Sp.jLast (Sp.lFill recs (from_, blocks, b, sealed)).fst reg (down, armed, after, acut, keep, bs, ws)).snd reg (Sp.lDrop (Sp.lFill recs (from_, blocks, b, sealed)).fst).fst
 (Sp.lDrop (Sp.lFill recs (from_, blocks, b, sealed)).fst).snd.fst (Sp.lDrop (Sp.lFill recs (from_, blocks, b, sealed)).fst).snd.snd.fst
 (Sp.lDrop (Sp.lFill recs (from_, blocks, b, sealed)).fst).snd.snd.snd
 (Sp.jLast (Sp.lFill recs (from_, blocks, b, sealed)).fst reg (down, armed, after, acut, keep, bs, ws)).fst.fst
 (Sp.jLast (Sp.lFill recs (from_, blocks, b, sealed)).fst reg (down, armed, after, acut, keep, bs, ws)).fst.snd.fst
 (Sp.jLast (Sp.lFill recs (from_, blocks, b, sealed)).fst reg (down, armed, after, acut, keep, bs, ws)).fst.snd.snd.fst
 (Sp.jLast (Sp.lFill recs (from_, blocks, b, sealed)).fst reg (down, armed, after, acut, keep, bs, ws)).fst.snd.snd.snd.fst
 (Sp.jLast (Sp.lFill recs (from_, blocks, b, sealed)).fst reg (down, armed, after, acut, keep, bs, ws)).fst.snd.snd.snd.snd.fst
 (Sp.jLast (Sp.lFill recs (from_, blocks, b, sealed)).fst reg (down, armed, after, acut, keep, bs, ws)).fst.snd.snd.snd.snd.snd.fst
 (Sp.jLast (Sp.lFill recs (from_, blocks, b, sealed)).fst reg (down, armed, after, acut, keep, bs, ws)).fst.snd.snd.snd.snd.snd.snd
 else
 R 0 reg (Sp.lSeal (Sp.lFill recs (from_, blocks, b, sealed)).fst).fst (Sp.lSeal (Sp.lFill recs (from_, blocks, b, sealed)).fst).snd.fst
 (Sp.lSeal (Sp.lFill recs (from_, blocks, b, sealed)).fst).snd.snd.fst (Sp.lSeal (Sp.lFill recs (from_, blocks, b, sealed)).fst).snd.snd.snd
 (Sp.jLast (Sp.lFill recs (from_, blocks, b, sealed)).fst reg (down, armed, after, acut, keep, bs, ws)).fst.fst
 (Sp.jLast (Sp.lFill recs (from_, blocks, b, sealed)).fst reg (down, armed, after, acut, keep, bs, ws)).fst.snd.fst
 (Sp.jLast (Sp.lFill recs (from_, blocks, b, sealed)).fst reg (down, armed, after, acut, keep, bs, ws)).fst.snd.snd.fst
 (Sp.jLast (Sp.lFill recs (from_, blocks, b, sealed)).fst reg (down, armed, after, acut, keep, bs, ws)).fst.snd.snd.snd.fst
 (Sp.jLast (Sp.lFill recs (from_, blocks, b, sealed)).fst reg (down, armed, after, acut, keep, bs, ws)).fst.snd.snd.snd.snd.fst
 (Sp.jLast (Sp.lFill recs (from_, blocks, b, sealed)).fst reg (down, armed, after, acut, keep, bs, ws)).fst.snd.snd.snd.snd.snd.fst
 (Sp.jLast (Sp.lFill recs (from_, blocks, b, sealed)).fst reg (down, armed, after, acut, keep, bs, ws)).fst.snd.snd.snd.snd.snd.snd
 else
 bif !decide ((Sp.lFill recs (from_, blocks, b, sealed)).snd = 0) then
 Sp.lOk (Sp.lFill recs (from_, blocks, b, sealed)).fst ∧
 R (Sp.lFill recs (from_, blocks, b, sealed)).snd reg (Sp.lDrop (Sp.lFill recs (from_, blocks, b, sealed)).fst).fst (Sp.lDrop (Sp.lFill recs (from_, blocks, b, sealed)).fst).snd.fst
 (Sp.lDrop (Sp.lFill recs (from_, blocks, b, sealed)).fst).snd.snd.fst (Sp.lDrop (Sp.lFill recs (from_, blocks, b, sealed)).fst).snd.snd.snd down armed after acut keep bs ws
 else
 R 0 reg (Sp.lSeal (Sp.lFill recs (from_, blocks, b, sealed)).fst).fst (Sp.lSeal (Sp.lFill recs (from_, blocks, b, sealed)).fst).snd.fst
 (Sp.lSeal (Sp.lFill recs (from_, blocks, b, sealed)).fst).snd.snd.fst (Sp.lSeal (Sp.lFill recs (from_, blocks, b, sealed)).fst).snd.snd.snd down armed after acut keep bs ws

def region_Commit_nil.vc (R : Int → Prop) (recs : List Str) : Prop :=
 R 7

def region_Journal_Rewrite.vc (R : Int →
 Int →
 Int →
 Int →
 List UInt8 →
 Int →
 Bool →
 Bool →
 Int →
 Bool →
 List Int →
 List (List (List UInt8)) →
 List (Int × List (List UInt8)) →
 Int →
 Int →
 List UInt8 →
 Int →
 Prop) (recs : List
 Str) (reg : Int) (from_ : Int) (blocks : Int) (b : Str) (sealed : Int) (down : Bool) (armed : Bool) (after : Int) (acut : Bool) (keep : List
 Int) (bs : List (List Str)) (ws : List (Int × List Str)) : Prop :=
 Rg IntKind.i64 (1 - reg) ∧
 Sp.rgPre (1 - reg) 0 (down, armed, after, acut, keep, bs, ws) ∧
 bif Sp.rgNil (1 - reg) 0 (down, armed, after, acut, keep, bs, ws) then bif !decide (Sp.rgErr (1 - reg) 0 (down, armed, after, acut, keep, bs, ws) = 0) then False else False
 else
 Sp.flPre recs
 (Sp.rgF (1 - reg) (down, armed, after, acut, keep, bs, ws), Sp.halfD (down, armed, after, acut, keep, bs, ws), Sp.rgS (1 - reg) 0 (down, armed, after, acut, keep, bs, ws), 0) ∧
 bif
 !decide
 ((Sp.lFill recs
 (Sp.rgF (1 - reg) (down, armed, after, acut, keep, bs, ws), Sp.halfD (down, armed, after, acut, keep, bs, ws),
 Sp.rgS (1 - reg) 0 (down, armed, after, acut, keep, bs, ws), 0)).snd =
 0) then
 False
 else
 Rg IntKind.i64 (1 - reg) ∧
 Sp.jOk
 (Sp.lFill recs
 (Sp.rgF (1 - reg) (down, armed, after, acut, keep, bs, ws), Sp.halfD (down, armed, after, acut, keep, bs, ws),
 Sp.rgS (1 - reg) 0 (down, armed, after, acut, keep, bs, ws), 0)).fst
 (1 - reg) (down, armed, after, acut, keep, bs, ws) ∧
 bif
 !decide
 ((Sp.jLast
 (Sp.lFill recs
 (Sp.rgF (1 - reg) (down, armed, after, acut, keep, bs, ws), Sp.halfD (down, armed, after, acut, keep, bs, ws),
 Sp.rgS (1 - reg) 0 (down, armed, after, acut, keep, bs, ws), 0)).fst
 (1 - reg) (down, armed, after, acut, keep, bs, ws)).snd =
 0) then
 False
 else
 Rg IntKind.i64 (1 - reg) ∧
 R 0 (1 - reg) from_ blocks b sealed
 (Sp.jLast
 (Sp.lFill recs
 (Sp.rgF (1 - reg) (down, armed, after, acut, keep, bs, ws), Sp.halfD (down, armed, after, acut, keep, bs, ws),
 Sp.rgS (1 - reg) 0 (down, armed, after, acut, keep, bs, ws), 0)).fst
 (1 - reg) (down, armed, after, acut, keep, bs, ws)).fst.fst
 (Sp.jLast
 (Sp.lFill recs
 (Sp.rgF (1 - reg) (down, armed, after, acut, keep, bs, ws), Sp.halfD (down, armed, after, acut, keep, bs, ws),
 Sp.rgS (1 - reg) 0 (down, armed, after, acut, keep, bs, ws), 0)).fst
 (1 - reg) (down, armed, after, acut, keep, bs, ws)).fst.snd.fst
 (Sp.jLast
 (Sp.lFill recs
 (Sp.rgF (1 - reg) (down, armed, after, acut, keep, bs, ws), Sp.halfD (down, armed, after, acut, keep, bs, ws),
 Sp.rgS (1 - reg) 0 (down, armed, after, acut, keep, bs, ws), 0)).fst
 (1 - reg) (down, armed, after, acut, keep, bs, ws)).fst.snd.snd.fst
 (Sp.jLast
 (Sp.lFill recs
 (Sp.rgF (1 - reg) (down, armed, after, acut, keep, bs, ws), Sp.halfD (down, armed, after, acut, keep, bs, ws),
 Sp.rgS (1 - reg) 0 (down, armed, after, acut, keep, bs, ws), 0)).fst
 (1 - reg) (down, armed, after, acut, keep, bs, ws)).fst.snd.snd.snd.fst
 (Sp.jLast
 (Sp.lFill recs
 (Sp.rgF (1 - reg) (down, armed, after, acut, keep, bs, ws), Sp.halfD (down, armed, after, acut, keep, bs, ws),
 Sp.rgS (1 - reg) 0 (down, armed, after, acut, keep, bs, ws), 0)).fst
 (1 - reg) (down, armed, after, acut, keep, bs, ws)).fst.snd.snd.snd.snd.fst
 (Sp.jLast
 (Sp.lFill recs
 (Sp.rgF (1 - reg) (down, armed, after, acut, keep, bs, ws), Sp.halfD (down, armed, after, acut, keep, bs, ws),
 Sp.rgS (1 - reg) 0 (down, armed, after, acut, keep, bs, ws), 0)).fst
 (1 - reg) (down, armed, after, acut, keep, bs, ws)).fst.snd.snd.snd.snd.snd.fst
 (Sp.jLast
 (Sp.lFill recs
 (Sp.rgF (1 - reg) (down, armed, after, acut, keep, bs, ws), Sp.halfD (down, armed, after, acut, keep, bs, ws),
 Sp.rgS (1 - reg) 0 (down, armed, after, acut, keep, bs, ws), 0)).fst
 (1 - reg) (down, armed, after, acut, keep, bs, ws)).fst.snd.snd.snd.snd.snd.snd
 (Sp.lSeal
 (Sp.lFill recs
 (Sp.rgF (1 - reg) (down, armed, after, acut, keep, bs, ws), Sp.halfD (down, armed, after, acut, keep, bs, ws),
 Sp.rgS (1 - reg) 0 (down, armed, after, acut, keep, bs, ws), 0)).fst).fst
 (Sp.lSeal
 (Sp.lFill recs
 (Sp.rgF (1 - reg) (down, armed, after, acut, keep, bs, ws), Sp.halfD (down, armed, after, acut, keep, bs, ws),
 Sp.rgS (1 - reg) 0 (down, armed, after, acut, keep, bs, ws), 0)).fst).snd.fst
 (Sp.lSeal
 (Sp.lFill recs
 (Sp.rgF (1 - reg) (down, armed, after, acut, keep, bs, ws), Sp.halfD (down, armed, after, acut, keep, bs, ws),
 Sp.rgS (1 - reg) 0 (down, armed, after, acut, keep, bs, ws), 0)).fst).snd.snd.fst
 (Sp.lSeal
 (Sp.lFill recs
 (Sp.rgF (1 - reg) (down, armed, after, acut, keep, bs, ws), Sp.halfD (down, armed, after, acut, keep, bs, ws),
 Sp.rgS (1 - reg) 0 (down, armed, after, acut, keep, bs, ws), 0)).fst).snd.snd.snd

def region_Rewrite_nil.vc (R : Int → Prop) (recs : List Str) : Prop :=
 R 7

def region_Journal_Records.vc (R : List (List UInt8) →
 Int →
 Int →
 Int →
 List UInt8 →
 Int →
 Bool →
 Bool →
 Int →
 Bool →
 List Int →
 List (List (List UInt8)) →
 List (Int × List (List UInt8)) →
 Prop) (reg : Int) (from_ : Int) (blocks : Int) (b : Str) (sealed : Int) (down : Bool) (armed : Bool) (after : Int) (acut : Bool) (keep : List
 Int) (bs : List (List Str)) (ws : List (Int × List Str)) : Prop :=
 Sp.lOk (from_, blocks, b, sealed) ∧ R (Sp.lRecs (from_, blocks, b, sealed)) reg from_ blocks b sealed down armed after acut keep bs ws

def region_Records_nil.vc (R : List (List UInt8) → Prop) : Prop :=
 R []

def region_Journal_Bytes.vc (R : Int →
 Int →
 Int →
 Int →
 List UInt8 →
 Int →
 Bool →
 Bool →
 Int →
 Bool →
 List Int →
 List (List (List UInt8)) →
 List (Int × List (List UInt8)) →
 Prop) (reg : Int) (from_ : Int) (blocks : Int) (b : Str) (sealed : Int) (down : Bool) (armed : Bool) (after : Int) (acut : Bool) (keep : List
 Int) (bs : List (List Str)) (ws : List (Int × List Str)) : Prop :=
 R (Sp.lBytes (from_, blocks, b, sealed)) reg from_ blocks b sealed down armed after acut keep bs ws

def region_Bytes_nil.vc (R : Int → Prop) : Prop :=
 R 0

def region_Journal_Room.vc (R : Int →
 Int →
 Int →
 Int →
 List UInt8 →
 Int →
 Bool →
 Bool →
 Int →
 Bool →
 List Int →
 List (List (List UInt8)) →
 List (Int × List (List UInt8)) →
 Prop) (reg : Int) (from_ : Int) (blocks : Int) (b : Str) (sealed : Int) (down : Bool) (armed : Bool) (after : Int) (acut : Bool) (keep : List
 Int) (bs : List (List Str)) (ws : List (Int × List Str)) : Prop :=
 Sp.lOk (from_, blocks, b, sealed) ∧ R (Sp.lRoom (from_, blocks, b, sealed)) reg from_ blocks b sealed down armed after acut keep bs ws

def region_Room_nil.vc (R : Int → Prop) : Prop :=
 R 0

def region_Journal_Region.vc (R : Int →
 Int →
 Int →
 Int →
 List UInt8 →
 Int →
 Bool →
 Bool →
 Int →
 Bool →
 List Int →
 List (List (List UInt8)) →
 List (Int × List (List UInt8)) →
 Prop) (reg : Int) (from_ : Int) (blocks : Int) (b : Str) (sealed : Int) (down : Bool) (armed : Bool) (after : Int) (acut : Bool) (keep : List
 Int) (bs : List (List Str)) (ws : List (Int × List Str)) : Prop :=
 R reg reg from_ blocks b sealed down armed after acut keep bs ws

def region_Region_nil.vc (R : Int → Prop) : Prop :=
 R 0

def region_Need.L0 (R : Int → Int → Prop) (sum : Int) (t9 : List (List UInt8)) (t10 : Int) (t11 : Int) (K0 : Int × List (List UInt8) × Int × Int × Unit → Prop) : Prop :=
 bif decide (t11 < t10) then
 Ix t11 t9.length ∧
 bif !decide ((Sp.textP (nth t9 t11 [])).snd = 0) then R 0 (Sp.textP (nth t9 t11 [])).snd
 else
 Rg IntKind.i64 (sum + (↑(List.length (Sp.textP (nth t9 t11 [])).fst) : Int)) ∧
 Rg IntKind.i64 (t11 + 1) ∧ K0 (sum + (↑(List.length (Sp.textP (nth t9 t11 [])).fst) : Int), t9, t10, t11 + 1, ())
 else R sum 0
def region_Need.vc (R : Int → Int → Prop) (records : List Str) : Prop :=
 Lp (fun v K => region_Need.L0 R v.fst v.snd.fst v.snd.snd.fst v.snd.snd.snd.fst K) (0, records, (↑records.length : Int), 0, ())

def rectoref30_Need.L0 (R : Int → Int → Prop) (n : Int) (t9 : List (List UInt8)) (t10 : Int) (t11 : Int) (K0 : Int × List (List UInt8) × Int × Int × Unit → Prop) : Prop :=
 bif decide (t11 < t10) then
 Ix t11 t9.length ∧
 bif !decide ((Sp.textP (nth t9 t11 [])).snd = 0) then R 0 (Sp.textP (nth t9 t11 [])).snd
 else
 Rg IntKind.i64 (n + (↑(List.length (Sp.textP (nth t9 t11 [])).fst) : Int)) ∧
 Rg IntKind.i64 (t11 + 1) ∧ K0 (n + (↑(List.length (Sp.textP (nth t9 t11 [])).fst) : Int), t9, t10, t11 + 1, ())
 else R n 0
def rectoref30_Need.vc (R : Int → Int → Prop) (records : List Str) : Prop :=
 Lp (fun v K => rectoref30_Need.L0 R v.fst v.snd.fst v.snd.snd.fst v.snd.snd.snd.fst K) (0, records, (↑records.length : Int), 0, ())

def rectolaw30_put.vc (R : List (List UInt8) → Prop) (a : List Str) (b : List Str) : Prop :=
 Gr 0 a.length 16 ∧ Gr a.length b.length 16 ∧ R (a ++ b)

def rectolaw30_long.L1 (R : Bool →
 Prop) (K0 : Int × List (Int × Int × List (List UInt8) × Bool × List Int) × Int × Int × Unit →
 Prop) (n : Int) (t8 : List
 (Int ×
 Int ×
 List (List UInt8) ×
 Bool ×
 List
 Int)) (t9 : Int) (t10 : Int) (t30 : List
 (List UInt8)) (t31 : Int) (t32 : Int) (K1 : Int × List (Int × Int × List (List UInt8) × Bool × List Int) × Int × Int × List (List UInt8) × Int × Int × Unit → Prop) : Prop :=
 bif decide (t32 < t31) then
 Ix t32 t30.length ∧
 bif decide (70000 < (↑(List.length (nth t30 t32 [])) : Int)) then R true
 else
 Rg IntKind.i64 (n + (↑(List.length (nth t30 t32 [])) : Int)) ∧
 bif decide (140000 < n + (↑(List.length (nth t30 t32 [])) : Int)) then R true
 else Rg IntKind.i64 (t32 + 1) ∧ K1 (n + (↑(List.length (nth t30 t32 [])) : Int), t8, t9, t10, t30, t31, t32 + 1, ())
 else Rg IntKind.i64 (t10 + 1) ∧ K0 (n, t8, t9, t10 + 1, ())
def rectolaw30_long.L0 (R : Bool →
 Prop) (n : Int) (t8 : List
 (Int × Int × List (List UInt8) × Bool × List Int)) (t9 : Int) (t10 : Int) (K0 : Int × List (Int × Int × List (List UInt8) × Bool × List Int) × Int × Int × Unit → Prop) : Prop :=
 bif decide (t10 < t9) then
 Ix t10 t8.length ∧
 bif decide (30 < t10) then R true
 else
 bif decide (60 < (↑(List.length (nth t8 t10 (0, 0, [], false, [])).snd.snd.snd.snd) : Int)) then R true
 else
 bif decide (20 < (↑(List.length (nth t8 t10 (0, 0, [], false, [])).snd.snd.fst) : Int)) then R true
 else
 Lp (fun v K => rectolaw30_long.L1 R K0 v.fst v.snd.fst v.snd.snd.fst v.snd.snd.snd.fst v.snd.snd.snd.snd.fst v.snd.snd.snd.snd.snd.fst v.snd.snd.snd.snd.snd.snd.fst K)
 (n, t8, t9, t10, (nth t8 t10 (0, 0, [], false, [])).snd.snd.fst, (↑(List.length (nth t8 t10 (0, 0, [], false, [])).snd.snd.fst) : Int), 0, ())
 else R false
def rectolaw30_long.vc (R : Bool → Prop) (l : List (Int × Int × List Str × Bool × List Int)) : Prop :=
 Lp (fun v K => rectolaw30_long.L0 R v.fst v.snd.fst v.snd.snd.fst v.snd.snd.snd.fst K) (0, l, (↑l.length : Int), 0, ())

def rectolaw30_abc.vc (R : Bool → Prop) : Prop :=
 Sp.jfPre (false, false, (Sp.dNew 6).snd.snd.fst, false, (Sp.dNew 6).snd.snd.snd.snd) ∧
 Sp.jcPre [[97], [98]] (Sp.joL (Sp.formatS (false, false, (Sp.dNew 6).snd.snd.fst, false, (Sp.dNew 6).snd.snd.snd.snd)).fst)
 (Sp.joR (Sp.formatS (false, false, (Sp.dNew 6).snd.snd.fst, false, (Sp.dNew 6).snd.snd.snd.snd)).fst)
 (false, false, (Sp.formatS (false, false, (Sp.dNew 6).snd.snd.fst, false, (Sp.dNew 6).snd.snd.snd.snd)).fst.snd.snd.fst, false,
 (Sp.formatS (false, false, (Sp.dNew 6).snd.snd.fst, false, (Sp.dNew 6).snd.snd.snd.snd)).fst.snd.snd.snd.snd) ∧
 Sp.lOk
 (Sp.jcL [[97], [98]] (Sp.joL (Sp.formatS (false, false, (Sp.dNew 6).snd.snd.fst, false, (Sp.dNew 6).snd.snd.snd.snd)).fst)
 (Sp.joR (Sp.formatS (false, false, (Sp.dNew 6).snd.snd.fst, false, (Sp.dNew 6).snd.snd.snd.snd)).fst)
 (false, false, (Sp.formatS (false, false, (Sp.dNew 6).snd.snd.fst, false, (Sp.dNew 6).snd.snd.snd.snd)).fst.snd.snd.fst, false,
 (Sp.formatS (false, false, (Sp.dNew 6).snd.snd.fst, false, (Sp.dNew 6).snd.snd.snd.snd)).fst.snd.snd.snd.snd)) ∧
 Sp.rwPre [[99]]
 (Sp.jcL [[97], [98]] (Sp.joL (Sp.formatS (false, false, (Sp.dNew 6).snd.snd.fst, false, (Sp.dNew 6).snd.snd.snd.snd)).fst)
 (Sp.joR (Sp.formatS (false, false, (Sp.dNew 6).snd.snd.fst, false, (Sp.dNew 6).snd.snd.snd.snd)).fst)
 (false, false, (Sp.formatS (false, false, (Sp.dNew 6).snd.snd.fst, false, (Sp.dNew 6).snd.snd.snd.snd)).fst.snd.snd.fst, false,
 (Sp.formatS (false, false, (Sp.dNew 6).snd.snd.fst, false, (Sp.dNew 6).snd.snd.snd.snd)).fst.snd.snd.snd.snd))
 (Sp.joR (Sp.formatS (false, false, (Sp.dNew 6).snd.snd.fst, false, (Sp.dNew 6).snd.snd.snd.snd)).fst)
 (false, false,
 (Sp.jcD [[97], [98]] (Sp.joL (Sp.formatS (false, false, (Sp.dNew 6).snd.snd.fst, false, (Sp.dNew 6).snd.snd.snd.snd)).fst)
 (Sp.joR (Sp.formatS (false, false, (Sp.dNew 6).snd.snd.fst, false, (Sp.dNew 6).snd.snd.snd.snd)).fst)
 (false, false, (Sp.formatS (false, false, (Sp.dNew 6).snd.snd.fst, false, (Sp.dNew 6).snd.snd.snd.snd)).fst.snd.snd.fst, false,
 (Sp.formatS (false, false, (Sp.dNew 6).snd.snd.fst, false, (Sp.dNew 6).snd.snd.snd.snd)).fst.snd.snd.snd.snd)).snd.snd.fst,
 false,
 (Sp.jcD [[97], [98]] (Sp.joL (Sp.formatS (false, false, (Sp.dNew 6).snd.snd.fst, false, (Sp.dNew 6).snd.snd.snd.snd)).fst)
 (Sp.joR (Sp.formatS (false, false, (Sp.dNew 6).snd.snd.fst, false, (Sp.dNew 6).snd.snd.snd.snd)).fst)
 (false, false, (Sp.formatS (false, false, (Sp.dNew 6).snd.snd.fst, false, (Sp.dNew 6).snd.snd.snd.snd)).fst.snd.snd.fst, false,
 (Sp.formatS (false, false, (Sp.dNew 6).snd.snd.fst, false, (Sp.dNew 6).snd.snd.snd.snd)).fst.snd.snd.snd.snd)).snd.snd.snd.snd) ∧
 Sp.gPre
 (false, false,
 (Sp.rwD [[99]] (Sp.joR (Sp.formatS (false, false, (Sp.dNew 6).snd.snd.fst, false, (Sp.dNew 6).snd.snd.snd.snd)).fst)
 (false, false,
 (Sp.jcD [[97], [98]] (Sp.joL (Sp.formatS (false, false, (Sp.dNew 6).snd.snd.fst, false, (Sp.dNew 6).snd.snd.snd.snd)).fst)
 (Sp.joR (Sp.formatS (false, false, (Sp.dNew 6).snd.snd.fst, false, (Sp.dNew 6).snd.snd.snd.snd)).fst)
 (false, false, (Sp.formatS (false, false, (Sp.dNew 6).snd.snd.fst, false, (Sp.dNew 6).snd.snd.snd.snd)).fst.snd.snd.fst, false,
 (Sp.formatS (false, false, (Sp.dNew 6).snd.snd.fst, false, (Sp.dNew 6).snd.snd.snd.snd)).fst.snd.snd.snd.snd)).snd.snd.fst,
 false,
 (Sp.jcD [[97], [98]] (Sp.joL (Sp.formatS (false, false, (Sp.dNew 6).snd.snd.fst, false, (Sp.dNew 6).snd.snd.snd.snd)).fst)
 (Sp.joR (Sp.formatS (false, false, (Sp.dNew 6).snd.snd.fst, false, (Sp.dNew 6).snd.snd.snd.snd)).fst)
 (false, false, (Sp.formatS (false, false, (Sp.dNew 6).snd.snd.fst, false, (Sp.dNew 6).snd.snd.snd.snd)).fst.snd.snd.fst, false,
 (Sp.formatS (false, false, (Sp.dNew 6).snd.snd.fst, false, (Sp.dNew 6).snd.snd.snd.snd)).fst.snd.snd.snd.snd)).snd.snd.snd.snd)).snd.snd.fst,
 false,
 (Sp.rwD [[99]] (Sp.joR (Sp.formatS (false, false, (Sp.dNew 6).snd.snd.fst, false, (Sp.dNew 6).snd.snd.snd.snd)).fst)
 (false, false,
 (Sp.jcD [[97], [98]] (Sp.joL (Sp.formatS (false, false, (Sp.dNew 6).snd.snd.fst, false, (Sp.dNew 6).snd.snd.snd.snd)).fst)
 (Sp.joR (Sp.formatS (false, false, (Sp.dNew 6).snd.snd.fst, false, (Sp.dNew 6).snd.snd.snd.snd)).fst)
 (false, false, (Sp.formatS (false, false, (Sp.dNew 6).snd.snd.fst, false, (Sp.dNew 6).snd.snd.snd.snd)).fst.snd.snd.fst, false,
 (Sp.formatS (false, false, (Sp.dNew 6).snd.snd.fst, false, (Sp.dNew 6).snd.snd.snd.snd)).fst.snd.snd.snd.snd)).snd.snd.fst,
 false,
 (Sp.jcD [[97], [98]] (Sp.joL (Sp.formatS (false, false, (Sp.dNew 6).snd.snd.fst, false, (Sp.dNew 6).snd.snd.snd.snd)).fst)
 (Sp.joR (Sp.formatS (false, false, (Sp.dNew 6).snd.snd.fst, false, (Sp.dNew 6).snd.snd.snd.snd)).fst)
 (false, false, (Sp.formatS (false, false, (Sp.dNew 6).snd.snd.fst, false, (Sp.dNew 6).snd.snd.snd.snd)).fst.snd.snd.fst, false,
 (Sp.formatS (false, false, (Sp.dNew 6).snd.snd.fst, false, (Sp.dNew 6).snd.snd.snd.snd)).fst.snd.snd.snd.snd)).snd.snd.snd.snd)).snd.snd.snd.snd) ∧
 Sp.needP.pre [[97, 98]] ∧
 Sp.eqL.pre
 (Sp.lRecs
 (Sp.jcL [[97], [98]] (Sp.joL (Sp.formatS (false, false, (Sp.dNew 6).snd.snd.fst, false, (Sp.dNew 6).snd.snd.snd.snd)).fst)
 (Sp.joR (Sp.formatS (false, false, (Sp.dNew 6).snd.snd.fst, false, (Sp.dNew 6).snd.snd.snd.snd)).fst)
 (false, false, (Sp.formatS (false, false, (Sp.dNew 6).snd.snd.fst, false, (Sp.dNew 6).snd.snd.snd.snd)).fst.snd.snd.fst, false,
 (Sp.formatS (false, false, (Sp.dNew 6).snd.snd.fst, false, (Sp.dNew 6).snd.snd.snd.snd)).fst.snd.snd.snd.snd)))
 [[97], [98]] ∧
 Sp.lOk
 (Sp.joL
 (false, false,
 (Sp.rwD [[99]] (Sp.joR (Sp.formatS (false, false, (Sp.dNew 6).snd.snd.fst, false, (Sp.dNew 6).snd.snd.snd.snd)).fst)
 (false, false,
 (Sp.jcD [[97], [98]] (Sp.joL (Sp.formatS (false, false, (Sp.dNew 6).snd.snd.fst, false, (Sp.dNew 6).snd.snd.snd.snd)).fst)
 (Sp.joR (Sp.formatS (false, false, (Sp.dNew 6).snd.snd.fst, false, (Sp.dNew 6).snd.snd.snd.snd)).fst)
 (false, false, (Sp.formatS (false, false, (Sp.dNew 6).snd.snd.fst, false, (Sp.dNew 6).snd.snd.snd.snd)).fst.snd.snd.fst, false,
 (Sp.formatS (false, false, (Sp.dNew 6).snd.snd.fst, false, (Sp.dNew 6).snd.snd.snd.snd)).fst.snd.snd.snd.snd)).snd.snd.fst,
 false,
 (Sp.jcD [[97], [98]] (Sp.joL (Sp.formatS (false, false, (Sp.dNew 6).snd.snd.fst, false, (Sp.dNew 6).snd.snd.snd.snd)).fst)
 (Sp.joR (Sp.formatS (false, false, (Sp.dNew 6).snd.snd.fst, false, (Sp.dNew 6).snd.snd.snd.snd)).fst)
 (false, false, (Sp.formatS (false, false, (Sp.dNew 6).snd.snd.fst, false, (Sp.dNew 6).snd.snd.snd.snd)).fst.snd.snd.fst, false,
 (Sp.formatS (false, false, (Sp.dNew 6).snd.snd.fst, false, (Sp.dNew 6).snd.snd.snd.snd)).fst.snd.snd.snd.snd)).snd.snd.snd.snd)).snd.snd.fst,
 false,
 (Sp.rwD [[99]] (Sp.joR (Sp.formatS (false, false, (Sp.dNew 6).snd.snd.fst, false, (Sp.dNew 6).snd.snd.snd.snd)).fst)
 (false, false,
 (Sp.jcD [[97], [98]] (Sp.joL (Sp.formatS (false, false, (Sp.dNew 6).snd.snd.fst, false, (Sp.dNew 6).snd.snd.snd.snd)).fst)
 (Sp.joR (Sp.formatS (false, false, (Sp.dNew 6).snd.snd.fst, false, (Sp.dNew 6).snd.snd.snd.snd)).fst)
 (false, false, (Sp.formatS (false, false, (Sp.dNew 6).snd.snd.fst, false, (Sp.dNew 6).snd.snd.snd.snd)).fst.snd.snd.fst, false,
 (Sp.formatS (false, false, (Sp.dNew 6).snd.snd.fst, false, (Sp.dNew 6).snd.snd.snd.snd)).fst.snd.snd.snd.snd)).snd.snd.fst,
 false,
 (Sp.jcD [[97], [98]] (Sp.joL (Sp.formatS (false, false, (Sp.dNew 6).snd.snd.fst, false, (Sp.dNew 6).snd.snd.snd.snd)).fst)
 (Sp.joR (Sp.formatS (false, false, (Sp.dNew 6).snd.snd.fst, false, (Sp.dNew 6).snd.snd.snd.snd)).fst)
 (false, false, (Sp.formatS (false, false, (Sp.dNew 6).snd.snd.fst, false, (Sp.dNew 6).snd.snd.snd.snd)).fst.snd.snd.fst, false,
 (Sp.formatS
 (false, false, (Sp.dNew 6).snd.snd.fst, false,
 (Sp.dNew 6).snd.snd.snd.snd)).fst.snd.snd.snd.snd)).snd.snd.snd.snd)).snd.snd.snd.snd)) ∧
 Sp.eqL.pre
 (Sp.lRecs
 (Sp.joL
 (false, false,
 (Sp.rwD [[99]] (Sp.joR (Sp.formatS (false, false, (Sp.dNew 6).snd.snd.fst, false, (Sp.dNew 6).snd.snd.snd.snd)).fst)
 (false, false,
 (Sp.jcD [[97], [98]] (Sp.joL (Sp.formatS (false, false, (Sp.dNew 6).snd.snd.fst, false, (Sp.dNew 6).snd.snd.snd.snd)).fst)
 (Sp.joR (Sp.formatS (false, false, (Sp.dNew 6).snd.snd.fst, false, (Sp.dNew 6).snd.snd.snd.snd)).fst)
 (false, false, (Sp.formatS (false, false, (Sp.dNew 6).snd.snd.fst, false, (Sp.dNew 6).snd.snd.snd.snd)).fst.snd.snd.fst, false,
 (Sp.formatS (false, false, (Sp.dNew 6).snd.snd.fst, false, (Sp.dNew 6).snd.snd.snd.snd)).fst.snd.snd.snd.snd)).snd.snd.fst,
 false,
 (Sp.jcD [[97], [98]] (Sp.joL (Sp.formatS (false, false, (Sp.dNew 6).snd.snd.fst, false, (Sp.dNew 6).snd.snd.snd.snd)).fst)
 (Sp.joR (Sp.formatS (false, false, (Sp.dNew 6).snd.snd.fst, false, (Sp.dNew 6).snd.snd.snd.snd)).fst)
 (false, false, (Sp.formatS (false, false, (Sp.dNew 6).snd.snd.fst, false, (Sp.dNew 6).snd.snd.snd.snd)).fst.snd.snd.fst, false,
 (Sp.formatS
 (false, false, (Sp.dNew 6).snd.snd.fst, false,
 (Sp.dNew 6).snd.snd.snd.snd)).fst.snd.snd.snd.snd)).snd.snd.snd.snd)).snd.snd.fst,
 false,
 (Sp.rwD [[99]] (Sp.joR (Sp.formatS (false, false, (Sp.dNew 6).snd.snd.fst, false, (Sp.dNew 6).snd.snd.snd.snd)).fst)
 (false, false,
 (Sp.jcD [[97], [98]] (Sp.joL (Sp.formatS (false, false, (Sp.dNew 6).snd.snd.fst, false, (Sp.dNew 6).snd.snd.snd.snd)).fst)
 (Sp.joR (Sp.formatS (false, false, (Sp.dNew 6).snd.snd.fst, false, (Sp.dNew 6).snd.snd.snd.snd)).fst)
 (false, false, (Sp.formatS (false, false, (Sp.dNew 6).snd.snd.fst, false, (Sp.dNew 6).snd.snd.snd.snd)).fst.snd.snd.fst, false,
 (Sp.formatS (false, false, (Sp.dNew 6).snd.snd.fst, false, (Sp.dNew 6).snd.snd.snd.snd)).fst.snd.snd.snd.snd)).snd.snd.fst,
 false,
 (Sp.jcD [[97], [98]] (Sp.joL (Sp.formatS (false, false, (Sp.dNew 6).snd.snd.fst, false, (Sp.dNew 6).snd.snd.snd.snd)).fst)
 (Sp.joR (Sp.formatS (false, false, (Sp.dNew 6).snd.snd.fst, false, (Sp.dNew 6).snd.snd.snd.snd)).fst)
 (false, false, (Sp.formatS (false, false, (Sp.dNew 6).snd.snd.fst, false, (Sp.dNew 6).snd.snd.snd.snd)).fst.snd.snd.fst, false,
 (Sp.formatS
 (false, false, (Sp.dNew 6).snd.snd.fst, false,
 (Sp.dNew 6).snd.snd.snd.snd)).fst.snd.snd.snd.snd)).snd.snd.snd.snd)).snd.snd.snd.snd)))
 [[99]] ∧
 Sp.lOk
 (Sp.joL
 (false, false,
 (Sp.rwD [[99]] (Sp.joR (Sp.formatS (false, false, (Sp.dNew 6).snd.snd.fst, false, (Sp.dNew 6).snd.snd.snd.snd)).fst)
 (false, false,
 (Sp.jcD [[97], [98]] (Sp.joL (Sp.formatS (false, false, (Sp.dNew 6).snd.snd.fst, false, (Sp.dNew 6).snd.snd.snd.snd)).fst)
 (Sp.joR (Sp.formatS (false, false, (Sp.dNew 6).snd.snd.fst, false, (Sp.dNew 6).snd.snd.snd.snd)).fst)
 (false, false, (Sp.formatS (false, false, (Sp.dNew 6).snd.snd.fst, false, (Sp.dNew 6).snd.snd.snd.snd)).fst.snd.snd.fst, false,
 (Sp.formatS (false, false, (Sp.dNew 6).snd.snd.fst, false, (Sp.dNew 6).snd.snd.snd.snd)).fst.snd.snd.snd.snd)).snd.snd.fst,
 false,
 (Sp.jcD [[97], [98]] (Sp.joL (Sp.formatS (false, false, (Sp.dNew 6).snd.snd.fst, false, (Sp.dNew 6).snd.snd.snd.snd)).fst)
 (Sp.joR (Sp.formatS (false, false, (Sp.dNew 6).snd.snd.fst, false, (Sp.dNew 6).snd.snd.snd.snd)).fst)
 (false, false, (Sp.formatS (false, false, (Sp.dNew 6).snd.snd.fst, false, (Sp.dNew 6).snd.snd.snd.snd)).fst.snd.snd.fst, false,
 (Sp.formatS
 (false, false, (Sp.dNew 6).snd.snd.fst, false,
 (Sp.dNew 6).snd.snd.snd.snd)).fst.snd.snd.snd.snd)).snd.snd.snd.snd)).snd.snd.fst,
 false,
 (Sp.rwD [[99]] (Sp.joR (Sp.formatS (false, false, (Sp.dNew 6).snd.snd.fst, false, (Sp.dNew 6).snd.snd.snd.snd)).fst)
 (false, false,
 (Sp.jcD [[97], [98]] (Sp.joL (Sp.formatS (false, false, (Sp.dNew 6).snd.snd.fst, false, (Sp.dNew 6).snd.snd.snd.snd)).fst)
 (Sp.joR (Sp.formatS (false, false, (Sp.dNew 6).snd.snd.fst, false, (Sp.dNew 6).snd.snd.snd.snd)).fst)
 (false, false, (Sp.formatS (false, false, (Sp.dNew 6).snd.snd.fst, false, (Sp.dNew 6).snd.snd.snd.snd)).fst.snd.snd.fst, false,
 (Sp.formatS (false, false, (Sp.dNew 6).snd.snd.fst, false, (Sp.dNew 6).snd.snd.snd.snd)).fst.snd.snd.snd.snd)).snd.snd.fst,
 false,
 (Sp.jcD [[97], [98]] (Sp.joL (Sp.formatS (false, false, (Sp.dNew 6).snd.snd.fst, false, (Sp.dNew 6).snd.snd.snd.snd)).fst)
 (Sp.joR (Sp.formatS (false, false, (Sp.dNew 6).snd.snd.fst, false, (Sp.dNew 6).snd.snd.snd.snd)).fst)
 (false, false, (Sp.formatS (false, false, (Sp.dNew 6).snd.snd.fst, false, (Sp.dNew 6).snd.snd.snd.snd)).fst.snd.snd.fst, false,
 (Sp.formatS
 (false, false, (Sp.dNew 6).snd.snd.fst, false,
 (Sp.dNew 6).snd.snd.snd.snd)).fst.snd.snd.snd.snd)).snd.snd.snd.snd)).snd.snd.snd.snd)) ∧
 R true

def rectolaw30_RegionNil.vc (R : Bool → Prop) (l : List Str) : Prop :=
 R Sp.tt

def rectolaw30_RegionNeeds.vc (R : Bool → Prop) (l : List Str) (m : List Str) : Prop :=
 Sp.long30.pre [(0, 0, l, false, []), (0, 0, m, false, [])] ∧
 bif Sp.long30 [(0, 0, l, false, []), (0, 0, m, false, [])] then R Sp.tt
 else
 Sp.needP.pre l ∧
 Sp.needP.pre l ∧
 Sp.jfPre (false, false, (Sp.dNew 8).snd.snd.fst, false, (Sp.dNew 8).snd.snd.snd.snd) ∧
 bif !decide ((Sp.needP l).fst = (Sp.needP l).fst) then R false
 else
 bif !decide ((Sp.needP l).snd = (Sp.needP l).snd) then R false
 else
 Sp.jcPre m (Sp.joL (Sp.formatS (false, false, (Sp.dNew 8).snd.snd.fst, false, (Sp.dNew 8).snd.snd.snd.snd)).fst)
 (Sp.joR (Sp.formatS (false, false, (Sp.dNew 8).snd.snd.fst, false, (Sp.dNew 8).snd.snd.snd.snd)).fst)
 (false, false, (Sp.formatS (false, false, (Sp.dNew 8).snd.snd.fst, false, (Sp.dNew 8).snd.snd.snd.snd)).fst.snd.snd.fst, false,
 (Sp.formatS (false, false, (Sp.dNew 8).snd.snd.fst, false, (Sp.dNew 8).snd.snd.snd.snd)).fst.snd.snd.snd.snd) ∧
 Sp.lOk
 (Sp.jcL m (Sp.joL (Sp.formatS (false, false, (Sp.dNew 8).snd.snd.fst, false, (Sp.dNew 8).snd.snd.snd.snd)).fst)
 (Sp.joR (Sp.formatS (false, false, (Sp.dNew 8).snd.snd.fst, false, (Sp.dNew 8).snd.snd.snd.snd)).fst)
 (false, false, (Sp.formatS (false, false, (Sp.dNew 8).snd.snd.fst, false, (Sp.dNew 8).snd.snd.snd.snd)).fst.snd.snd.fst, false,
 (Sp.formatS (false, false, (Sp.dNew 8).snd.snd.fst, false, (Sp.dNew 8).snd.snd.snd.snd)).fst.snd.snd.snd.snd)) ∧
 Sp.jcPre l
 (Sp.jcL m (Sp.joL (Sp.formatS (false, false, (Sp.dNew 8).snd.snd.fst, false, (Sp.dNew 8).snd.snd.snd.snd)).fst)
 (Sp.joR (Sp.formatS (false, false, (Sp.dNew 8).snd.snd.fst, false, (Sp.dNew 8).snd.snd.snd.snd)).fst)
 (false, false, (Sp.formatS (false, false, (Sp.dNew 8).snd.snd.fst, false, (Sp.dNew 8).snd.snd.snd.snd)).fst.snd.snd.fst, false,
 (Sp.formatS (false, false, (Sp.dNew 8).snd.snd.fst, false, (Sp.dNew 8).snd.snd.snd.snd)).fst.snd.snd.snd.snd))
 (Sp.joR (Sp.formatS (false, false, (Sp.dNew 8).snd.snd.fst, false, (Sp.dNew 8).snd.snd.snd.snd)).fst)
 (Sp.jcD m (Sp.joL (Sp.formatS (false, false, (Sp.dNew 8).snd.snd.fst, false, (Sp.dNew 8).snd.snd.snd.snd)).fst)
 (Sp.joR (Sp.formatS (false, false, (Sp.dNew 8).snd.snd.fst, false, (Sp.dNew 8).snd.snd.snd.snd)).fst)
 (false, false, (Sp.formatS (false, false, (Sp.dNew 8).snd.snd.fst, false, (Sp.dNew 8).snd.snd.snd.snd)).fst.snd.snd.fst, false,
 (Sp.formatS (false, false, (Sp.dNew 8).snd.snd.fst, false, (Sp.dNew 8).snd.snd.snd.snd)).fst.snd.snd.snd.snd)) ∧
 bif !decide ((Sp.needP l).snd = 0) then
 bif
 !decide
 (Sp.jcE l
 (Sp.jcL m (Sp.joL (Sp.formatS (false, false, (Sp.dNew 8).snd.snd.fst, false, (Sp.dNew 8).snd.snd.snd.snd)).fst)
 (Sp.joR (Sp.formatS (false, false, (Sp.dNew 8).snd.snd.fst, false, (Sp.dNew 8).snd.snd.snd.snd)).fst)
 (false, false, (Sp.formatS (false, false, (Sp.dNew 8).snd.snd.fst, false, (Sp.dNew 8).snd.snd.snd.snd)).fst.snd.snd.fst, false,
 (Sp.formatS (false, false, (Sp.dNew 8).snd.snd.fst, false, (Sp.dNew 8).snd.snd.snd.snd)).fst.snd.snd.snd.snd))
 (Sp.joR (Sp.formatS (false, false, (Sp.dNew 8).snd.snd.fst, false, (Sp.dNew 8).snd.snd.snd.snd)).fst)
 (Sp.jcD m (Sp.joL (Sp.formatS (false, false, (Sp.dNew 8).snd.snd.fst, false, (Sp.dNew 8).snd.snd.snd.snd)).fst)
 (Sp.joR (Sp.formatS (false, false, (Sp.dNew 8).snd.snd.fst, false, (Sp.dNew 8).snd.snd.snd.snd)).fst)
 (false, false, (Sp.formatS (false, false, (Sp.dNew 8).snd.snd.fst, false, (Sp.dNew 8).snd.snd.snd.snd)).fst.snd.snd.fst, false,
 (Sp.formatS (false, false, (Sp.dNew 8).snd.snd.fst, false, (Sp.dNew 8).snd.snd.snd.snd)).fst.snd.snd.snd.snd)) =
 0) then
 Sp.lOk
 (Sp.jcL l
 (Sp.jcL m (Sp.joL (Sp.formatS (false, false, (Sp.dNew 8).snd.snd.fst, false, (Sp.dNew 8).snd.snd.snd.snd)).fst)
 (Sp.joR (Sp.formatS (false, false, (Sp.dNew 8).snd.snd.fst, false, (Sp.dNew 8).snd.snd.snd.snd)).fst)
 (false, false, (Sp.formatS (false, false, (Sp.dNew 8).snd.snd.fst, false, (Sp.dNew 8).snd.snd.snd.snd)).fst.snd.snd.fst, false,
 (Sp.formatS (false, false, (Sp.dNew 8).snd.snd.fst, false, (Sp.dNew 8).snd.snd.snd.snd)).fst.snd.snd.snd.snd))
 (Sp.joR (Sp.formatS (false, false, (Sp.dNew 8).snd.snd.fst, false, (Sp.dNew 8).snd.snd.snd.snd)).fst)
 (Sp.jcD m (Sp.joL (Sp.formatS (false, false, (Sp.dNew 8).snd.snd.fst, false, (Sp.dNew 8).snd.snd.snd.snd)).fst)
 (Sp.joR (Sp.formatS (false, false, (Sp.dNew 8).snd.snd.fst, false, (Sp.dNew 8).snd.snd.snd.snd)).fst)
 (false, false, (Sp.formatS (false, false, (Sp.dNew 8).snd.snd.fst, false, (Sp.dNew 8).snd.snd.snd.snd)).fst.snd.snd.fst, false,
 (Sp.formatS (false, false, (Sp.dNew 8).snd.snd.fst, false, (Sp.dNew 8).snd.snd.snd.snd)).fst.snd.snd.snd.snd))) ∧
 bif
 decide
 (Sp.lRoom
 (Sp.jcL l
 (Sp.jcL m (Sp.joL (Sp.formatS (false, false, (Sp.dNew 8).snd.snd.fst, false, (Sp.dNew 8).snd.snd.snd.snd)).fst)
 (Sp.joR (Sp.formatS (false, false, (Sp.dNew 8).snd.snd.fst, false, (Sp.dNew 8).snd.snd.snd.snd)).fst)
 (false, false, (Sp.formatS (false, false, (Sp.dNew 8).snd.snd.fst, false, (Sp.dNew 8).snd.snd.snd.snd)).fst.snd.snd.fst, false,
 (Sp.formatS (false, false, (Sp.dNew 8).snd.snd.fst, false, (Sp.dNew 8).snd.snd.snd.snd)).fst.snd.snd.snd.snd))
 (Sp.joR (Sp.formatS (false, false, (Sp.dNew 8).snd.snd.fst, false, (Sp.dNew 8).snd.snd.snd.snd)).fst)
 (Sp.jcD m (Sp.joL (Sp.formatS (false, false, (Sp.dNew 8).snd.snd.fst, false, (Sp.dNew 8).snd.snd.snd.snd)).fst)
 (Sp.joR (Sp.formatS (false, false, (Sp.dNew 8).snd.snd.fst, false, (Sp.dNew 8).snd.snd.snd.snd)).fst)
 (false, false, (Sp.formatS (false, false, (Sp.dNew 8).snd.snd.fst, false, (Sp.dNew 8).snd.snd.snd.snd)).fst.snd.snd.fst, false,
 (Sp.formatS (false, false, (Sp.dNew 8).snd.snd.fst, false, (Sp.dNew 8).snd.snd.snd.snd)).fst.snd.snd.snd.snd))) =
 Sp.lRoom
 (Sp.jcL m (Sp.joL (Sp.formatS (false, false, (Sp.dNew 8).snd.snd.fst, false, (Sp.dNew 8).snd.snd.snd.snd)).fst)
 (Sp.joR (Sp.formatS (false, false, (Sp.dNew 8).snd.snd.fst, false, (Sp.dNew 8).snd.snd.snd.snd)).fst)
 (false, false, (Sp.formatS (false, false, (Sp.dNew 8).snd.snd.fst, false, (Sp.dNew 8).snd.snd.snd.snd)).fst.snd.snd.fst, false,
 (Sp.formatS (false, false, (Sp.dNew 8).snd.snd.fst, false, (Sp.dNew 8).snd.snd.snd.snd)).fst.snd.snd.snd.snd))) then
 R Sp.tt
 else R false
 else R false
 else
 bif
 eqB
 (decide
 (Sp.jcE l
 (Sp.jcL m (Sp.joL (Sp.formatS (false, false, (Sp.dNew 8).snd.snd.fst, false, (Sp.dNew 8).snd.snd.snd.snd)).fst)
 (Sp.joR (Sp.formatS (false, false, (Sp.dNew 8).snd.snd.fst, false, (Sp.dNew 8).snd.snd.snd.snd)).fst)
 (false, false, (Sp.formatS (false, false, (Sp.dNew 8).snd.snd.fst, false, (Sp.dNew 8).snd.snd.snd.snd)).fst.snd.snd.fst, false,
 (Sp.formatS (false, false, (Sp.dNew 8).snd.snd.fst, false, (Sp.dNew 8).snd.snd.snd.snd)).fst.snd.snd.snd.snd))
 (Sp.joR (Sp.formatS (false, false, (Sp.dNew 8).snd.snd.fst, false, (Sp.dNew 8).snd.snd.snd.snd)).fst)
 (Sp.jcD m (Sp.joL (Sp.formatS (false, false, (Sp.dNew 8).snd.snd.fst, false, (Sp.dNew 8).snd.snd.snd.snd)).fst)
 (Sp.joR (Sp.formatS (false, false, (Sp.dNew 8).snd.snd.fst, false, (Sp.dNew 8).snd.snd.snd.snd)).fst)
 (false, false, (Sp.formatS (false, false, (Sp.dNew 8).snd.snd.fst, false, (Sp.dNew 8).snd.snd.snd.snd)).fst.snd.snd.fst, false,
 (Sp.formatS (false, false, (Sp.dNew 8).snd.snd.fst, false, (Sp.dNew 8).snd.snd.snd.snd)).fst.snd.snd.snd.snd)) =
 0))
 (decide
 ((Sp.needP l).fst ≤
 Sp.lRoom
 (Sp.jcL m (Sp.joL (Sp.formatS (false, false, (Sp.dNew 8).snd.snd.fst, false, (Sp.dNew 8).snd.snd.snd.snd)).fst)
 (Sp.joR (Sp.formatS (false, false, (Sp.dNew 8).snd.snd.fst, false, (Sp.dNew 8).snd.snd.snd.snd)).fst)
 (false, false, (Sp.formatS (false, false, (Sp.dNew 8).snd.snd.fst, false, (Sp.dNew 8).snd.snd.snd.snd)).fst.snd.snd.fst, false,
 (Sp.formatS (false, false, (Sp.dNew 8).snd.snd.fst, false, (Sp.dNew 8).snd.snd.snd.snd)).fst.snd.snd.snd.snd)))) then
 bif
 decide
 (Sp.jcE l
 (Sp.jcL m (Sp.joL (Sp.formatS (false, false, (Sp.dNew 8).snd.snd.fst, false, (Sp.dNew 8).snd.snd.snd.snd)).fst)
 (Sp.joR (Sp.formatS (false, false, (Sp.dNew 8).snd.snd.fst, false, (Sp.dNew 8).snd.snd.snd.snd)).fst)
 (false, false, (Sp.formatS (false, false, (Sp.dNew 8).snd.snd.fst, false, (Sp.dNew 8).snd.snd.snd.snd)).fst.snd.snd.fst, false,
 (Sp.formatS (false, false, (Sp.dNew 8).snd.snd.fst, false, (Sp.dNew 8).snd.snd.snd.snd)).fst.snd.snd.snd.snd))
 (Sp.joR (Sp.formatS (false, false, (Sp.dNew 8).snd.snd.fst, false, (Sp.dNew 8).snd.snd.snd.snd)).fst)
 (Sp.jcD m (Sp.joL (Sp.formatS (false, false, (Sp.dNew 8).snd.snd.fst, false, (Sp.dNew 8).snd.snd.snd.snd)).fst)
 (Sp.joR (Sp.formatS (false, false, (Sp.dNew 8).snd.snd.fst, false, (Sp.dNew 8).snd.snd.snd.snd)).fst)
 (false, false, (Sp.formatS (false, false, (Sp.dNew 8).snd.snd.fst, false, (Sp.dNew 8).snd.snd.snd.snd)).fst.snd.snd.fst, false,
 (Sp.formatS (false, false, (Sp.dNew 8).snd.snd.fst, false, (Sp.dNew 8).snd.snd.snd.snd)).fst.snd.snd.snd.snd)) =
 0) then
 Sp.lOk
 (Sp.jcL l
 (Sp.jcL m (Sp.joL (Sp.formatS (false, false, (Sp.dNew 8).snd.snd.fst, false, (Sp.dNew 8).snd.snd.snd.snd)).fst)
 (Sp.joR (Sp.formatS (false, false, (Sp.dNew 8).snd.snd.fst, false, (Sp.dNew 8).snd.snd.snd.snd)).fst)
 (false, false, (Sp.formatS (false, false, (Sp.dNew 8).snd.snd.fst, false, (Sp.dNew 8).snd.snd.snd.snd)).fst.snd.snd.fst, false,
 (Sp.formatS (false, false, (Sp.dNew 8).snd.snd.fst, false, (Sp.dNew 8).snd.snd.snd.snd)).fst.snd.snd.snd.snd))
 (Sp.joR (Sp.formatS (false, false, (Sp.dNew 8).snd.snd.fst, false, (Sp.dNew 8).snd.snd.snd.snd)).fst)
 (Sp.jcD m (Sp.joL (Sp.formatS (false, false, (Sp.dNew 8).snd.snd.fst, false, (Sp.dNew 8).snd.snd.snd.snd)).fst)
 (Sp.joR (Sp.formatS (false, false, (Sp.dNew 8).snd.snd.fst, false, (Sp.dNew 8).snd.snd.snd.snd)).fst)
 (false, false, (Sp.formatS (false, false, (Sp.dNew 8).snd.snd.fst, false, (Sp.dNew 8).snd.snd.snd.snd)).fst.snd.snd.fst, false,
 (Sp.formatS (false, false, (Sp.dNew 8).snd.snd.fst, false, (Sp.dNew 8).snd.snd.snd.snd)).fst.snd.snd.snd.snd))) ∧
 Rg IntKind.i64
 (Sp.lRoom
 (Sp.jcL m (Sp.joL (Sp.formatS (false, false, (Sp.dNew 8).snd.snd.fst, false, (Sp.dNew 8).snd.snd.snd.snd)).fst)
 (Sp.joR (Sp.formatS (false, false, (Sp.dNew 8).snd.snd.fst, false, (Sp.dNew 8).snd.snd.snd.snd)).fst)
 (false, false, (Sp.formatS (false, false, (Sp.dNew 8).snd.snd.fst, false, (Sp.dNew 8).snd.snd.snd.snd)).fst.snd.snd.fst, false,
 (Sp.formatS (false, false, (Sp.dNew 8).snd.snd.fst, false, (Sp.dNew 8).snd.snd.snd.snd)).fst.snd.snd.snd.snd)) -
 (Sp.needP l).fst) ∧
 bif
 decide
 (Sp.lRoom
 (Sp.jcL l
 (Sp.jcL m (Sp.joL (Sp.formatS (false, false, (Sp.dNew 8).snd.snd.fst, false, (Sp.dNew 8).snd.snd.snd.snd)).fst)
 (Sp.joR (Sp.formatS (false, false, (Sp.dNew 8).snd.snd.fst, false, (Sp.dNew 8).snd.snd.snd.snd)).fst)
 (false, false, (Sp.formatS (false, false, (Sp.dNew 8).snd.snd.fst, false, (Sp.dNew 8).snd.snd.snd.snd)).fst.snd.snd.fst, false,
 (Sp.formatS (false, false, (Sp.dNew 8).snd.snd.fst, false, (Sp.dNew 8).snd.snd.snd.snd)).fst.snd.snd.snd.snd))
 (Sp.joR (Sp.formatS (false, false, (Sp.dNew 8).snd.snd.fst, false, (Sp.dNew 8).snd.snd.snd.snd)).fst)
 (Sp.jcD m (Sp.joL (Sp.formatS (false, false, (Sp.dNew 8).snd.snd.fst, false, (Sp.dNew 8).snd.snd.snd.snd)).fst)
 (Sp.joR (Sp.formatS (false, false, (Sp.dNew 8).snd.snd.fst, false, (Sp.dNew 8).snd.snd.snd.snd)).fst)
 (false, false, (Sp.formatS (false, false, (Sp.dNew 8).snd.snd.fst, false, (Sp.dNew 8).snd.snd.snd.snd)).fst.snd.snd.fst, false,
 (Sp.formatS (false, false, (Sp.dNew 8).snd.snd.fst, false, (Sp.dNew 8).snd.snd.snd.snd)).fst.snd.snd.snd.snd))) =
 Sp.lRoom
 (Sp.jcL m (Sp.joL (Sp.formatS (false, false, (Sp.dNew 8).snd.snd.fst, false, (Sp.dNew 8).snd.snd.snd.snd)).fst)
 (Sp.joR (Sp.formatS (false, false, (Sp.dNew 8).snd.snd.fst, false, (Sp.dNew 8).snd.snd.snd.snd)).fst)
 (false, false, (Sp.formatS (false, false, (Sp.dNew 8).snd.snd.fst, false, (Sp.dNew 8).snd.snd.snd.snd)).fst.snd.snd.fst, false,
 (Sp.formatS (false, false, (Sp.dNew 8).snd.snd.fst, false, (Sp.dNew 8).snd.snd.snd.snd)).fst.snd.snd.snd.snd)) -
 (Sp.needP l).fst) then
 R Sp.tt
 else
 bif
 decide
 (Sp.jcE l
 (Sp.jcL m (Sp.joL (Sp.formatS (false, false, (Sp.dNew 8).snd.snd.fst, false, (Sp.dNew 8).snd.snd.snd.snd)).fst)
 (Sp.joR (Sp.formatS (false, false, (Sp.dNew 8).snd.snd.fst, false, (Sp.dNew 8).snd.snd.snd.snd)).fst)
 (false, false, (Sp.formatS (false, false, (Sp.dNew 8).snd.snd.fst, false, (Sp.dNew 8).snd.snd.snd.snd)).fst.snd.snd.fst, false,
 (Sp.formatS (false, false, (Sp.dNew 8).snd.snd.fst, false, (Sp.dNew 8).snd.snd.snd.snd)).fst.snd.snd.snd.snd))
 (Sp.joR (Sp.formatS (false, false, (Sp.dNew 8).snd.snd.fst, false, (Sp.dNew 8).snd.snd.snd.snd)).fst)
 (Sp.jcD m (Sp.joL (Sp.formatS (false, false, (Sp.dNew 8).snd.snd.fst, false, (Sp.dNew 8).snd.snd.snd.snd)).fst)
 (Sp.joR (Sp.formatS (false, false, (Sp.dNew 8).snd.snd.fst, false, (Sp.dNew 8).snd.snd.snd.snd)).fst)
 (false, false, (Sp.formatS (false, false, (Sp.dNew 8).snd.snd.fst, false, (Sp.dNew 8).snd.snd.snd.snd)).fst.snd.snd.fst, false,
 (Sp.formatS (false, false, (Sp.dNew 8).snd.snd.fst, false, (Sp.dNew 8).snd.snd.snd.snd)).fst.snd.snd.snd.snd)) =
 5) then
 Sp.lOk
 (Sp.jcL l
 (Sp.jcL m (Sp.joL (Sp.formatS (false, false, (Sp.dNew 8).snd.snd.fst, false, (Sp.dNew 8).snd.snd.snd.snd)).fst)
 (Sp.joR (Sp.formatS (false, false, (Sp.dNew 8).snd.snd.fst, false, (Sp.dNew 8).snd.snd.snd.snd)).fst)
 (false, false, (Sp.formatS (false, false, (Sp.dNew 8).snd.snd.fst, false, (Sp.dNew 8).snd.snd.snd.snd)).fst.snd.snd.fst, false,
 (Sp.formatS (false, false, (Sp.dNew 8).snd.snd.fst, false, (Sp.dNew 8).snd.snd.snd.snd)).fst.snd.snd.snd.snd))
 (Sp.joR (Sp.formatS (false, false, (Sp.dNew 8).snd.snd.fst, false, (Sp.dNew 8).snd.snd.snd.snd)).fst)
 (Sp.jcD m (Sp.joL (Sp.formatS (false, false, (Sp.dNew 8).snd.snd.fst, false, (Sp.dNew 8).snd.snd.snd.snd)).fst)
 (Sp.joR (Sp.formatS (false, false, (Sp.dNew 8).snd.snd.fst, false, (Sp.dNew 8).snd.snd.snd.snd)).fst)
 (false, false, (Sp.formatS (false, false, (Sp.dNew 8).snd.snd.fst, false, (Sp.dNew 8).snd.snd.snd.snd)).fst.snd.snd.fst, false,
 (Sp.formatS (false, false, (Sp.dNew 8).snd.snd.fst, false, (Sp.dNew 8).snd.snd.snd.snd)).fst.snd.snd.snd.snd))) ∧
 bif
 decide
 (Sp.lRoom
 (Sp.jcL l
 (Sp.jcL m (Sp.joL (Sp.formatS (false, false, (Sp.dNew 8).snd.snd.fst, false, (Sp.dNew 8).snd.snd.snd.snd)).fst)
 (Sp.joR (Sp.formatS (false, false, (Sp.dNew 8).snd.snd.fst, false, (Sp.dNew 8).snd.snd.snd.snd)).fst)
 (false, false, (Sp.formatS (false, false, (Sp.dNew 8).snd.snd.fst, false, (Sp.dNew 8).snd.snd.snd.snd)).fst.snd.snd.fst, false,
 (Sp.formatS (false, false, (Sp.dNew 8).snd.snd.fst, false, (Sp.dNew 8).snd.snd.snd.snd)).fst.snd.snd.snd.snd))
 (Sp.joR (Sp.formatS (false, false, (Sp.dNew 8).snd.snd.fst, false, (Sp.dNew 8).snd.snd.snd.snd)).fst)
 (Sp.jcD m (Sp.joL (Sp.formatS (false, false, (Sp.dNew 8).snd.snd.fst, false, (Sp.dNew 8).snd.snd.snd.snd)).fst)
 (Sp.joR (Sp.formatS (false, false, (Sp.dNew 8).snd.snd.fst, false, (Sp.dNew 8).snd.snd.snd.snd)).fst)
 (false, false, (Sp.formatS (false, false, (Sp.dNew 8).snd.snd.fst, false, (Sp.dNew 8).snd.snd.snd.snd)).fst.snd.snd.fst, false,
 (Sp.formatS (false, false, (Sp.dNew 8).snd.snd.fst, false, (Sp.dNew 8).snd.snd.snd.snd)).fst.snd.snd.snd.snd))) =
 Sp.lRoom
 (Sp.jcL m (Sp.joL (Sp.formatS (false, false, (Sp.dNew 8).snd.snd.fst, false, (Sp.dNew 8).snd.snd.snd.snd)).fst)
 (Sp.joR (Sp.formatS (false, false, (Sp.dNew 8).snd.snd.fst, false, (Sp.dNew 8).snd.snd.snd.snd)).fst)
 (false, false, (Sp.formatS (false, false, (Sp.dNew 8).snd.snd.fst, false, (Sp.dNew 8).snd.snd.snd.snd)).fst.snd.snd.fst, false,
 (Sp.formatS (false, false, (Sp.dNew 8).snd.snd.fst, false, (Sp.dNew 8).snd.snd.snd.snd)).fst.snd.snd.snd.snd))) then
 R Sp.tt
 else R false
 else R false
 else
 bif
 decide
 (Sp.jcE l
 (Sp.jcL m (Sp.joL (Sp.formatS (false, false, (Sp.dNew 8).snd.snd.fst, false, (Sp.dNew 8).snd.snd.snd.snd)).fst)
 (Sp.joR (Sp.formatS (false, false, (Sp.dNew 8).snd.snd.fst, false, (Sp.dNew 8).snd.snd.snd.snd)).fst)
 (false, false, (Sp.formatS (false, false, (Sp.dNew 8).snd.snd.fst, false, (Sp.dNew 8).snd.snd.snd.snd)).fst.snd.snd.fst, false,
 (Sp.formatS (false, false, (Sp.dNew 8).snd.snd.fst, false, (Sp.dNew 8).snd.snd.snd.snd)).fst.snd.snd.snd.snd))
 (Sp.joR (Sp.formatS (false, false, (Sp.dNew 8).snd.snd.fst, false, (Sp.dNew 8).snd.snd.snd.snd)).fst)
 (Sp.jcD m (Sp.joL (Sp.formatS (false, false, (Sp.dNew 8).snd.snd.fst, false, (Sp.dNew 8).snd.snd.snd.snd)).fst)
 (Sp.joR (Sp.formatS (false, false, (Sp.dNew 8).snd.snd.fst, false, (Sp.dNew 8).snd.snd.snd.snd)).fst)
 (false, false, (Sp.formatS (false, false, (Sp.dNew 8).snd.snd.fst, false, (Sp.dNew 8).snd.snd.snd.snd)).fst.snd.snd.fst, false,
 (Sp.formatS (false, false, (Sp.dNew 8).snd.snd.fst, false, (Sp.dNew 8).snd.snd.snd.snd)).fst.snd.snd.snd.snd)) =
 5) then
 Sp.lOk
 (Sp.jcL l
 (Sp.jcL m (Sp.joL (Sp.formatS (false, false, (Sp.dNew 8).snd.snd.fst, false, (Sp.dNew 8).snd.snd.snd.snd)).fst)
 (Sp.joR (Sp.formatS (false, false, (Sp.dNew 8).snd.snd.fst, false, (Sp.dNew 8).snd.snd.snd.snd)).fst)
 (false, false, (Sp.formatS (false, false, (Sp.dNew 8).snd.snd.fst, false, (Sp.dNew 8).snd.snd.snd.snd)).fst.snd.snd.fst, false,
 (Sp.formatS (false, false, (Sp.dNew 8).snd.snd.fst, false, (Sp.dNew 8).snd.snd.snd.snd)).fst.snd.snd.snd.snd))
 (Sp.joR (Sp.formatS (false, false, (Sp.dNew 8).snd.snd.fst, false, (Sp.dNew 8).snd.snd.snd.snd)).fst)
 (Sp.jcD m (Sp.joL (Sp.formatS (false, false, (Sp.dNew 8).snd.snd.fst, false, (Sp.dNew 8).snd.snd.snd.snd)).fst)
 (Sp.joR (Sp.formatS (false, false, (Sp.dNew 8).snd.snd.fst, false, (Sp.dNew 8).snd.snd.snd.snd)).fst)
 (false, false, (Sp.formatS (false, false, (Sp.dNew 8).snd.snd.fst, false, (Sp.dNew 8).snd.snd.snd.snd)).fst.snd.snd.fst, false,
 (Sp.formatS (false, false, (Sp.dNew 8).snd.snd.fst, false, (Sp.dNew 8).snd.snd.snd.snd)).fst.snd.snd.snd.snd))) ∧
 bif
 decide
 (Sp.lRoom
 (Sp.jcL l
 (Sp.jcL m (Sp.joL (Sp.formatS (false, false, (Sp.dNew 8).snd.snd.fst, false, (Sp.dNew 8).snd.snd.snd.snd)).fst)
 (Sp.joR (Sp.formatS (false, false, (Sp.dNew 8).snd.snd.fst, false, (Sp.dNew 8).snd.snd.snd.snd)).fst)
 (false, false, (Sp.formatS (false, false, (Sp.dNew 8).snd.snd.fst, false, (Sp.dNew 8).snd.snd.snd.snd)).fst.snd.snd.fst, false,
 (Sp.formatS (false, false, (Sp.dNew 8).snd.snd.fst, false, (Sp.dNew 8).snd.snd.snd.snd)).fst.snd.snd.snd.snd))
 (Sp.joR (Sp.formatS (false, false, (Sp.dNew 8).snd.snd.fst, false, (Sp.dNew 8).snd.snd.snd.snd)).fst)
 (Sp.jcD m (Sp.joL (Sp.formatS (false, false, (Sp.dNew 8).snd.snd.fst, false, (Sp.dNew 8).snd.snd.snd.snd)).fst)
 (Sp.joR (Sp.formatS (false, false, (Sp.dNew 8).snd.snd.fst, false, (Sp.dNew 8).snd.snd.snd.snd)).fst)
 (false, false, (Sp.formatS (false, false, (Sp.dNew 8).snd.snd.fst, false, (Sp.dNew 8).snd.snd.snd.snd)).fst.snd.snd.fst, false,
 (Sp.formatS (false, false, (Sp.dNew 8).snd.snd.fst, false, (Sp.dNew 8).snd.snd.snd.snd)).fst.snd.snd.snd.snd))) =
 Sp.lRoom
 (Sp.jcL m (Sp.joL (Sp.formatS (false, false, (Sp.dNew 8).snd.snd.fst, false, (Sp.dNew 8).snd.snd.snd.snd)).fst)
 (Sp.joR (Sp.formatS (false, false, (Sp.dNew 8).snd.snd.fst, false, (Sp.dNew 8).snd.snd.snd.snd)).fst)
 (false, false, (Sp.formatS (false, false, (Sp.dNew 8).snd.snd.fst, false, (Sp.dNew 8).snd.snd.snd.snd)).fst.snd.snd.fst, false,
 (Sp.formatS (false, false, (Sp.dNew 8).snd.snd.fst, false, (Sp.dNew 8).snd.snd.snd.snd)).fst.snd.snd.snd.snd))) then
 R Sp.tt
 else R false
 else R false
 else R false

def rectolaw30_RegionStays.vc (R : Bool → Prop) (first : List Str) (more : Int × Int × List Str × Bool × List Int) (later : List Str) : Prop :=
 Sp.long30.pre [(0, 0, first, false, []), more, (0, 0, later, false, [])] ∧
 bif Sp.long30 [(0, 0, first, false, []), more, (0, 0, later, false, [])] then R Sp.tt
 else
 Sp.jfPre (false, false, (Sp.dNew 12).snd.snd.fst, false, (Sp.dNew 12).snd.snd.snd.snd) ∧
 Sp.jcPre first (Sp.joL (Sp.formatS (false, false, (Sp.dNew 12).snd.snd.fst, false, (Sp.dNew 12).snd.snd.snd.snd)).fst)
 (Sp.joR (Sp.formatS (false, false, (Sp.dNew 12).snd.snd.fst, false, (Sp.dNew 12).snd.snd.snd.snd)).fst)
 (false, false, (Sp.formatS (false, false, (Sp.dNew 12).snd.snd.fst, false, (Sp.dNew 12).snd.snd.snd.snd)).fst.snd.snd.fst, false,
 (Sp.formatS (false, false, (Sp.dNew 12).snd.snd.fst, false, (Sp.dNew 12).snd.snd.snd.snd)).fst.snd.snd.snd.snd) ∧
 Sp.lOk
 (Sp.jcL first (Sp.joL (Sp.formatS (false, false, (Sp.dNew 12).snd.snd.fst, false, (Sp.dNew 12).snd.snd.snd.snd)).fst)
 (Sp.joR (Sp.formatS (false, false, (Sp.dNew 12).snd.snd.fst, false, (Sp.dNew 12).snd.snd.snd.snd)).fst)
 (false, false, (Sp.formatS (false, false, (Sp.dNew 12).snd.snd.fst, false, (Sp.dNew 12).snd.snd.snd.snd)).fst.snd.snd.fst, false,
 (Sp.formatS (false, false, (Sp.dNew 12).snd.snd.fst, false, (Sp.dNew 12).snd.snd.snd.snd)).fst.snd.snd.snd.snd)) ∧
 Sp.dSet.pre (more.snd.fst, false, [])
 (Sp.jcD first (Sp.joL (Sp.formatS (false, false, (Sp.dNew 12).snd.snd.fst, false, (Sp.dNew 12).snd.snd.snd.snd)).fst)
 (Sp.joR (Sp.formatS (false, false, (Sp.dNew 12).snd.snd.fst, false, (Sp.dNew 12).snd.snd.snd.snd)).fst)
 (false, false, (Sp.formatS (false, false, (Sp.dNew 12).snd.snd.fst, false, (Sp.dNew 12).snd.snd.snd.snd)).fst.snd.snd.fst, false,
 (Sp.formatS (false, false, (Sp.dNew 12).snd.snd.fst, false, (Sp.dNew 12).snd.snd.snd.snd)).fst.snd.snd.snd.snd)) ∧
 Sp.jcPre more.snd.snd.fst
 (Sp.jcL first (Sp.joL (Sp.formatS (false, false, (Sp.dNew 12).snd.snd.fst, false, (Sp.dNew 12).snd.snd.snd.snd)).fst)
 (Sp.joR (Sp.formatS (false, false, (Sp.dNew 12).snd.snd.fst, false, (Sp.dNew 12).snd.snd.snd.snd)).fst)
 (false, false, (Sp.formatS (false, false, (Sp.dNew 12).snd.snd.fst, false, (Sp.dNew 12).snd.snd.snd.snd)).fst.snd.snd.fst, false,
 (Sp.formatS (false, false, (Sp.dNew 12).snd.snd.fst, false, (Sp.dNew 12).snd.snd.snd.snd)).fst.snd.snd.snd.snd))
 (Sp.joR (Sp.formatS (false, false, (Sp.dNew 12).snd.snd.fst, false, (Sp.dNew 12).snd.snd.snd.snd)).fst)
 (Sp.dSet (more.snd.fst, false, [])
 (Sp.jcD first (Sp.joL (Sp.formatS (false, false, (Sp.dNew 12).snd.snd.fst, false, (Sp.dNew 12).snd.snd.snd.snd)).fst)
 (Sp.joR (Sp.formatS (false, false, (Sp.dNew 12).snd.snd.fst, false, (Sp.dNew 12).snd.snd.snd.snd)).fst)
 (false, false, (Sp.formatS (false, false, (Sp.dNew 12).snd.snd.fst, false, (Sp.dNew 12).snd.snd.snd.snd)).fst.snd.snd.fst, false,
 (Sp.formatS (false, false, (Sp.dNew 12).snd.snd.fst, false, (Sp.dNew 12).snd.snd.snd.snd)).fst.snd.snd.snd.snd))).fst ∧
 bif
 !decide
 (Sp.jcE more.snd.snd.fst
 (Sp.jcL first (Sp.joL (Sp.formatS (false, false, (Sp.dNew 12).snd.snd.fst, false, (Sp.dNew 12).snd.snd.snd.snd)).fst)
 (Sp.joR (Sp.formatS (false, false, (Sp.dNew 12).snd.snd.fst, false, (Sp.dNew 12).snd.snd.snd.snd)).fst)
 (false, false, (Sp.formatS (false, false, (Sp.dNew 12).snd.snd.fst, false, (Sp.dNew 12).snd.snd.snd.snd)).fst.snd.snd.fst, false,
 (Sp.formatS (false, false, (Sp.dNew 12).snd.snd.fst, false, (Sp.dNew 12).snd.snd.snd.snd)).fst.snd.snd.snd.snd))
 (Sp.joR (Sp.formatS (false, false, (Sp.dNew 12).snd.snd.fst, false, (Sp.dNew 12).snd.snd.snd.snd)).fst)
 (Sp.dSet (more.snd.fst, false, [])
 (Sp.jcD first (Sp.joL (Sp.formatS (false, false, (Sp.dNew 12).snd.snd.fst, false, (Sp.dNew 12).snd.snd.snd.snd)).fst)
 (Sp.joR (Sp.formatS (false, false, (Sp.dNew 12).snd.snd.fst, false, (Sp.dNew 12).snd.snd.snd.snd)).fst)
 (false, false, (Sp.formatS (false, false, (Sp.dNew 12).snd.snd.fst, false, (Sp.dNew 12).snd.snd.snd.snd)).fst.snd.snd.fst, false,
 (Sp.formatS (false, false, (Sp.dNew 12).snd.snd.fst, false, (Sp.dNew 12).snd.snd.snd.snd)).fst.snd.snd.snd.snd))).fst =
 0) then
 Sp.lOk
 (Sp.jcL more.snd.snd.fst
 (Sp.jcL first (Sp.joL (Sp.formatS (false, false, (Sp.dNew 12).snd.snd.fst, false, (Sp.dNew 12).snd.snd.snd.snd)).fst)
 (Sp.joR (Sp.formatS (false, false, (Sp.dNew 12).snd.snd.fst, false, (Sp.dNew 12).snd.snd.snd.snd)).fst)
 (false, false, (Sp.formatS (false, false, (Sp.dNew 12).snd.snd.fst, false, (Sp.dNew 12).snd.snd.snd.snd)).fst.snd.snd.fst, false,
 (Sp.formatS (false, false, (Sp.dNew 12).snd.snd.fst, false, (Sp.dNew 12).snd.snd.snd.snd)).fst.snd.snd.snd.snd))
 (Sp.joR (Sp.formatS (false, false, (Sp.dNew 12).snd.snd.fst, false, (Sp.dNew 12).snd.snd.snd.snd)).fst)
 (Sp.dSet (more.snd.fst, false, [])
 (Sp.jcD first (Sp.joL (Sp.formatS (false, false, (Sp.dNew 12).snd.snd.fst, false, (Sp.dNew 12).snd.snd.snd.snd)).fst)
 (Sp.joR (Sp.formatS (false, false, (Sp.dNew 12).snd.snd.fst, false, (Sp.dNew 12).snd.snd.snd.snd)).fst)
 (false, false, (Sp.formatS (false, false, (Sp.dNew 12).snd.snd.fst, false, (Sp.dNew 12).snd.snd.snd.snd)).fst.snd.snd.fst, false,
 (Sp.formatS (false, false, (Sp.dNew 12).snd.snd.fst, false, (Sp.dNew 12).snd.snd.snd.snd)).fst.snd.snd.snd.snd))).fst) ∧
 Sp.eqL.pre
 (Sp.lRecs
 (Sp.jcL more.snd.snd.fst
 (Sp.jcL first (Sp.joL (Sp.formatS (false, false, (Sp.dNew 12).snd.snd.fst, false, (Sp.dNew 12).snd.snd.snd.snd)).fst)
 (Sp.joR (Sp.formatS (false, false, (Sp.dNew 12).snd.snd.fst, false, (Sp.dNew 12).snd.snd.snd.snd)).fst)
 (false, false, (Sp.formatS (false, false, (Sp.dNew 12).snd.snd.fst, false, (Sp.dNew 12).snd.snd.snd.snd)).fst.snd.snd.fst, false,
 (Sp.formatS (false, false, (Sp.dNew 12).snd.snd.fst, false, (Sp.dNew 12).snd.snd.snd.snd)).fst.snd.snd.snd.snd))
 (Sp.joR (Sp.formatS (false, false, (Sp.dNew 12).snd.snd.fst, false, (Sp.dNew 12).snd.snd.snd.snd)).fst)
 (Sp.dSet (more.snd.fst, false, [])
 (Sp.jcD first (Sp.joL (Sp.formatS (false, false, (Sp.dNew 12).snd.snd.fst, false, (Sp.dNew 12).snd.snd.snd.snd)).fst)
 (Sp.joR (Sp.formatS (false, false, (Sp.dNew 12).snd.snd.fst, false, (Sp.dNew 12).snd.snd.snd.snd)).fst)
 (false, false, (Sp.formatS (false, false, (Sp.dNew 12).snd.snd.fst, false, (Sp.dNew 12).snd.snd.snd.snd)).fst.snd.snd.fst, false,
 (Sp.formatS (false, false, (Sp.dNew 12).snd.snd.fst, false, (Sp.dNew 12).snd.snd.snd.snd)).fst.snd.snd.snd.snd))).fst))
 (Sp.lRecs
 (Sp.jcL first (Sp.joL (Sp.formatS (false, false, (Sp.dNew 12).snd.snd.fst, false, (Sp.dNew 12).snd.snd.snd.snd)).fst)
 (Sp.joR (Sp.formatS (false, false, (Sp.dNew 12).snd.snd.fst, false, (Sp.dNew 12).snd.snd.snd.snd)).fst)
 (false, false, (Sp.formatS (false, false, (Sp.dNew 12).snd.snd.fst, false, (Sp.dNew 12).snd.snd.snd.snd)).fst.snd.snd.fst, false,
 (Sp.formatS (false, false, (Sp.dNew 12).snd.snd.fst, false, (Sp.dNew 12).snd.snd.snd.snd)).fst.snd.snd.snd.snd))) ∧
 bif
 !Sp.eqL
 (Sp.lRecs
 (Sp.jcL more.snd.snd.fst
 (Sp.jcL first (Sp.joL (Sp.formatS (false, false, (Sp.dNew 12).snd.snd.fst, false, (Sp.dNew 12).snd.snd.snd.snd)).fst)
 (Sp.joR (Sp.formatS (false, false, (Sp.dNew 12).snd.snd.fst, false, (Sp.dNew 12).snd.snd.snd.snd)).fst)
 (false, false, (Sp.formatS (false, false, (Sp.dNew 12).snd.snd.fst, false, (Sp.dNew 12).snd.snd.snd.snd)).fst.snd.snd.fst, false,
 (Sp.formatS (false, false, (Sp.dNew 12).snd.snd.fst, false, (Sp.dNew 12).snd.snd.snd.snd)).fst.snd.snd.snd.snd))
 (Sp.joR (Sp.formatS (false, false, (Sp.dNew 12).snd.snd.fst, false, (Sp.dNew 12).snd.snd.snd.snd)).fst)
 (Sp.dSet (more.snd.fst, false, [])
 (Sp.jcD first (Sp.joL (Sp.formatS (false, false, (Sp.dNew 12).snd.snd.fst, false, (Sp.dNew 12).snd.snd.snd.snd)).fst)
 (Sp.joR (Sp.formatS (false, false, (Sp.dNew 12).snd.snd.fst, false, (Sp.dNew 12).snd.snd.snd.snd)).fst)
 (false, false, (Sp.formatS (false, false, (Sp.dNew 12).snd.snd.fst, false, (Sp.dNew 12).snd.snd.snd.snd)).fst.snd.snd.fst, false,
 (Sp.formatS (false, false, (Sp.dNew 12).snd.snd.fst, false, (Sp.dNew 12).snd.snd.snd.snd)).fst.snd.snd.snd.snd))).fst))
 (Sp.lRecs
 (Sp.jcL first (Sp.joL (Sp.formatS (false, false, (Sp.dNew 12).snd.snd.fst, false, (Sp.dNew 12).snd.snd.snd.snd)).fst)
 (Sp.joR (Sp.formatS (false, false, (Sp.dNew 12).snd.snd.fst, false, (Sp.dNew 12).snd.snd.snd.snd)).fst)
 (false, false, (Sp.formatS (false, false, (Sp.dNew 12).snd.snd.fst, false, (Sp.dNew 12).snd.snd.snd.snd)).fst.snd.snd.fst, false,
 (Sp.formatS (false, false, (Sp.dNew 12).snd.snd.fst, false, (Sp.dNew 12).snd.snd.snd.snd)).fst.snd.snd.snd.snd))) then
 R false
 else
 Sp.lOk
 (Sp.jcL more.snd.snd.fst
 (Sp.jcL first (Sp.joL (Sp.formatS (false, false, (Sp.dNew 12).snd.snd.fst, false, (Sp.dNew 12).snd.snd.snd.snd)).fst)
 (Sp.joR (Sp.formatS (false, false, (Sp.dNew 12).snd.snd.fst, false, (Sp.dNew 12).snd.snd.snd.snd)).fst)
 (false, false, (Sp.formatS (false, false, (Sp.dNew 12).snd.snd.fst, false, (Sp.dNew 12).snd.snd.snd.snd)).fst.snd.snd.fst, false,
 (Sp.formatS (false, false, (Sp.dNew 12).snd.snd.fst, false, (Sp.dNew 12).snd.snd.snd.snd)).fst.snd.snd.snd.snd))
 (Sp.joR (Sp.formatS (false, false, (Sp.dNew 12).snd.snd.fst, false, (Sp.dNew 12).snd.snd.snd.snd)).fst)
 (Sp.dSet (more.snd.fst, false, [])
 (Sp.jcD first (Sp.joL (Sp.formatS (false, false, (Sp.dNew 12).snd.snd.fst, false, (Sp.dNew 12).snd.snd.snd.snd)).fst)
 (Sp.joR (Sp.formatS (false, false, (Sp.dNew 12).snd.snd.fst, false, (Sp.dNew 12).snd.snd.snd.snd)).fst)
 (false, false, (Sp.formatS (false, false, (Sp.dNew 12).snd.snd.fst, false, (Sp.dNew 12).snd.snd.snd.snd)).fst.snd.snd.fst, false,
 (Sp.formatS (false, false, (Sp.dNew 12).snd.snd.fst, false, (Sp.dNew 12).snd.snd.snd.snd)).fst.snd.snd.snd.snd))).fst) ∧
 Sp.dSet.pre (1099511627776, false, [])
 (Sp.jcD more.snd.snd.fst
 (Sp.jcL first (Sp.joL (Sp.formatS (false, false, (Sp.dNew 12).snd.snd.fst, false, (Sp.dNew 12).snd.snd.snd.snd)).fst)
 (Sp.joR (Sp.formatS (false, false, (Sp.dNew 12).snd.snd.fst, false, (Sp.dNew 12).snd.snd.snd.snd)).fst)
 (false, false, (Sp.formatS (false, false, (Sp.dNew 12).snd.snd.fst, false, (Sp.dNew 12).snd.snd.snd.snd)).fst.snd.snd.fst, false,
 (Sp.formatS (false, false, (Sp.dNew 12).snd.snd.fst, false, (Sp.dNew 12).snd.snd.snd.snd)).fst.snd.snd.snd.snd))
 (Sp.joR (Sp.formatS (false, false, (Sp.dNew 12).snd.snd.fst, false, (Sp.dNew 12).snd.snd.snd.snd)).fst)
 (Sp.dSet (more.snd.fst, false, [])
 (Sp.jcD first (Sp.joL (Sp.formatS (false, false, (Sp.dNew 12).snd.snd.fst, false, (Sp.dNew 12).snd.snd.snd.snd)).fst)
 (Sp.joR (Sp.formatS (false, false, (Sp.dNew 12).snd.snd.fst, false, (Sp.dNew 12).snd.snd.snd.snd)).fst)
 (false, false, (Sp.formatS (false, false, (Sp.dNew 12).snd.snd.fst, false, (Sp.dNew 12).snd.snd.snd.snd)).fst.snd.snd.fst, false,
 (Sp.formatS (false, false, (Sp.dNew 12).snd.snd.fst, false, (Sp.dNew 12).snd.snd.snd.snd)).fst.snd.snd.snd.snd))).fst) ∧
 Sp.jcPre later
 (Sp.jcL more.snd.snd.fst
 (Sp.jcL first (Sp.joL (Sp.formatS (false, false, (Sp.dNew 12).snd.snd.fst, false, (Sp.dNew 12).snd.snd.snd.snd)).fst)
 (Sp.joR (Sp.formatS (false, false, (Sp.dNew 12).snd.snd.fst, false, (Sp.dNew 12).snd.snd.snd.snd)).fst)
 (false, false, (Sp.formatS (false, false, (Sp.dNew 12).snd.snd.fst, false, (Sp.dNew 12).snd.snd.snd.snd)).fst.snd.snd.fst, false,
 (Sp.formatS (false, false, (Sp.dNew 12).snd.snd.fst, false, (Sp.dNew 12).snd.snd.snd.snd)).fst.snd.snd.snd.snd))
 (Sp.joR (Sp.formatS (false, false, (Sp.dNew 12).snd.snd.fst, false, (Sp.dNew 12).snd.snd.snd.snd)).fst)
 (Sp.dSet (more.snd.fst, false, [])
 (Sp.jcD first (Sp.joL (Sp.formatS (false, false, (Sp.dNew 12).snd.snd.fst, false, (Sp.dNew 12).snd.snd.snd.snd)).fst)
 (Sp.joR (Sp.formatS (false, false, (Sp.dNew 12).snd.snd.fst, false, (Sp.dNew 12).snd.snd.snd.snd)).fst)
 (false, false, (Sp.formatS (false, false, (Sp.dNew 12).snd.snd.fst, false, (Sp.dNew 12).snd.snd.snd.snd)).fst.snd.snd.fst, false,
 (Sp.formatS (false, false, (Sp.dNew 12).snd.snd.fst, false, (Sp.dNew 12).snd.snd.snd.snd)).fst.snd.snd.snd.snd))).fst)
 (Sp.joR (Sp.formatS (false, false, (Sp.dNew 12).snd.snd.fst, false, (Sp.dNew 12).snd.snd.snd.snd)).fst)
 (Sp.dSet (1099511627776, false, [])
 (Sp.jcD more.snd.snd.fst
 (Sp.jcL first (Sp.joL (Sp.formatS (false, false, (Sp.dNew 12).snd.snd.fst, false, (Sp.dNew 12).snd.snd.snd.snd)).fst)
 (Sp.joR (Sp.formatS (false, false, (Sp.dNew 12).snd.snd.fst, false, (Sp.dNew 12).snd.snd.snd.snd)).fst)
 (false, false, (Sp.formatS (false, false, (Sp.dNew 12).snd.snd.fst, false, (Sp.dNew 12).snd.snd.snd.snd)).fst.snd.snd.fst, false,
 (Sp.formatS (false, false, (Sp.dNew 12).snd.snd.fst, false, (Sp.dNew 12).snd.snd.snd.snd)).fst.snd.snd.snd.snd))
 (Sp.joR (Sp.formatS (false, false, (Sp.dNew 12).snd.snd.fst, false, (Sp.dNew 12).snd.snd.snd.snd)).fst)
 (Sp.dSet (more.snd.fst, false, [])
 (Sp.jcD first (Sp.joL (Sp.formatS (false, false, (Sp.dNew 12).snd.snd.fst, false, (Sp.dNew 12).snd.snd.snd.snd)).fst)
 (Sp.joR (Sp.formatS (false, false, (Sp.dNew 12).snd.snd.fst, false, (Sp.dNew 12).snd.snd.snd.snd)).fst)
 (false, false, (Sp.formatS (false, false, (Sp.dNew 12).snd.snd.fst, false, (Sp.dNew 12).snd.snd.snd.snd)).fst.snd.snd.fst, false,
 (Sp.formatS (false, false, (Sp.dNew 12).snd.snd.fst, false, (Sp.dNew 12).snd.snd.snd.snd)).fst.snd.snd.snd.snd))).fst)).fst ∧
 bif
 decide
 (Sp.jcE later
 (Sp.jcL more.snd.snd.fst
 (Sp.jcL first (Sp.joL (Sp.formatS (false, false, (Sp.dNew 12).snd.snd.fst, false, (Sp.dNew 12).snd.snd.snd.snd)).fst)
 (Sp.joR (Sp.formatS (false, false, (Sp.dNew 12).snd.snd.fst, false, (Sp.dNew 12).snd.snd.snd.snd)).fst)
 (false, false, (Sp.formatS (false, false, (Sp.dNew 12).snd.snd.fst, false, (Sp.dNew 12).snd.snd.snd.snd)).fst.snd.snd.fst, false,
 (Sp.formatS (false, false, (Sp.dNew 12).snd.snd.fst, false, (Sp.dNew 12).snd.snd.snd.snd)).fst.snd.snd.snd.snd))
 (Sp.joR (Sp.formatS (false, false, (Sp.dNew 12).snd.snd.fst, false, (Sp.dNew 12).snd.snd.snd.snd)).fst)
 (Sp.dSet (more.snd.fst, false, [])
 (Sp.jcD first (Sp.joL (Sp.formatS (false, false, (Sp.dNew 12).snd.snd.fst, false, (Sp.dNew 12).snd.snd.snd.snd)).fst)
 (Sp.joR (Sp.formatS (false, false, (Sp.dNew 12).snd.snd.fst, false, (Sp.dNew 12).snd.snd.snd.snd)).fst)
 (false, false, (Sp.formatS (false, false, (Sp.dNew 12).snd.snd.fst, false, (Sp.dNew 12).snd.snd.snd.snd)).fst.snd.snd.fst, false,
 (Sp.formatS (false, false, (Sp.dNew 12).snd.snd.fst, false, (Sp.dNew 12).snd.snd.snd.snd)).fst.snd.snd.snd.snd))).fst)
 (Sp.joR (Sp.formatS (false, false, (Sp.dNew 12).snd.snd.fst, false, (Sp.dNew 12).snd.snd.snd.snd)).fst)
 (Sp.dSet (1099511627776, false, [])
 (Sp.jcD more.snd.snd.fst
 (Sp.jcL first (Sp.joL (Sp.formatS (false, false, (Sp.dNew 12).snd.snd.fst, false, (Sp.dNew 12).snd.snd.snd.snd)).fst)
 (Sp.joR (Sp.formatS (false, false, (Sp.dNew 12).snd.snd.fst, false, (Sp.dNew 12).snd.snd.snd.snd)).fst)
 (false, false, (Sp.formatS (false, false, (Sp.dNew 12).snd.snd.fst, false, (Sp.dNew 12).snd.snd.snd.snd)).fst.snd.snd.fst, false,
 (Sp.formatS (false, false, (Sp.dNew 12).snd.snd.fst, false, (Sp.dNew 12).snd.snd.snd.snd)).fst.snd.snd.snd.snd))
 (Sp.joR (Sp.formatS (false, false, (Sp.dNew 12).snd.snd.fst, false, (Sp.dNew 12).snd.snd.snd.snd)).fst)
 (Sp.dSet (more.snd.fst, false, [])
 (Sp.jcD first (Sp.joL (Sp.formatS (false, false, (Sp.dNew 12).snd.snd.fst, false, (Sp.dNew 12).snd.snd.snd.snd)).fst)
 (Sp.joR (Sp.formatS (false, false, (Sp.dNew 12).snd.snd.fst, false, (Sp.dNew 12).snd.snd.snd.snd)).fst)
 (false, false, (Sp.formatS (false, false, (Sp.dNew 12).snd.snd.fst, false, (Sp.dNew 12).snd.snd.snd.snd)).fst.snd.snd.fst, false,
 (Sp.formatS (false, false, (Sp.dNew 12).snd.snd.fst, false, (Sp.dNew 12).snd.snd.snd.snd)).fst.snd.snd.snd.snd))).fst)).fst =
 0) then
 Sp.putL.pre
 (Sp.lRecs
 (Sp.jcL more.snd.snd.fst
 (Sp.jcL first (Sp.joL (Sp.formatS (false, false, (Sp.dNew 12).snd.snd.fst, false, (Sp.dNew 12).snd.snd.snd.snd)).fst)
 (Sp.joR (Sp.formatS (false, false, (Sp.dNew 12).snd.snd.fst, false, (Sp.dNew 12).snd.snd.snd.snd)).fst)
 (false, false, (Sp.formatS (false, false, (Sp.dNew 12).snd.snd.fst, false, (Sp.dNew 12).snd.snd.snd.snd)).fst.snd.snd.fst, false,
 (Sp.formatS (false, false, (Sp.dNew 12).snd.snd.fst, false, (Sp.dNew 12).snd.snd.snd.snd)).fst.snd.snd.snd.snd))
 (Sp.joR (Sp.formatS (false, false, (Sp.dNew 12).snd.snd.fst, false, (Sp.dNew 12).snd.snd.snd.snd)).fst)
 (Sp.dSet (more.snd.fst, false, [])
 (Sp.jcD first (Sp.joL (Sp.formatS (false, false, (Sp.dNew 12).snd.snd.fst, false, (Sp.dNew 12).snd.snd.snd.snd)).fst)
 (Sp.joR (Sp.formatS (false, false, (Sp.dNew 12).snd.snd.fst, false, (Sp.dNew 12).snd.snd.snd.snd)).fst)
 (false, false, (Sp.formatS (false, false, (Sp.dNew 12).snd.snd.fst, false, (Sp.dNew 12).snd.snd.snd.snd)).fst.snd.snd.fst, false,
 (Sp.formatS (false, false, (Sp.dNew 12).snd.snd.fst, false, (Sp.dNew 12).snd.snd.snd.snd)).fst.snd.snd.snd.snd))).fst))
 later ∧
 Sp.lOk
 (Sp.jcL later
 (Sp.jcL more.snd.snd.fst
 (Sp.jcL first (Sp.joL (Sp.formatS (false, false, (Sp.dNew 12).snd.snd.fst, false, (Sp.dNew 12).snd.snd.snd.snd)).fst)
 (Sp.joR (Sp.formatS (false, false, (Sp.dNew 12).snd.snd.fst, false, (Sp.dNew 12).snd.snd.snd.snd)).fst)
 (false, false, (Sp.formatS (false, false, (Sp.dNew 12).snd.snd.fst, false, (Sp.dNew 12).snd.snd.snd.snd)).fst.snd.snd.fst, false,
 (Sp.formatS (false, false, (Sp.dNew 12).snd.snd.fst, false, (Sp.dNew 12).snd.snd.snd.snd)).fst.snd.snd.snd.snd))
 (Sp.joR (Sp.formatS (false, false, (Sp.dNew 12).snd.snd.fst, false, (Sp.dNew 12).snd.snd.snd.snd)).fst)
 (Sp.dSet (more.snd.fst, false, [])
 (Sp.jcD first (Sp.joL (Sp.formatS (false, false, (Sp.dNew 12).snd.snd.fst, false, (Sp.dNew 12).snd.snd.snd.snd)).fst)
 (Sp.joR (Sp.formatS (false, false, (Sp.dNew 12).snd.snd.fst, false, (Sp.dNew 12).snd.snd.snd.snd)).fst)
 (false, false, (Sp.formatS (false, false, (Sp.dNew 12).snd.snd.fst, false, (Sp.dNew 12).snd.snd.snd.snd)).fst.snd.snd.fst, false,
 (Sp.formatS (false, false, (Sp.dNew 12).snd.snd.fst, false, (Sp.dNew 12).snd.snd.snd.snd)).fst.snd.snd.snd.snd))).fst)
 (Sp.joR (Sp.formatS (false, false, (Sp.dNew 12).snd.snd.fst, false, (Sp.dNew 12).snd.snd.snd.snd)).fst)
 (Sp.dSet (1099511627776, false, [])
 (Sp.jcD more.snd.snd.fst
 (Sp.jcL first (Sp.joL (Sp.formatS (false, false, (Sp.dNew 12).snd.snd.fst, false, (Sp.dNew 12).snd.snd.snd.snd)).fst)
 (Sp.joR (Sp.formatS (false, false, (Sp.dNew 12).snd.snd.fst, false, (Sp.dNew 12).snd.snd.snd.snd)).fst)
 (false, false, (Sp.formatS (false, false, (Sp.dNew 12).snd.snd.fst, false, (Sp.dNew 12).snd.snd.snd.snd)).fst.snd.snd.fst, false,
 (Sp.formatS (false, false, (Sp.dNew 12).snd.snd.fst, false, (Sp.dNew 12).snd.snd.snd.snd)).fst.snd.snd.snd.snd))
 (Sp.joR (Sp.formatS (false, false, (Sp.dNew 12).snd.snd.fst, false, (Sp.dNew 12).snd.snd.snd.snd)).fst)
 (Sp.dSet (more.snd.fst, false, [])
 (Sp.jcD first (Sp.joL (Sp.formatS (false, false, (Sp.dNew 12).snd.snd.fst, false, (Sp.dNew 12).snd.snd.snd.snd)).fst)
 (Sp.joR (Sp.formatS (false, false, (Sp.dNew 12).snd.snd.fst, false, (Sp.dNew 12).snd.snd.snd.snd)).fst)
 (false, false, (Sp.formatS (false, false, (Sp.dNew 12).snd.snd.fst, false, (Sp.dNew 12).snd.snd.snd.snd)).fst.snd.snd.fst, false,
 (Sp.formatS (false, false, (Sp.dNew 12).snd.snd.fst, false, (Sp.dNew 12).snd.snd.snd.snd)).fst.snd.snd.snd.snd))).fst)).fst) ∧
 Sp.eqL.pre
 (Sp.lRecs
 (Sp.jcL later
 (Sp.jcL more.snd.snd.fst
 (Sp.jcL first (Sp.joL (Sp.formatS (false, false, (Sp.dNew 12).snd.snd.fst, false, (Sp.dNew 12).snd.snd.snd.snd)).fst)
 (Sp.joR (Sp.formatS (false, false, (Sp.dNew 12).snd.snd.fst, false, (Sp.dNew 12).snd.snd.snd.snd)).fst)
 (false, false, (Sp.formatS (false, false, (Sp.dNew 12).snd.snd.fst, false, (Sp.dNew 12).snd.snd.snd.snd)).fst.snd.snd.fst, false,
 (Sp.formatS (false, false, (Sp.dNew 12).snd.snd.fst, false, (Sp.dNew 12).snd.snd.snd.snd)).fst.snd.snd.snd.snd))
 (Sp.joR (Sp.formatS (false, false, (Sp.dNew 12).snd.snd.fst, false, (Sp.dNew 12).snd.snd.snd.snd)).fst)
 (Sp.dSet (more.snd.fst, false, [])
 (Sp.jcD first (Sp.joL (Sp.formatS (false, false, (Sp.dNew 12).snd.snd.fst, false, (Sp.dNew 12).snd.snd.snd.snd)).fst)
 (Sp.joR (Sp.formatS (false, false, (Sp.dNew 12).snd.snd.fst, false, (Sp.dNew 12).snd.snd.snd.snd)).fst)
 (false, false, (Sp.formatS (false, false, (Sp.dNew 12).snd.snd.fst, false, (Sp.dNew 12).snd.snd.snd.snd)).fst.snd.snd.fst, false,
 (Sp.formatS (false, false, (Sp.dNew 12).snd.snd.fst, false, (Sp.dNew 12).snd.snd.snd.snd)).fst.snd.snd.snd.snd))).fst)
 (Sp.joR (Sp.formatS (false, false, (Sp.dNew 12).snd.snd.fst, false, (Sp.dNew 12).snd.snd.snd.snd)).fst)
 (Sp.dSet (1099511627776, false, [])
 (Sp.jcD more.snd.snd.fst
 (Sp.jcL first (Sp.joL (Sp.formatS (false, false, (Sp.dNew 12).snd.snd.fst, false, (Sp.dNew 12).snd.snd.snd.snd)).fst)
 (Sp.joR (Sp.formatS (false, false, (Sp.dNew 12).snd.snd.fst, false, (Sp.dNew 12).snd.snd.snd.snd)).fst)
 (false, false, (Sp.formatS (false, false, (Sp.dNew 12).snd.snd.fst, false, (Sp.dNew 12).snd.snd.snd.snd)).fst.snd.snd.fst, false,
 (Sp.formatS (false, false, (Sp.dNew 12).snd.snd.fst, false, (Sp.dNew 12).snd.snd.snd.snd)).fst.snd.snd.snd.snd))
 (Sp.joR (Sp.formatS (false, false, (Sp.dNew 12).snd.snd.fst, false, (Sp.dNew 12).snd.snd.snd.snd)).fst)
 (Sp.dSet (more.snd.fst, false, [])
 (Sp.jcD first (Sp.joL (Sp.formatS (false, false, (Sp.dNew 12).snd.snd.fst, false, (Sp.dNew 12).snd.snd.snd.snd)).fst)
 (Sp.joR (Sp.formatS (false, false, (Sp.dNew 12).snd.snd.fst, false, (Sp.dNew 12).snd.snd.snd.snd)).fst)
 (false, false, (Sp.formatS (false, false, (Sp.dNew 12).snd.snd.fst, false, (Sp.dNew 12).snd.snd.snd.snd)).fst.snd.snd.fst, false,
 (Sp.formatS (false, false, (Sp.dNew 12).snd.snd.fst, false, (Sp.dNew 12).snd.snd.snd.snd)).fst.snd.snd.snd.snd))).fst)).fst))
 (Sp.putL
 (Sp.lRecs
 (Sp.jcL more.snd.snd.fst
 (Sp.jcL first (Sp.joL (Sp.formatS (false, false, (Sp.dNew 12).snd.snd.fst, false, (Sp.dNew 12).snd.snd.snd.snd)).fst)
 (Sp.joR (Sp.formatS (false, false, (Sp.dNew 12).snd.snd.fst, false, (Sp.dNew 12).snd.snd.snd.snd)).fst)
 (false, false, (Sp.formatS (false, false, (Sp.dNew 12).snd.snd.fst, false, (Sp.dNew 12).snd.snd.snd.snd)).fst.snd.snd.fst, false,
 (Sp.formatS (false, false, (Sp.dNew 12).snd.snd.fst, false, (Sp.dNew 12).snd.snd.snd.snd)).fst.snd.snd.snd.snd))
 (Sp.joR (Sp.formatS (false, false, (Sp.dNew 12).snd.snd.fst, false, (Sp.dNew 12).snd.snd.snd.snd)).fst)
 (Sp.dSet (more.snd.fst, false, [])
 (Sp.jcD first (Sp.joL (Sp.formatS (false, false, (Sp.dNew 12).snd.snd.fst, false, (Sp.dNew 12).snd.snd.snd.snd)).fst)
 (Sp.joR (Sp.formatS (false, false, (Sp.dNew 12).snd.snd.fst, false, (Sp.dNew 12).snd.snd.snd.snd)).fst)
 (false, false, (Sp.formatS (false, false, (Sp.dNew 12).snd.snd.fst, false, (Sp.dNew 12).snd.snd.snd.snd)).fst.snd.snd.fst, false,
 (Sp.formatS (false, false, (Sp.dNew 12).snd.snd.fst, false, (Sp.dNew 12).snd.snd.snd.snd)).fst.snd.snd.snd.snd))).fst))
 later) ∧
 bif
 !Sp.eqL
 (Sp.lRecs
 (Sp.jcL later
 (Sp.jcL more.snd.snd.fst
 (Sp.jcL first (Sp.joL (Sp.formatS (false, false, (Sp.dNew 12).snd.snd.fst, false, (Sp.dNew 12).snd.snd.snd.snd)).fst)
 (Sp.joR (Sp.formatS (false, false, (Sp.dNew 12).snd.snd.fst, false, (Sp.dNew 12).snd.snd.snd.snd)).fst)
 (false, false, (Sp.formatS (false, false, (Sp.dNew 12).snd.snd.fst, false, (Sp.dNew 12).snd.snd.snd.snd)).fst.snd.snd.fst, false,
 (Sp.formatS (false, false, (Sp.dNew 12).snd.snd.fst, false, (Sp.dNew 12).snd.snd.snd.snd)).fst.snd.snd.snd.snd))
 (Sp.joR (Sp.formatS (false, false, (Sp.dNew 12).snd.snd.fst, false, (Sp.dNew 12).snd.snd.snd.snd)).fst)
 (Sp.dSet (more.snd.fst, false, [])
 (Sp.jcD first (Sp.joL (Sp.formatS (false, false, (Sp.dNew 12).snd.snd.fst, false, (Sp.dNew 12).snd.snd.snd.snd)).fst)
 (Sp.joR (Sp.formatS (false, false, (Sp.dNew 12).snd.snd.fst, false, (Sp.dNew 12).snd.snd.snd.snd)).fst)
 (false, false, (Sp.formatS (false, false, (Sp.dNew 12).snd.snd.fst, false, (Sp.dNew 12).snd.snd.snd.snd)).fst.snd.snd.fst, false,
 (Sp.formatS (false, false, (Sp.dNew 12).snd.snd.fst, false, (Sp.dNew 12).snd.snd.snd.snd)).fst.snd.snd.snd.snd))).fst)
 (Sp.joR (Sp.formatS (false, false, (Sp.dNew 12).snd.snd.fst, false, (Sp.dNew 12).snd.snd.snd.snd)).fst)
 (Sp.dSet (1099511627776, false, [])
 (Sp.jcD more.snd.snd.fst
 (Sp.jcL first (Sp.joL (Sp.formatS (false, false, (Sp.dNew 12).snd.snd.fst, false, (Sp.dNew 12).snd.snd.snd.snd)).fst)
 (Sp.joR (Sp.formatS (false, false, (Sp.dNew 12).snd.snd.fst, false, (Sp.dNew 12).snd.snd.snd.snd)).fst)
 (false, false, (Sp.formatS (false, false, (Sp.dNew 12).snd.snd.fst, false, (Sp.dNew 12).snd.snd.snd.snd)).fst.snd.snd.fst, false,
 (Sp.formatS (false, false, (Sp.dNew 12).snd.snd.fst, false, (Sp.dNew 12).snd.snd.snd.snd)).fst.snd.snd.snd.snd))
 (Sp.joR (Sp.formatS (false, false, (Sp.dNew 12).snd.snd.fst, false, (Sp.dNew 12).snd.snd.snd.snd)).fst)
 (Sp.dSet (more.snd.fst, false, [])
 (Sp.jcD first (Sp.joL (Sp.formatS (false, false, (Sp.dNew 12).snd.snd.fst, false, (Sp.dNew 12).snd.snd.snd.snd)).fst)
 (Sp.joR (Sp.formatS (false, false, (Sp.dNew 12).snd.snd.fst, false, (Sp.dNew 12).snd.snd.snd.snd)).fst)
 (false, false, (Sp.formatS (false, false, (Sp.dNew 12).snd.snd.fst, false, (Sp.dNew 12).snd.snd.snd.snd)).fst.snd.snd.fst,
 false,
 (Sp.formatS (false, false, (Sp.dNew 12).snd.snd.fst, false, (Sp.dNew 12).snd.snd.snd.snd)).fst.snd.snd.snd.snd))).fst)).fst))
 (Sp.putL
 (Sp.lRecs
 (Sp.jcL more.snd.snd.fst
 (Sp.jcL first (Sp.joL (Sp.formatS (false, false, (Sp.dNew 12).snd.snd.fst, false, (Sp.dNew 12).snd.snd.snd.snd)).fst)
 (Sp.joR (Sp.formatS (false, false, (Sp.dNew 12).snd.snd.fst, false, (Sp.dNew 12).snd.snd.snd.snd)).fst)
 (false, false, (Sp.formatS (false, false, (Sp.dNew 12).snd.snd.fst, false, (Sp.dNew 12).snd.snd.snd.snd)).fst.snd.snd.fst, false,
 (Sp.formatS (false, false, (Sp.dNew 12).snd.snd.fst, false, (Sp.dNew 12).snd.snd.snd.snd)).fst.snd.snd.snd.snd))
 (Sp.joR (Sp.formatS (false, false, (Sp.dNew 12).snd.snd.fst, false, (Sp.dNew 12).snd.snd.snd.snd)).fst)
 (Sp.dSet (more.snd.fst, false, [])
 (Sp.jcD first (Sp.joL (Sp.formatS (false, false, (Sp.dNew 12).snd.snd.fst, false, (Sp.dNew 12).snd.snd.snd.snd)).fst)
 (Sp.joR (Sp.formatS (false, false, (Sp.dNew 12).snd.snd.fst, false, (Sp.dNew 12).snd.snd.snd.snd)).fst)
 (false, false, (Sp.formatS (false, false, (Sp.dNew 12).snd.snd.fst, false, (Sp.dNew 12).snd.snd.snd.snd)).fst.snd.snd.fst, false,
 (Sp.formatS (false, false, (Sp.dNew 12).snd.snd.fst, false, (Sp.dNew 12).snd.snd.snd.snd)).fst.snd.snd.snd.snd))).fst))
 later) then
 R false
 else
 Sp.dFall.pre more.snd.snd.snd.snd
 (Sp.jcD later
 (Sp.jcL more.snd.snd.fst
 (Sp.jcL first (Sp.joL (Sp.formatS (false, false, (Sp.dNew 12).snd.snd.fst, false, (Sp.dNew 12).snd.snd.snd.snd)).fst)
 (Sp.joR (Sp.formatS (false, false, (Sp.dNew 12).snd.snd.fst, false, (Sp.dNew 12).snd.snd.snd.snd)).fst)
 (false, false, (Sp.formatS (false, false, (Sp.dNew 12).snd.snd.fst, false, (Sp.dNew 12).snd.snd.snd.snd)).fst.snd.snd.fst, false,
 (Sp.formatS (false, false, (Sp.dNew 12).snd.snd.fst, false, (Sp.dNew 12).snd.snd.snd.snd)).fst.snd.snd.snd.snd))
 (Sp.joR (Sp.formatS (false, false, (Sp.dNew 12).snd.snd.fst, false, (Sp.dNew 12).snd.snd.snd.snd)).fst)
 (Sp.dSet (more.snd.fst, false, [])
 (Sp.jcD first (Sp.joL (Sp.formatS (false, false, (Sp.dNew 12).snd.snd.fst, false, (Sp.dNew 12).snd.snd.snd.snd)).fst)
 (Sp.joR (Sp.formatS (false, false, (Sp.dNew 12).snd.snd.fst, false, (Sp.dNew 12).snd.snd.snd.snd)).fst)
 (false, false, (Sp.formatS (false, false, (Sp.dNew 12).snd.snd.fst, false, (Sp.dNew 12).snd.snd.snd.snd)).fst.snd.snd.fst, false,
 (Sp.formatS (false, false, (Sp.dNew 12).snd.snd.fst, false, (Sp.dNew 12).snd.snd.snd.snd)).fst.snd.snd.snd.snd))).fst)
 (Sp.joR (Sp.formatS (false, false, (Sp.dNew 12).snd.snd.fst, false, (Sp.dNew 12).snd.snd.snd.snd)).fst)
 (Sp.dSet (1099511627776, false, [])
 (Sp.jcD more.snd.snd.fst
 (Sp.jcL first (Sp.joL (Sp.formatS (false, false, (Sp.dNew 12).snd.snd.fst, false, (Sp.dNew 12).snd.snd.snd.snd)).fst)
 (Sp.joR (Sp.formatS (false, false, (Sp.dNew 12).snd.snd.fst, false, (Sp.dNew 12).snd.snd.snd.snd)).fst)
 (false, false, (Sp.formatS (false, false, (Sp.dNew 12).snd.snd.fst, false, (Sp.dNew 12).snd.snd.snd.snd)).fst.snd.snd.fst, false,
 (Sp.formatS (false, false, (Sp.dNew 12).snd.snd.fst, false, (Sp.dNew 12).snd.snd.snd.snd)).fst.snd.snd.snd.snd))
 (Sp.joR (Sp.formatS (false, false, (Sp.dNew 12).snd.snd.fst, false, (Sp.dNew 12).snd.snd.snd.snd)).fst)
 (Sp.dSet (more.snd.fst, false, [])
 (Sp.jcD first (Sp.joL (Sp.formatS (false, false, (Sp.dNew 12).snd.snd.fst, false, (Sp.dNew 12).snd.snd.snd.snd)).fst)
 (Sp.joR (Sp.formatS (false, false, (Sp.dNew 12).snd.snd.fst, false, (Sp.dNew 12).snd.snd.snd.snd)).fst)
 (false, false, (Sp.formatS (false, false, (Sp.dNew 12).snd.snd.fst, false, (Sp.dNew 12).snd.snd.snd.snd)).fst.snd.snd.fst, false,
 (Sp.formatS (false, false, (Sp.dNew 12).snd.snd.fst, false, (Sp.dNew 12).snd.snd.snd.snd)).fst.snd.snd.snd.snd))).fst)).fst) ∧
 bif
 !decide
 ((Sp.dCrash more.snd.snd.snd.snd
 (Sp.jcD later
 (Sp.jcL more.snd.snd.fst
 (Sp.jcL first (Sp.joL (Sp.formatS (false, false, (Sp.dNew 12).snd.snd.fst, false, (Sp.dNew 12).snd.snd.snd.snd)).fst)
 (Sp.joR (Sp.formatS (false, false, (Sp.dNew 12).snd.snd.fst, false, (Sp.dNew 12).snd.snd.snd.snd)).fst)
 (false, false, (Sp.formatS (false, false, (Sp.dNew 12).snd.snd.fst, false, (Sp.dNew 12).snd.snd.snd.snd)).fst.snd.snd.fst,
 false, (Sp.formatS (false, false, (Sp.dNew 12).snd.snd.fst, false, (Sp.dNew 12).snd.snd.snd.snd)).fst.snd.snd.snd.snd))
 (Sp.joR (Sp.formatS (false, false, (Sp.dNew 12).snd.snd.fst, false, (Sp.dNew 12).snd.snd.snd.snd)).fst)
 (Sp.dSet (more.snd.fst, false, [])
 (Sp.jcD first (Sp.joL (Sp.formatS (false, false, (Sp.dNew 12).snd.snd.fst, false, (Sp.dNew 12).snd.snd.snd.snd)).fst)
 (Sp.joR (Sp.formatS (false, false, (Sp.dNew 12).snd.snd.fst, false, (Sp.dNew 12).snd.snd.snd.snd)).fst)
 (false, false, (Sp.formatS (false, false, (Sp.dNew 12).snd.snd.fst, false, (Sp.dNew 12).snd.snd.snd.snd)).fst.snd.snd.fst,
 false,
 (Sp.formatS (false, false, (Sp.dNew 12).snd.snd.fst, false, (Sp.dNew 12).snd.snd.snd.snd)).fst.snd.snd.snd.snd))).fst)
 (Sp.joR (Sp.formatS (false, false, (Sp.dNew 12).snd.snd.fst, false, (Sp.dNew 12).snd.snd.snd.snd)).fst)
 (Sp.dSet (1099511627776, false, [])
 (Sp.jcD more.snd.snd.fst
 (Sp.jcL first (Sp.joL (Sp.formatS (false, false, (Sp.dNew 12).snd.snd.fst, false, (Sp.dNew 12).snd.snd.snd.snd)).fst)
 (Sp.joR (Sp.formatS (false, false, (Sp.dNew 12).snd.snd.fst, false, (Sp.dNew 12).snd.snd.snd.snd)).fst)
 (false, false, (Sp.formatS (false, false, (Sp.dNew 12).snd.snd.fst, false, (Sp.dNew 12).snd.snd.snd.snd)).fst.snd.snd.fst,
 false, (Sp.formatS (false, false, (Sp.dNew 12).snd.snd.fst, false, (Sp.dNew 12).snd.snd.snd.snd)).fst.snd.snd.snd.snd))
 (Sp.joR (Sp.formatS (false, false, (Sp.dNew 12).snd.snd.fst, false, (Sp.dNew 12).snd.snd.snd.snd)).fst)
 (Sp.dSet (more.snd.fst, false, [])
 (Sp.jcD first (Sp.joL (Sp.formatS (false, false, (Sp.dNew 12).snd.snd.fst, false, (Sp.dNew 12).snd.snd.snd.snd)).fst)
 (Sp.joR (Sp.formatS (false, false, (Sp.dNew 12).snd.snd.fst, false, (Sp.dNew 12).snd.snd.snd.snd)).fst)
 (false, false,
 (Sp.formatS (false, false, (Sp.dNew 12).snd.snd.fst, false, (Sp.dNew 12).snd.snd.snd.snd)).fst.snd.snd.fst, false,
 (Sp.formatS
 (false, false, (Sp.dNew 12).snd.snd.fst, false,
 (Sp.dNew 12).snd.snd.snd.snd)).fst.snd.snd.snd.snd))).fst)).fst)).snd =
 0) then
 R false
 else
 Sp.dPre
 (Sp.dCrash more.snd.snd.snd.snd
 (Sp.jcD later
 (Sp.jcL more.snd.snd.fst
 (Sp.jcL first (Sp.joL (Sp.formatS (false, false, (Sp.dNew 12).snd.snd.fst, false, (Sp.dNew 12).snd.snd.snd.snd)).fst)
 (Sp.joR (Sp.formatS (false, false, (Sp.dNew 12).snd.snd.fst, false, (Sp.dNew 12).snd.snd.snd.snd)).fst)
 (false, false, (Sp.formatS (false, false, (Sp.dNew 12).snd.snd.fst, false, (Sp.dNew 12).snd.snd.snd.snd)).fst.snd.snd.fst, false,
 (Sp.formatS (false, false, (Sp.dNew 12).snd.snd.fst, false, (Sp.dNew 12).snd.snd.snd.snd)).fst.snd.snd.snd.snd))
 (Sp.joR (Sp.formatS (false, false, (Sp.dNew 12).snd.snd.fst, false, (Sp.dNew 12).snd.snd.snd.snd)).fst)
 (Sp.dSet (more.snd.fst, false, [])
 (Sp.jcD first (Sp.joL (Sp.formatS (false, false, (Sp.dNew 12).snd.snd.fst, false, (Sp.dNew 12).snd.snd.snd.snd)).fst)
 (Sp.joR (Sp.formatS (false, false, (Sp.dNew 12).snd.snd.fst, false, (Sp.dNew 12).snd.snd.snd.snd)).fst)
 (false, false, (Sp.formatS (false, false, (Sp.dNew 12).snd.snd.fst, false, (Sp.dNew 12).snd.snd.snd.snd)).fst.snd.snd.fst,
 false, (Sp.formatS (false, false, (Sp.dNew 12).snd.snd.fst, false, (Sp.dNew 12).snd.snd.snd.snd)).fst.snd.snd.snd.snd))).fst)
 (Sp.joR (Sp.formatS (false, false, (Sp.dNew 12).snd.snd.fst, false, (Sp.dNew 12).snd.snd.snd.snd)).fst)
 (Sp.dSet (1099511627776, false, [])
 (Sp.jcD more.snd.snd.fst
 (Sp.jcL first (Sp.joL (Sp.formatS (false, false, (Sp.dNew 12).snd.snd.fst, false, (Sp.dNew 12).snd.snd.snd.snd)).fst)
 (Sp.joR (Sp.formatS (false, false, (Sp.dNew 12).snd.snd.fst, false, (Sp.dNew 12).snd.snd.snd.snd)).fst)
 (false, false, (Sp.formatS (false, false, (Sp.dNew 12).snd.snd.fst, false, (Sp.dNew 12).snd.snd.snd.snd)).fst.snd.snd.fst,
 false, (Sp.formatS (false, false, (Sp.dNew 12).snd.snd.fst, false, (Sp.dNew 12).snd.snd.snd.snd)).fst.snd.snd.snd.snd))
 (Sp.joR (Sp.formatS (false, false, (Sp.dNew 12).snd.snd.fst, false, (Sp.dNew 12).snd.snd.snd.snd)).fst)
 (Sp.dSet (more.snd.fst, false, [])
 (Sp.jcD first (Sp.joL (Sp.formatS (false, false, (Sp.dNew 12).snd.snd.fst, false, (Sp.dNew 12).snd.snd.snd.snd)).fst)
 (Sp.joR (Sp.formatS (false, false, (Sp.dNew 12).snd.snd.fst, false, (Sp.dNew 12).snd.snd.snd.snd)).fst)
 (false, false, (Sp.formatS (false, false, (Sp.dNew 12).snd.snd.fst, false, (Sp.dNew 12).snd.snd.snd.snd)).fst.snd.snd.fst,
 false,
 (Sp.formatS
 (false, false, (Sp.dNew 12).snd.snd.fst, false,
 (Sp.dNew 12).snd.snd.snd.snd)).fst.snd.snd.snd.snd))).fst)).fst)).fst ∧
 bif
 !decide
 ((Sp.dStart
 (Sp.dCrash more.snd.snd.snd.snd
 (Sp.jcD later
 (Sp.jcL more.snd.snd.fst
 (Sp.jcL first (Sp.joL (Sp.formatS (false, false, (Sp.dNew 12).snd.snd.fst, false, (Sp.dNew 12).snd.snd.snd.snd)).fst)
 (Sp.joR (Sp.formatS (false, false, (Sp.dNew 12).snd.snd.fst, false, (Sp.dNew 12).snd.snd.snd.snd)).fst)
 (false, false,
 (Sp.formatS (false, false, (Sp.dNew 12).snd.snd.fst, false, (Sp.dNew 12).snd.snd.snd.snd)).fst.snd.snd.fst, false,
 (Sp.formatS (false, false, (Sp.dNew 12).snd.snd.fst, false, (Sp.dNew 12).snd.snd.snd.snd)).fst.snd.snd.snd.snd))
 (Sp.joR (Sp.formatS (false, false, (Sp.dNew 12).snd.snd.fst, false, (Sp.dNew 12).snd.snd.snd.snd)).fst)
 (Sp.dSet (more.snd.fst, false, [])
 (Sp.jcD first (Sp.joL (Sp.formatS (false, false, (Sp.dNew 12).snd.snd.fst, false, (Sp.dNew 12).snd.snd.snd.snd)).fst)
 (Sp.joR (Sp.formatS (false, false, (Sp.dNew 12).snd.snd.fst, false, (Sp.dNew 12).snd.snd.snd.snd)).fst)
 (false, false,
 (Sp.formatS (false, false, (Sp.dNew 12).snd.snd.fst, false, (Sp.dNew 12).snd.snd.snd.snd)).fst.snd.snd.fst, false,
 (Sp.formatS
 (false, false, (Sp.dNew 12).snd.snd.fst, false,
 (Sp.dNew 12).snd.snd.snd.snd)).fst.snd.snd.snd.snd))).fst)
 (Sp.joR (Sp.formatS (false, false, (Sp.dNew 12).snd.snd.fst, false, (Sp.dNew 12).snd.snd.snd.snd)).fst)
 (Sp.dSet (1099511627776, false, [])
 (Sp.jcD more.snd.snd.fst
 (Sp.jcL first (Sp.joL (Sp.formatS (false, false, (Sp.dNew 12).snd.snd.fst, false, (Sp.dNew 12).snd.snd.snd.snd)).fst)
 (Sp.joR (Sp.formatS (false, false, (Sp.dNew 12).snd.snd.fst, false, (Sp.dNew 12).snd.snd.snd.snd)).fst)
 (false, false,
 (Sp.formatS (false, false, (Sp.dNew 12).snd.snd.fst, false, (Sp.dNew 12).snd.snd.snd.snd)).fst.snd.snd.fst, false,
 (Sp.formatS (false, false, (Sp.dNew 12).snd.snd.fst, false, (Sp.dNew 12).snd.snd.snd.snd)).fst.snd.snd.snd.snd))
 (Sp.joR (Sp.formatS (false, false, (Sp.dNew 12).snd.snd.fst, false, (Sp.dNew 12).snd.snd.snd.snd)).fst)
 (Sp.dSet (more.snd.fst, false, [])
 (Sp.jcD first
 (Sp.joL (Sp.formatS (false, false, (Sp.dNew 12).snd.snd.fst, false, (Sp.dNew 12).snd.snd.snd.snd)).fst)
 (Sp.joR (Sp.formatS (false, false, (Sp.dNew 12).snd.snd.fst, false, (Sp.dNew 12).snd.snd.snd.snd)).fst)
 (false, false,
 (Sp.formatS (false, false, (Sp.dNew 12).snd.snd.fst, false, (Sp.dNew 12).snd.snd.snd.snd)).fst.snd.snd.fst,
 false,
 (Sp.formatS
 (false, false, (Sp.dNew 12).snd.snd.fst, false,
 (Sp.dNew 12).snd.snd.snd.snd)).fst.snd.snd.snd.snd))).fst)).fst)).fst).snd =
 0) then
 R false
 else
 Sp.gPre
 (Sp.dStart
 (Sp.dCrash more.snd.snd.snd.snd
 (Sp.jcD later
 (Sp.jcL more.snd.snd.fst
 (Sp.jcL first (Sp.joL (Sp.formatS (false, false, (Sp.dNew 12).snd.snd.fst, false, (Sp.dNew 12).snd.snd.snd.snd)).fst)
 (Sp.joR (Sp.formatS (false, false, (Sp.dNew 12).snd.snd.fst, false, (Sp.dNew 12).snd.snd.snd.snd)).fst)
 (false, false, (Sp.formatS (false, false, (Sp.dNew 12).snd.snd.fst, false, (Sp.dNew 12).snd.snd.snd.snd)).fst.snd.snd.fst,
 false, (Sp.formatS (false, false, (Sp.dNew 12).snd.snd.fst, false, (Sp.dNew 12).snd.snd.snd.snd)).fst.snd.snd.snd.snd))
 (Sp.joR (Sp.formatS (false, false, (Sp.dNew 12).snd.snd.fst, false, (Sp.dNew 12).snd.snd.snd.snd)).fst)
 (Sp.dSet (more.snd.fst, false, [])
 (Sp.jcD first (Sp.joL (Sp.formatS (false, false, (Sp.dNew 12).snd.snd.fst, false, (Sp.dNew 12).snd.snd.snd.snd)).fst)
 (Sp.joR (Sp.formatS (false, false, (Sp.dNew 12).snd.snd.fst, false, (Sp.dNew 12).snd.snd.snd.snd)).fst)
 (false, false,
 (Sp.formatS (false, false, (Sp.dNew 12).snd.snd.fst, false, (Sp.dNew 12).snd.snd.snd.snd)).fst.snd.snd.fst, false,
 (Sp.formatS (false, false, (Sp.dNew 12).snd.snd.fst, false, (Sp.dNew 12).snd.snd.snd.snd)).fst.snd.snd.snd.snd))).fst)
 (Sp.joR (Sp.formatS (false, false, (Sp.dNew 12).snd.snd.fst, false, (Sp.dNew 12).snd.snd.snd.snd)).fst)
 (Sp.dSet (1099511627776, false, [])
 (Sp.jcD more.snd.snd.fst
 (Sp.jcL first (Sp.joL (Sp.formatS (false, false, (Sp.dNew 12).snd.snd.fst, false, (Sp.dNew 12).snd.snd.snd.snd)).fst)
 (Sp.joR (Sp.formatS (false, false, (Sp.dNew 12).snd.snd.fst, false, (Sp.dNew 12).snd.snd.snd.snd)).fst)
 (false, false,
 (Sp.formatS (false, false, (Sp.dNew 12).snd.snd.fst, false, (Sp.dNew 12).snd.snd.snd.snd)).fst.snd.snd.fst, false,
 (Sp.formatS (false, false, (Sp.dNew 12).snd.snd.fst, false, (Sp.dNew 12).snd.snd.snd.snd)).fst.snd.snd.snd.snd))
 (Sp.joR (Sp.formatS (false, false, (Sp.dNew 12).snd.snd.fst, false, (Sp.dNew 12).snd.snd.snd.snd)).fst)
 (Sp.dSet (more.snd.fst, false, [])
 (Sp.jcD first (Sp.joL (Sp.formatS (false, false, (Sp.dNew 12).snd.snd.fst, false, (Sp.dNew 12).snd.snd.snd.snd)).fst)
 (Sp.joR (Sp.formatS (false, false, (Sp.dNew 12).snd.snd.fst, false, (Sp.dNew 12).snd.snd.snd.snd)).fst)
 (false, false,
 (Sp.formatS (false, false, (Sp.dNew 12).snd.snd.fst, false, (Sp.dNew 12).snd.snd.snd.snd)).fst.snd.snd.fst, false,
 (Sp.formatS
 (false, false, (Sp.dNew 12).snd.snd.fst, false,
 (Sp.dNew 12).snd.snd.snd.snd)).fst.snd.snd.snd.snd))).fst)).fst)).fst).fst ∧
 bif
 Sp.joNil
 (Sp.dStart
 (Sp.dCrash more.snd.snd.snd.snd
 (Sp.jcD later
 (Sp.jcL more.snd.snd.fst
 (Sp.jcL first (Sp.joL (Sp.formatS (false, false, (Sp.dNew 12).snd.snd.fst, false, (Sp.dNew 12).snd.snd.snd.snd)).fst)
 (Sp.joR (Sp.formatS (false, false, (Sp.dNew 12).snd.snd.fst, false, (Sp.dNew 12).snd.snd.snd.snd)).fst)
 (false, false,
 (Sp.formatS (false, false, (Sp.dNew 12).snd.snd.fst, false, (Sp.dNew 12).snd.snd.snd.snd)).fst.snd.snd.fst, false,
 (Sp.formatS (false, false, (Sp.dNew 12).snd.snd.fst, false, (Sp.dNew 12).snd.snd.snd.snd)).fst.snd.snd.snd.snd))
 (Sp.joR (Sp.formatS (false, false, (Sp.dNew 12).snd.snd.fst, false, (Sp.dNew 12).snd.snd.snd.snd)).fst)
 (Sp.dSet (more.snd.fst, false, [])
 (Sp.jcD first (Sp.joL (Sp.formatS (false, false, (Sp.dNew 12).snd.snd.fst, false, (Sp.dNew 12).snd.snd.snd.snd)).fst)
 (Sp.joR (Sp.formatS (false, false, (Sp.dNew 12).snd.snd.fst, false, (Sp.dNew 12).snd.snd.snd.snd)).fst)
 (false, false,
 (Sp.formatS (false, false, (Sp.dNew 12).snd.snd.fst, false, (Sp.dNew 12).snd.snd.snd.snd)).fst.snd.snd.fst, false,
 (Sp.formatS
 (false, false, (Sp.dNew 12).snd.snd.fst, false,
 (Sp.dNew 12).snd.snd.snd.snd)).fst.snd.snd.snd.snd))).fst)
 (Sp.joR (Sp.formatS (false, false, (Sp.dNew 12).snd.snd.fst, false, (Sp.dNew 12).snd.snd.snd.snd)).fst)
 (Sp.dSet (1099511627776, false, [])
 (Sp.jcD more.snd.snd.fst
 (Sp.jcL first (Sp.joL (Sp.formatS (false, false, (Sp.dNew 12).snd.snd.fst, false, (Sp.dNew 12).snd.snd.snd.snd)).fst)
 (Sp.joR (Sp.formatS (false, false, (Sp.dNew 12).snd.snd.fst, false, (Sp.dNew 12).snd.snd.snd.snd)).fst)
 (false, false,
 (Sp.formatS (false, false, (Sp.dNew 12).snd.snd.fst, false, (Sp.dNew 12).snd.snd.snd.snd)).fst.snd.snd.fst, false,
 (Sp.formatS (false, false, (Sp.dNew 12).snd.snd.fst, false, (Sp.dNew 12).snd.snd.snd.snd)).fst.snd.snd.snd.snd))
 (Sp.joR (Sp.formatS (false, false, (Sp.dNew 12).snd.snd.fst, false, (Sp.dNew 12).snd.snd.snd.snd)).fst)
 (Sp.dSet (more.snd.fst, false, [])
 (Sp.jcD first
 (Sp.joL (Sp.formatS (false, false, (Sp.dNew 12).snd.snd.fst, false, (Sp.dNew 12).snd.snd.snd.snd)).fst)
 (Sp.joR (Sp.formatS (false, false, (Sp.dNew 12).snd.snd.fst, false, (Sp.dNew 12).snd.snd.snd.snd)).fst)
 (false, false,
 (Sp.formatS (false, false, (Sp.dNew 12).snd.snd.fst, false, (Sp.dNew 12).snd.snd.snd.snd)).fst.snd.snd.fst,
 false,
 (Sp.formatS
 (false, false, (Sp.dNew 12).snd.snd.fst, false,
 (Sp.dNew 12).snd.snd.snd.snd)).fst.snd.snd.snd.snd))).fst)).fst)).fst).fst then
 bif
 decide
 (Sp.joErr
 (Sp.dStart
 (Sp.dCrash more.snd.snd.snd.snd
 (Sp.jcD later
 (Sp.jcL more.snd.snd.fst
 (Sp.jcL first
 (Sp.joL (Sp.formatS (false, false, (Sp.dNew 12).snd.snd.fst, false, (Sp.dNew 12).snd.snd.snd.snd)).fst)
 (Sp.joR (Sp.formatS (false, false, (Sp.dNew 12).snd.snd.fst, false, (Sp.dNew 12).snd.snd.snd.snd)).fst)
 (false, false,
 (Sp.formatS (false, false, (Sp.dNew 12).snd.snd.fst, false, (Sp.dNew 12).snd.snd.snd.snd)).fst.snd.snd.fst,
 false,
 (Sp.formatS (false, false, (Sp.dNew 12).snd.snd.fst, false, (Sp.dNew 12).snd.snd.snd.snd)).fst.snd.snd.snd.snd))
 (Sp.joR (Sp.formatS (false, false, (Sp.dNew 12).snd.snd.fst, false, (Sp.dNew 12).snd.snd.snd.snd)).fst)
 (Sp.dSet (more.snd.fst, false, [])
 (Sp.jcD first
 (Sp.joL (Sp.formatS (false, false, (Sp.dNew 12).snd.snd.fst, false, (Sp.dNew 12).snd.snd.snd.snd)).fst)
 (Sp.joR (Sp.formatS (false, false, (Sp.dNew 12).snd.snd.fst, false, (Sp.dNew 12).snd.snd.snd.snd)).fst)
 (false, false,
 (Sp.formatS (false, false, (Sp.dNew 12).snd.snd.fst, false, (Sp.dNew 12).snd.snd.snd.snd)).fst.snd.snd.fst,
 false,
 (Sp.formatS
 (false, false, (Sp.dNew 12).snd.snd.fst, false,
 (Sp.dNew 12).snd.snd.snd.snd)).fst.snd.snd.snd.snd))).fst)
 (Sp.joR (Sp.formatS (false, false, (Sp.dNew 12).snd.snd.fst, false, (Sp.dNew 12).snd.snd.snd.snd)).fst)
 (Sp.dSet (1099511627776, false, [])
 (Sp.jcD more.snd.snd.fst
 (Sp.jcL first
 (Sp.joL (Sp.formatS (false, false, (Sp.dNew 12).snd.snd.fst, false, (Sp.dNew 12).snd.snd.snd.snd)).fst)
 (Sp.joR (Sp.formatS (false, false, (Sp.dNew 12).snd.snd.fst, false, (Sp.dNew 12).snd.snd.snd.snd)).fst)
 (false, false,
 (Sp.formatS (false, false, (Sp.dNew 12).snd.snd.fst, false, (Sp.dNew 12).snd.snd.snd.snd)).fst.snd.snd.fst,
 false,
 (Sp.formatS
 (false, false, (Sp.dNew 12).snd.snd.fst, false,
 (Sp.dNew 12).snd.snd.snd.snd)).fst.snd.snd.snd.snd))
 (Sp.joR (Sp.formatS (false, false, (Sp.dNew 12).snd.snd.fst, false, (Sp.dNew 12).snd.snd.snd.snd)).fst)
 (Sp.dSet (more.snd.fst, false, [])
 (Sp.jcD first
 (Sp.joL (Sp.formatS (false, false, (Sp.dNew 12).snd.snd.fst, false, (Sp.dNew 12).snd.snd.snd.snd)).fst)
 (Sp.joR (Sp.formatS (false, false, (Sp.dNew 12).snd.snd.fst, false, (Sp.dNew 12).snd.snd.snd.snd)).fst)
 (false, false,
 (Sp.formatS
 (false, false, (Sp.dNew 12).snd.snd.fst, false,
 (Sp.dNew 12).snd.snd.snd.snd)).fst.snd.snd.fst,
 false,
 (Sp.formatS
 (false, false, (Sp.dNew 12).snd.snd.fst, false,
 (Sp.dNew 12).snd.snd.snd.snd)).fst.snd.snd.snd.snd))).fst)).fst)).fst).fst =
 0) then
 R false
 else R false
 else
 Sp.lOk
 (Sp.joL
 (Sp.dStart
 (Sp.dCrash more.snd.snd.snd.snd
 (Sp.jcD later
 (Sp.jcL more.snd.snd.fst
 (Sp.jcL first (Sp.joL (Sp.formatS (false, false, (Sp.dNew 12).snd.snd.fst, false, (Sp.dNew 12).snd.snd.snd.snd)).fst)
 (Sp.joR (Sp.formatS (false, false, (Sp.dNew 12).snd.snd.fst, false, (Sp.dNew 12).snd.snd.snd.snd)).fst)
 (false, false,
 (Sp.formatS (false, false, (Sp.dNew 12).snd.snd.fst, false, (Sp.dNew 12).snd.snd.snd.snd)).fst.snd.snd.fst, false,
 (Sp.formatS (false, false, (Sp.dNew 12).snd.snd.fst, false, (Sp.dNew 12).snd.snd.snd.snd)).fst.snd.snd.snd.snd))
 (Sp.joR (Sp.formatS (false, false, (Sp.dNew 12).snd.snd.fst, false, (Sp.dNew 12).snd.snd.snd.snd)).fst)
 (Sp.dSet (more.snd.fst, false, [])
 (Sp.jcD first
 (Sp.joL (Sp.formatS (false, false, (Sp.dNew 12).snd.snd.fst, false, (Sp.dNew 12).snd.snd.snd.snd)).fst)
 (Sp.joR (Sp.formatS (false, false, (Sp.dNew 12).snd.snd.fst, false, (Sp.dNew 12).snd.snd.snd.snd)).fst)
 (false, false,
 (Sp.formatS (false, false, (Sp.dNew 12).snd.snd.fst, false, (Sp.dNew 12).snd.snd.snd.snd)).fst.snd.snd.fst,
 false,
 (Sp.formatS
 (false, false, (Sp.dNew 12).snd.snd.fst, false,
 (Sp.dNew 12).snd.snd.snd.snd)).fst.snd.snd.snd.snd))).fst)
 (Sp.joR (Sp.formatS (false, false, (Sp.dNew 12).snd.snd.fst, false, (Sp.dNew 12).snd.snd.snd.snd)).fst)
 (Sp.dSet (1099511627776, false, [])
 (Sp.jcD more.snd.snd.fst
 (Sp.jcL first
 (Sp.joL (Sp.formatS (false, false, (Sp.dNew 12).snd.snd.fst, false, (Sp.dNew 12).snd.snd.snd.snd)).fst)
 (Sp.joR (Sp.formatS (false, false, (Sp.dNew 12).snd.snd.fst, false, (Sp.dNew 12).snd.snd.snd.snd)).fst)
 (false, false,
 (Sp.formatS (false, false, (Sp.dNew 12).snd.snd.fst, false, (Sp.dNew 12).snd.snd.snd.snd)).fst.snd.snd.fst,
 false,
 (Sp.formatS (false, false, (Sp.dNew 12).snd.snd.fst, false, (Sp.dNew 12).snd.snd.snd.snd)).fst.snd.snd.snd.snd))
 (Sp.joR (Sp.formatS (false, false, (Sp.dNew 12).snd.snd.fst, false, (Sp.dNew 12).snd.snd.snd.snd)).fst)
 (Sp.dSet (more.snd.fst, false, [])
 (Sp.jcD first
 (Sp.joL (Sp.formatS (false, false, (Sp.dNew 12).snd.snd.fst, false, (Sp.dNew 12).snd.snd.snd.snd)).fst)
 (Sp.joR (Sp.formatS (false, false, (Sp.dNew 12).snd.snd.fst, false, (Sp.dNew 12).snd.snd.snd.snd)).fst)
 (false, false,
 (Sp.formatS (false, false, (Sp.dNew 12).snd.snd.fst, false, (Sp.dNew 12).snd.snd.snd.snd)).fst.snd.snd.fst,
 false,
 (Sp.formatS
 (false, false, (Sp.dNew 12).snd.snd.fst, false,
 (Sp.dNew 12).snd.snd.snd.snd)).fst.snd.snd.snd.snd))).fst)).fst)).fst).fst) ∧
 Sp.eqL.pre
 (Sp.lRecs
 (Sp.joL
 (Sp.dStart
 (Sp.dCrash more.snd.snd.snd.snd
 (Sp.jcD later
 (Sp.jcL more.snd.snd.fst
 (Sp.jcL first
 (Sp.joL (Sp.formatS (false, false, (Sp.dNew 12).snd.snd.fst, false, (Sp.dNew 12).snd.snd.snd.snd)).fst)
 (Sp.joR (Sp.formatS (false, false, (Sp.dNew 12).snd.snd.fst, false, (Sp.dNew 12).snd.snd.snd.snd)).fst)
 (false, false,
 (Sp.formatS (false, false, (Sp.dNew 12).snd.snd.fst, false, (Sp.dNew 12).snd.snd.snd.snd)).fst.snd.snd.fst,
 false,
 (Sp.formatS (false, false, (Sp.dNew 12).snd.snd.fst, false, (Sp.dNew 12).snd.snd.snd.snd)).fst.snd.snd.snd.snd))
 (Sp.joR (Sp.formatS (false, false, (Sp.dNew 12).snd.snd.fst, false, (Sp.dNew 12).snd.snd.snd.snd)).fst)
 (Sp.dSet (more.snd.fst, false, [])
 (Sp.jcD first
 (Sp.joL (Sp.formatS (false, false, (Sp.dNew 12).snd.snd.fst, false, (Sp.dNew 12).snd.snd.snd.snd)).fst)
 (Sp.joR (Sp.formatS (false, false, (Sp.dNew 12).snd.snd.fst, false, (Sp.dNew 12).snd.snd.snd.snd)).fst)
 (false, false,
 (Sp.formatS (false, false, (Sp.dNew 12).snd.snd.fst, false, (Sp.dNew 12).snd.snd.snd.snd)).fst.snd.snd.fst,
 false,
 (Sp.formatS
 (false, false, (Sp.dNew 12).snd.snd.fst, false,
 (Sp.dNew 12).snd.snd.snd.snd)).fst.snd.snd.snd.snd))).fst)
 (Sp.joR (Sp.formatS (false, false, (Sp.dNew 12).snd.snd.fst, false, (Sp.dNew 12).snd.snd.snd.snd)).fst)
 (Sp.dSet (1099511627776, false, [])
 (Sp.jcD more.snd.snd.fst
 (Sp.jcL first
 (Sp.joL (Sp.formatS (false, false, (Sp.dNew 12).snd.snd.fst, false, (Sp.dNew 12).snd.snd.snd.snd)).fst)
 (Sp.joR (Sp.formatS (false, false, (Sp.dNew 12).snd.snd.fst, false, (Sp.dNew 12).snd.snd.snd.snd)).fst)
 (false, false,
 (Sp.formatS (false, false, (Sp.dNew 12).snd.snd.fst, false, (Sp.dNew 12).snd.snd.snd.snd)).fst.snd.snd.fst,
 false,
 (Sp.formatS
 (false, false, (Sp.dNew 12).snd.snd.fst, false,
 (Sp.dNew 12).snd.snd.snd.snd)).fst.snd.snd.snd.snd))
 (Sp.joR (Sp.formatS (false, false, (Sp.dNew 12).snd.snd.fst, false, (Sp.dNew 12).snd.snd.snd.snd)).fst)
 (Sp.dSet (more.snd.fst, false, [])
 (Sp.jcD first
 (Sp.joL (Sp.formatS (false, false, (Sp.dNew 12).snd.snd.fst, false, (Sp.dNew 12).snd.snd.snd.snd)).fst)
 (Sp.joR (Sp.formatS (false, false, (Sp.dNew 12).snd.snd.fst, false, (Sp.dNew 12).snd.snd.snd.snd)).fst)
 (false, false,
 (Sp.formatS
 (false, false, (Sp.dNew 12).snd.snd.fst, false,
 (Sp.dNew 12).snd.snd.snd.snd)).fst.snd.snd.fst,
 false,
 (Sp.formatS
 (false, false, (Sp.dNew 12).snd.snd.fst, false,
 (Sp.dNew 12).snd.snd.snd.snd)).fst.snd.snd.snd.snd))).fst)).fst)).fst).fst))
 (Sp.putL
 (Sp.lRecs
 (Sp.jcL more.snd.snd.fst
 (Sp.jcL first (Sp.joL (Sp.formatS (false, false, (Sp.dNew 12).snd.snd.fst, false, (Sp.dNew 12).snd.snd.snd.snd)).fst)
 (Sp.joR (Sp.formatS (false, false, (Sp.dNew 12).snd.snd.fst, false, (Sp.dNew 12).snd.snd.snd.snd)).fst)
 (false, false, (Sp.formatS (false, false, (Sp.dNew 12).snd.snd.fst, false, (Sp.dNew 12).snd.snd.snd.snd)).fst.snd.snd.fst,
 false, (Sp.formatS (false, false, (Sp.dNew 12).snd.snd.fst, false, (Sp.dNew 12).snd.snd.snd.snd)).fst.snd.snd.snd.snd))
 (Sp.joR (Sp.formatS (false, false, (Sp.dNew 12).snd.snd.fst, false, (Sp.dNew 12).snd.snd.snd.snd)).fst)
 (Sp.dSet (more.snd.fst, false, [])
 (Sp.jcD first (Sp.joL (Sp.formatS (false, false, (Sp.dNew 12).snd.snd.fst, false, (Sp.dNew 12).snd.snd.snd.snd)).fst)
 (Sp.joR (Sp.formatS (false, false, (Sp.dNew 12).snd.snd.fst, false, (Sp.dNew 12).snd.snd.snd.snd)).fst)
 (false, false,
 (Sp.formatS (false, false, (Sp.dNew 12).snd.snd.fst, false, (Sp.dNew 12).snd.snd.snd.snd)).fst.snd.snd.fst, false,
 (Sp.formatS
 (false, false, (Sp.dNew 12).snd.snd.fst, false,
 (Sp.dNew 12).snd.snd.snd.snd)).fst.snd.snd.snd.snd))).fst))
 later) ∧
 bif
 Sp.eqL
 (Sp.lRecs
 (Sp.joL
 (Sp.dStart
 (Sp.dCrash more.snd.snd.snd.snd
 (Sp.jcD later
 (Sp.jcL more.snd.snd.fst
 (Sp.jcL first
 (Sp.joL (Sp.formatS (false, false, (Sp.dNew 12).snd.snd.fst, false, (Sp.dNew 12).snd.snd.snd.snd)).fst)
 (Sp.joR (Sp.formatS (false, false, (Sp.dNew 12).snd.snd.fst, false, (Sp.dNew 12).snd.snd.snd.snd)).fst)
 (false, false,
 (Sp.formatS (false, false, (Sp.dNew 12).snd.snd.fst, false, (Sp.dNew 12).snd.snd.snd.snd)).fst.snd.snd.fst,
 false,
 (Sp.formatS
 (false, false, (Sp.dNew 12).snd.snd.fst, false,
 (Sp.dNew 12).snd.snd.snd.snd)).fst.snd.snd.snd.snd))
 (Sp.joR (Sp.formatS (false, false, (Sp.dNew 12).snd.snd.fst, false, (Sp.dNew 12).snd.snd.snd.snd)).fst)
 (Sp.dSet (more.snd.fst, false, [])
 (Sp.jcD first
 (Sp.joL (Sp.formatS (false, false, (Sp.dNew 12).snd.snd.fst, false, (Sp.dNew 12).snd.snd.snd.snd)).fst)
 (Sp.joR (Sp.formatS (false, false, (Sp.dNew 12).snd.snd.fst, false, (Sp.dNew 12).snd.snd.snd.snd)).fst)
 (false, false,
 (Sp.formatS
 (false, false, (Sp.dNew 12).snd.snd.fst, false,
 (Sp.dNew 12).snd.snd.snd.snd)).fst.snd.snd.fst,
 false,
 (Sp.formatS
 (false, false, (Sp.dNew 12).snd.snd.fst, false,
 (Sp.dNew 12).snd.snd.snd.snd)).fst.snd.snd.snd.snd))).fst)
 (Sp.joR (Sp.formatS (false, false, (Sp.dNew 12).snd.snd.fst, false, (Sp.dNew 12).snd.snd.snd.snd)).fst)
 (Sp.dSet (1099511627776, false, [])
 (Sp.jcD more.snd.snd.fst
 (Sp.jcL first
 (Sp.joL (Sp.formatS (false, false, (Sp.dNew 12).snd.snd.fst, false, (Sp.dNew 12).snd.snd.snd.snd)).fst)
 (Sp.joR (Sp.formatS (false, false, (Sp.dNew 12).snd.snd.fst, false, (Sp.dNew 12).snd.snd.snd.snd)).fst)
 (false, false,
 (Sp.formatS
 (false, false, (Sp.dNew 12).snd.snd.fst, false,
 (Sp.dNew 12).snd.snd.snd.snd)).fst.snd.snd.fst,
 false,
 (Sp.formatS
 (false, false, (Sp.dNew 12).snd.snd.fst, false,
 (Sp.dNew 12).snd.snd.snd.snd)).fst.snd.snd.snd.snd))
 (Sp.joR (Sp.formatS (false, false, (Sp.dNew 12).snd.snd.fst, false, (Sp.dNew 12).snd.snd.snd.snd)).fst)
 (Sp.dSet (more.snd.fst, false, [])
 (Sp.jcD first
 (Sp.joL
 (Sp.formatS (false, false, (Sp.dNew 12).snd.snd.fst, false, (Sp.dNew 12).snd.snd.snd.snd)).fst)
 (Sp.joR
 (Sp.formatS (false, false, (Sp.dNew 12).snd.snd.fst, false, (Sp.dNew 12).snd.snd.snd.snd)).fst)
 (false, false,
 (Sp.formatS
 (false, false, (Sp.dNew 12).snd.snd.fst, false,
 (Sp.dNew 12).snd.snd.snd.snd)).fst.snd.snd.fst,
 false,
 (Sp.formatS
 (false, false, (Sp.dNew 12).snd.snd.fst, false,
 (Sp.dNew 12).snd.snd.snd.snd)).fst.snd.snd.snd.snd))).fst)).fst)).fst).fst))
 (Sp.putL
 (Sp.lRecs
 (Sp.jcL more.snd.snd.fst
 (Sp.jcL first (Sp.joL (Sp.formatS (false, false, (Sp.dNew 12).snd.snd.fst, false, (Sp.dNew 12).snd.snd.snd.snd)).fst)
 (Sp.joR (Sp.formatS (false, false, (Sp.dNew 12).snd.snd.fst, false, (Sp.dNew 12).snd.snd.snd.snd)).fst)
 (false, false,
 (Sp.formatS (false, false, (Sp.dNew 12).snd.snd.fst, false, (Sp.dNew 12).snd.snd.snd.snd)).fst.snd.snd.fst, false,
 (Sp.formatS (false, false, (Sp.dNew 12).snd.snd.fst, false, (Sp.dNew 12).snd.snd.snd.snd)).fst.snd.snd.snd.snd))
 (Sp.joR (Sp.formatS (false, false, (Sp.dNew 12).snd.snd.fst, false, (Sp.dNew 12).snd.snd.snd.snd)).fst)
 (Sp.dSet (more.snd.fst, false, [])
 (Sp.jcD first (Sp.joL (Sp.formatS (false, false, (Sp.dNew 12).snd.snd.fst, false, (Sp.dNew 12).snd.snd.snd.snd)).fst)
 (Sp.joR (Sp.formatS (false, false, (Sp.dNew 12).snd.snd.fst, false, (Sp.dNew 12).snd.snd.snd.snd)).fst)
 (false, false,
 (Sp.formatS (false, false, (Sp.dNew 12).snd.snd.fst, false, (Sp.dNew 12).snd.snd.snd.snd)).fst.snd.snd.fst, false,
 (Sp.formatS
 (false, false, (Sp.dNew 12).snd.snd.fst, false,
 (Sp.dNew 12).snd.snd.snd.snd)).fst.snd.snd.snd.snd))).fst))
 later) then
 R Sp.tt
 else R false
 else
 Sp.lOk
 (Sp.jcL later
 (Sp.jcL more.snd.snd.fst
 (Sp.jcL first (Sp.joL (Sp.formatS (false, false, (Sp.dNew 12).snd.snd.fst, false, (Sp.dNew 12).snd.snd.snd.snd)).fst)
 (Sp.joR (Sp.formatS (false, false, (Sp.dNew 12).snd.snd.fst, false, (Sp.dNew 12).snd.snd.snd.snd)).fst)
 (false, false, (Sp.formatS (false, false, (Sp.dNew 12).snd.snd.fst, false, (Sp.dNew 12).snd.snd.snd.snd)).fst.snd.snd.fst, false,
 (Sp.formatS (false, false, (Sp.dNew 12).snd.snd.fst, false, (Sp.dNew 12).snd.snd.snd.snd)).fst.snd.snd.snd.snd))
 (Sp.joR (Sp.formatS (false, false, (Sp.dNew 12).snd.snd.fst, false, (Sp.dNew 12).snd.snd.snd.snd)).fst)
 (Sp.dSet (more.snd.fst, false, [])
 (Sp.jcD first (Sp.joL (Sp.formatS (false, false, (Sp.dNew 12).snd.snd.fst, false, (Sp.dNew 12).snd.snd.snd.snd)).fst)
 (Sp.joR (Sp.formatS (false, false, (Sp.dNew 12).snd.snd.fst, false, (Sp.dNew 12).snd.snd.snd.snd)).fst)
 (false, false, (Sp.formatS (false, false, (Sp.dNew 12).snd.snd.fst, false, (Sp.dNew 12).snd.snd.snd.snd)).fst.snd.snd.fst, false,
 (Sp.formatS (false, false, (Sp.dNew 12).snd.snd.fst, false, (Sp.dNew 12).snd.snd.snd.snd)).fst.snd.snd.snd.snd))).fst)
 (Sp.joR (Sp.formatS (false, false, (Sp.dNew 12).snd.snd.fst, false, (Sp.dNew 12).snd.snd.snd.snd)).fst)
 (Sp.dSet (1099511627776, false, [])
 (Sp.jcD more.snd.snd.fst
 (Sp.jcL first (Sp.joL (Sp.formatS (false, false, (Sp.dNew 12).snd.snd.fst, false, (Sp.dNew 12).snd.snd.snd.snd)).fst)
 (Sp.joR (Sp.formatS (false, false, (Sp.dNew 12).snd.snd.fst, false, (Sp.dNew 12).snd.snd.snd.snd)).fst)
 (false, false, (Sp.formatS (false, false, (Sp.dNew 12).snd.snd.fst, false, (Sp.dNew 12).snd.snd.snd.snd)).fst.snd.snd.fst, false,
 (Sp.formatS (false, false, (Sp.dNew 12).snd.snd.fst, false, (Sp.dNew 12).snd.snd.snd.snd)).fst.snd.snd.snd.snd))
 (Sp.joR (Sp.formatS (false, false, (Sp.dNew 12).snd.snd.fst, false, (Sp.dNew 12).snd.snd.snd.snd)).fst)
 (Sp.dSet (more.snd.fst, false, [])
 (Sp.jcD first (Sp.joL (Sp.formatS (false, false, (Sp.dNew 12).snd.snd.fst, false, (Sp.dNew 12).snd.snd.snd.snd)).fst)
 (Sp.joR (Sp.formatS (false, false, (Sp.dNew 12).snd.snd.fst, false, (Sp.dNew 12).snd.snd.snd.snd)).fst)
 (false, false, (Sp.formatS (false, false, (Sp.dNew 12).snd.snd.fst, false, (Sp.dNew 12).snd.snd.snd.snd)).fst.snd.snd.fst, false,
 (Sp.formatS (false, false, (Sp.dNew 12).snd.snd.fst, false, (Sp.dNew 12).snd.snd.snd.snd)).fst.snd.snd.snd.snd))).fst)).fst) ∧
 Sp.eqL.pre
 (Sp.lRecs
 (Sp.jcL later
 (Sp.jcL more.snd.snd.fst
 (Sp.jcL first (Sp.joL (Sp.formatS (false, false, (Sp.dNew 12).snd.snd.fst, false, (Sp.dNew 12).snd.snd.snd.snd)).fst)
 (Sp.joR (Sp.formatS (false, false, (Sp.dNew 12).snd.snd.fst, false, (Sp.dNew 12).snd.snd.snd.snd)).fst)
 (false, false, (Sp.formatS (false, false, (Sp.dNew 12).snd.snd.fst, false, (Sp.dNew 12).snd.snd.snd.snd)).fst.snd.snd.fst, false,
 (Sp.formatS (false, false, (Sp.dNew 12).snd.snd.fst, false, (Sp.dNew 12).snd.snd.snd.snd)).fst.snd.snd.snd.snd))
 (Sp.joR (Sp.formatS (false, false, (Sp.dNew 12).snd.snd.fst, false, (Sp.dNew 12).snd.snd.snd.snd)).fst)
 (Sp.dSet (more.snd.fst, false, [])
 (Sp.jcD first (Sp.joL (Sp.formatS (false, false, (Sp.dNew 12).snd.snd.fst, false, (Sp.dNew 12).snd.snd.snd.snd)).fst)
 (Sp.joR (Sp.formatS (false, false, (Sp.dNew 12).snd.snd.fst, false, (Sp.dNew 12).snd.snd.snd.snd)).fst)
 (false, false, (Sp.formatS (false, false, (Sp.dNew 12).snd.snd.fst, false, (Sp.dNew 12).snd.snd.snd.snd)).fst.snd.snd.fst, false,
 (Sp.formatS (false, false, (Sp.dNew 12).snd.snd.fst, false, (Sp.dNew 12).snd.snd.snd.snd)).fst.snd.snd.snd.snd))).fst)
 (Sp.joR (Sp.formatS (false, false, (Sp.dNew 12).snd.snd.fst, false, (Sp.dNew 12).snd.snd.snd.snd)).fst)
 (Sp.dSet (1099511627776, false, [])
 (Sp.jcD more.snd.snd.fst
 (Sp.jcL first (Sp.joL (Sp.formatS (false, false, (Sp.dNew 12).snd.snd.fst, false, (Sp.dNew 12).snd.snd.snd.snd)).fst)
 (Sp.joR (Sp.formatS (false, false, (Sp.dNew 12).snd.snd.fst, false, (Sp.dNew 12).snd.snd.snd.snd)).fst)
 (false, false, (Sp.formatS (false, false, (Sp.dNew 12).snd.snd.fst, false, (Sp.dNew 12).snd.snd.snd.snd)).fst.snd.snd.fst, false,
 (Sp.formatS (false, false, (Sp.dNew 12).snd.snd.fst, false, (Sp.dNew 12).snd.snd.snd.snd)).fst.snd.snd.snd.snd))
 (Sp.joR (Sp.formatS (false, false, (Sp.dNew 12).snd.snd.fst, false, (Sp.dNew 12).snd.snd.snd.snd)).fst)
 (Sp.dSet (more.snd.fst, false, [])
 (Sp.jcD first (Sp.joL (Sp.formatS (false, false, (Sp.dNew 12).snd.snd.fst, false, (Sp.dNew 12).snd.snd.snd.snd)).fst)
 (Sp.joR (Sp.formatS (false, false, (Sp.dNew 12).snd.snd.fst, false, (Sp.dNew 12).snd.snd.snd.snd)).fst)
 (false, false, (Sp.formatS (false, false, (Sp.dNew 12).snd.snd.fst, false, (Sp.dNew 12).snd.snd.snd.snd)).fst.snd.snd.fst, false,
 (Sp.formatS (false, false, (Sp.dNew 12).snd.snd.fst, false, (Sp.dNew 12).snd.snd.snd.snd)).fst.snd.snd.snd.snd))).fst)).fst))
 (Sp.lRecs
 (Sp.jcL more.snd.snd.fst
 (Sp.jcL first (Sp.joL (Sp.formatS (false, false, (Sp.dNew 12).snd.snd.fst, false, (Sp.dNew 12).snd.snd.snd.snd)).fst)
 (Sp.joR (Sp.formatS (false, false, (Sp.dNew 12).snd.snd.fst, false, (Sp.dNew 12).snd.snd.snd.snd)).fst)
 (false, false, (Sp.formatS (false, false, (Sp.dNew 12).snd.snd.fst, false, (Sp.dNew 12).snd.snd.snd.snd)).fst.snd.snd.fst, false,
 (Sp.formatS (false, false, (Sp.dNew 12).snd.snd.fst, false, (Sp.dNew 12).snd.snd.snd.snd)).fst.snd.snd.snd.snd))
 (Sp.joR (Sp.formatS (false, false, (Sp.dNew 12).snd.snd.fst, false, (Sp.dNew 12).snd.snd.snd.snd)).fst)
 (Sp.dSet (more.snd.fst, false, [])
 (Sp.jcD first (Sp.joL (Sp.formatS (false, false, (Sp.dNew 12).snd.snd.fst, false, (Sp.dNew 12).snd.snd.snd.snd)).fst)
 (Sp.joR (Sp.formatS (false, false, (Sp.dNew 12).snd.snd.fst, false, (Sp.dNew 12).snd.snd.snd.snd)).fst)
 (false, false, (Sp.formatS (false, false, (Sp.dNew 12).snd.snd.fst, false, (Sp.dNew 12).snd.snd.snd.snd)).fst.snd.snd.fst, false,
 (Sp.formatS (false, false, (Sp.dNew 12).snd.snd.fst, false, (Sp.dNew 12).snd.snd.snd.snd)).fst.snd.snd.snd.snd))).fst)) ∧
 bif
 !Sp.eqL
 (Sp.lRecs
 (Sp.jcL later
 (Sp.jcL more.snd.snd.fst
 (Sp.jcL first (Sp.joL (Sp.formatS (false, false, (Sp.dNew 12).snd.snd.fst, false, (Sp.dNew 12).snd.snd.snd.snd)).fst)
 (Sp.joR (Sp.formatS (false, false, (Sp.dNew 12).snd.snd.fst, false, (Sp.dNew 12).snd.snd.snd.snd)).fst)
 (false, false, (Sp.formatS (false, false, (Sp.dNew 12).snd.snd.fst, false, (Sp.dNew 12).snd.snd.snd.snd)).fst.snd.snd.fst, false,
 (Sp.formatS (false, false, (Sp.dNew 12).snd.snd.fst, false, (Sp.dNew 12).snd.snd.snd.snd)).fst.snd.snd.snd.snd))
 (Sp.joR (Sp.formatS (false, false, (Sp.dNew 12).snd.snd.fst, false, (Sp.dNew 12).snd.snd.snd.snd)).fst)
 (Sp.dSet (more.snd.fst, false, [])
 (Sp.jcD first (Sp.joL (Sp.formatS (false, false, (Sp.dNew 12).snd.snd.fst, false, (Sp.dNew 12).snd.snd.snd.snd)).fst)
 (Sp.joR (Sp.formatS (false, false, (Sp.dNew 12).snd.snd.fst, false, (Sp.dNew 12).snd.snd.snd.snd)).fst)
 (false, false, (Sp.formatS (false, false, (Sp.dNew 12).snd.snd.fst, false, (Sp.dNew 12).snd.snd.snd.snd)).fst.snd.snd.fst, false,
 (Sp.formatS (false, false, (Sp.dNew 12).snd.snd.fst, false, (Sp.dNew 12).snd.snd.snd.snd)).fst.snd.snd.snd.snd))).fst)
 (Sp.joR (Sp.formatS (false, false, (Sp.dNew 12).snd.snd.fst, false, (Sp.dNew 12).snd.snd.snd.snd)).fst)
 (Sp.dSet (1099511627776, false, [])
 (Sp.jcD more.snd.snd.fst
 (Sp.jcL first (Sp.joL (Sp.formatS (false, false, (Sp.dNew 12).snd.snd.fst, false, (Sp.dNew 12).snd.snd.snd.snd)).fst)
 (Sp.joR (Sp.formatS (false, false, (Sp.dNew 12).snd.snd.fst, false, (Sp.dNew 12).snd.snd.snd.snd)).fst)
 (false, false, (Sp.formatS (false, false, (Sp.dNew 12).snd.snd.fst, false, (Sp.dNew 12).snd.snd.snd.snd)).fst.snd.snd.fst, false,
 (Sp.formatS (false, false, (Sp.dNew 12).snd.snd.fst, false, (Sp.dNew 12).snd.snd.snd.snd)).fst.snd.snd.snd.snd))
 (Sp.joR (Sp.formatS (false, false, (Sp.dNew 12).snd.snd.fst, false, (Sp.dNew 12).snd.snd.snd.snd)).fst)
 (Sp.dSet (more.snd.fst, false, [])
 (Sp.jcD first (Sp.joL (Sp.formatS (false, false, (Sp.dNew 12).snd.snd.fst, false, (Sp.dNew 12).snd.snd.snd.snd)).fst)
 (Sp.joR (Sp.formatS (false, false, (Sp.dNew 12).snd.snd.fst, false, (Sp.dNew 12).snd.snd.snd.snd)).fst)
 (false, false, (Sp.formatS (false, false, (Sp.dNew 12).snd.snd.fst, false, (Sp.dNew 12).snd.snd.snd.snd)).fst.snd.snd.fst, false,
 (Sp.formatS (false, false, (Sp.dNew 12).snd.snd.fst, false, (Sp.dNew 12).snd.snd.snd.snd)).fst.snd.snd.snd.snd))).fst)).fst))
 (Sp.lRecs
 (Sp.jcL more.snd.snd.fst
 (Sp.jcL first (Sp.joL (Sp.formatS (false, false, (Sp.dNew 12).snd.snd.fst, false, (Sp.dNew 12).snd.snd.snd.snd)).fst)
 (Sp.joR (Sp.formatS (false, false, (Sp.dNew 12).snd.snd.fst, false, (Sp.dNew 12).snd.snd.snd.snd)).fst)
 (false, false, (Sp.formatS (false, false, (Sp.dNew 12).snd.snd.fst, false, (Sp.dNew 12).snd.snd.snd.snd)).fst.snd.snd.fst, false,
 (Sp.formatS (false, false, (Sp.dNew 12).snd.snd.fst, false, (Sp.dNew 12).snd.snd.snd.snd)).fst.snd.snd.snd.snd))
 (Sp.joR (Sp.formatS (false, false, (Sp.dNew 12).snd.snd.fst, false, (Sp.dNew 12).snd.snd.snd.snd)).fst)
 (Sp.dSet (more.snd.fst, false, [])
 (Sp.jcD first (Sp.joL (Sp.formatS (false, false, (Sp.dNew 12).snd.snd.fst, false, (Sp.dNew 12).snd.snd.snd.snd)).fst)
 (Sp.joR (Sp.formatS (false, false, (Sp.dNew 12).snd.snd.fst, false, (Sp.dNew 12).snd.snd.snd.snd)).fst)
 (false, false, (Sp.formatS (false, false, (Sp.dNew 12).snd.snd.fst, false, (Sp.dNew 12).snd.snd.snd.snd)).fst.snd.snd.fst, false,
 (Sp.formatS (false, false, (Sp.dNew 12).snd.snd.fst, false, (Sp.dNew 12).snd.snd.snd.snd)).fst.snd.snd.snd.snd))).fst)) then
 R false
 else
 Sp.dFall.pre more.snd.snd.snd.snd
 (Sp.jcD later
 (Sp.jcL more.snd.snd.fst
 (Sp.jcL first (Sp.joL (Sp.formatS (false, false, (Sp.dNew 12).snd.snd.fst, false, (Sp.dNew 12).snd.snd.snd.snd)).fst)
 (Sp.joR (Sp.formatS (false, false, (Sp.dNew 12).snd.snd.fst, false, (Sp.dNew 12).snd.snd.snd.snd)).fst)
 (false, false, (Sp.formatS (false, false, (Sp.dNew 12).snd.snd.fst, false, (Sp.dNew 12).snd.snd.snd.snd)).fst.snd.snd.fst, false,
 (Sp.formatS (false, false, (Sp.dNew 12).snd.snd.fst, false, (Sp.dNew 12).snd.snd.snd.snd)).fst.snd.snd.snd.snd))
 (Sp.joR (Sp.formatS (false, false, (Sp.dNew 12).snd.snd.fst, false, (Sp.dNew 12).snd.snd.snd.snd)).fst)
 (Sp.dSet (more.snd.fst, false, [])
 (Sp.jcD first (Sp.joL (Sp.formatS (false, false, (Sp.dNew 12).snd.snd.fst, false, (Sp.dNew 12).snd.snd.snd.snd)).fst)
 (Sp.joR (Sp.formatS (false, false, (Sp.dNew 12).snd.snd.fst, false, (Sp.dNew 12).snd.snd.snd.snd)).fst)
 (false, false, (Sp.formatS (false, false, (Sp.dNew 12).snd.snd.fst, false, (Sp.dNew 12).snd.snd.snd.snd)).fst.snd.snd.fst, false,
 (Sp.formatS (false, false, (Sp.dNew 12).snd.snd.fst, false, (Sp.dNew 12).snd.snd.snd.snd)).fst.snd.snd.snd.snd))).fst)
 (Sp.joR (Sp.formatS (false, false, (Sp.dNew 12).snd.snd.fst, false, (Sp.dNew 12).snd.snd.snd.snd)).fst)
 (Sp.dSet (1099511627776, false, [])
 (Sp.jcD more.snd.snd.fst
 (Sp.jcL first (Sp.joL (Sp.formatS (false, false, (Sp.dNew 12).snd.snd.fst, false, (Sp.dNew 12).snd.snd.snd.snd)).fst)
 (Sp.joR (Sp.formatS (false, false, (Sp.dNew 12).snd.snd.fst, false, (Sp.dNew 12).snd.snd.snd.snd)).fst)
 (false, false, (Sp.formatS (false, false, (Sp.dNew 12).snd.snd.fst, false, (Sp.dNew 12).snd.snd.snd.snd)).fst.snd.snd.fst, false,
 (Sp.formatS (false, false, (Sp.dNew 12).snd.snd.fst, false, (Sp.dNew 12).snd.snd.snd.snd)).fst.snd.snd.snd.snd))
 (Sp.joR (Sp.formatS (false, false, (Sp.dNew 12).snd.snd.fst, false, (Sp.dNew 12).snd.snd.snd.snd)).fst)
 (Sp.dSet (more.snd.fst, false, [])
 (Sp.jcD first (Sp.joL (Sp.formatS (false, false, (Sp.dNew 12).snd.snd.fst, false, (Sp.dNew 12).snd.snd.snd.snd)).fst)
 (Sp.joR (Sp.formatS (false, false, (Sp.dNew 12).snd.snd.fst, false, (Sp.dNew 12).snd.snd.snd.snd)).fst)
 (false, false, (Sp.formatS (false, false, (Sp.dNew 12).snd.snd.fst, false, (Sp.dNew 12).snd.snd.snd.snd)).fst.snd.snd.fst, false,
 (Sp.formatS (false, false, (Sp.dNew 12).snd.snd.fst, false, (Sp.dNew 12).snd.snd.snd.snd)).fst.snd.snd.snd.snd))).fst)).fst) ∧
 bif
 !decide
 ((Sp.dCrash more.snd.snd.snd.snd
 (Sp.jcD later
 (Sp.jcL more.snd.snd.fst
 (Sp.jcL first (Sp.joL (Sp.formatS (false, false, (Sp.dNew 12).snd.snd.fst, false, (Sp.dNew 12).snd.snd.snd.snd)).fst)
 (Sp.joR (Sp.formatS (false, false, (Sp.dNew 12).snd.snd.fst, false, (Sp.dNew 12).snd.snd.snd.snd)).fst)
 (false, false, (Sp.formatS (false, false, (Sp.dNew 12).snd.snd.fst, false, (Sp.dNew 12).snd.snd.snd.snd)).fst.snd.snd.fst, false,
 (Sp.formatS (false, false, (Sp.dNew 12).snd.snd.fst, false, (Sp.dNew 12).snd.snd.snd.snd)).fst.snd.snd.snd.snd))
 (Sp.joR (Sp.formatS (false, false, (Sp.dNew 12).snd.snd.fst, false, (Sp.dNew 12).snd.snd.snd.snd)).fst)
 (Sp.dSet (more.snd.fst, false, [])
 (Sp.jcD first (Sp.joL (Sp.formatS (false, false, (Sp.dNew 12).snd.snd.fst, false, (Sp.dNew 12).snd.snd.snd.snd)).fst)
 (Sp.joR (Sp.formatS (false, false, (Sp.dNew 12).snd.snd.fst, false, (Sp.dNew 12).snd.snd.snd.snd)).fst)
 (false, false, (Sp.formatS (false, false, (Sp.dNew 12).snd.snd.fst, false, (Sp.dNew 12).snd.snd.snd.snd)).fst.snd.snd.fst,
 false,
 (Sp.formatS (false, false, (Sp.dNew 12).snd.snd.fst, false, (Sp.dNew 12).snd.snd.snd.snd)).fst.snd.snd.snd.snd))).fst)
 (Sp.joR (Sp.formatS (false, false, (Sp.dNew 12).snd.snd.fst, false, (Sp.dNew 12).snd.snd.snd.snd)).fst)
 (Sp.dSet (1099511627776, false, [])
 (Sp.jcD more.snd.snd.fst
 (Sp.jcL first (Sp.joL (Sp.formatS (false, false, (Sp.dNew 12).snd.snd.fst, false, (Sp.dNew 12).snd.snd.snd.snd)).fst)
 (Sp.joR (Sp.formatS (false, false, (Sp.dNew 12).snd.snd.fst, false, (Sp.dNew 12).snd.snd.snd.snd)).fst)
 (false, false, (Sp.formatS (false, false, (Sp.dNew 12).snd.snd.fst, false, (Sp.dNew 12).snd.snd.snd.snd)).fst.snd.snd.fst,
 false, (Sp.formatS (false, false, (Sp.dNew 12).snd.snd.fst, false, (Sp.dNew 12).snd.snd.snd.snd)).fst.snd.snd.snd.snd))
 (Sp.joR (Sp.formatS (false, false, (Sp.dNew 12).snd.snd.fst, false, (Sp.dNew 12).snd.snd.snd.snd)).fst)
 (Sp.dSet (more.snd.fst, false, [])
 (Sp.jcD first (Sp.joL (Sp.formatS (false, false, (Sp.dNew 12).snd.snd.fst, false, (Sp.dNew 12).snd.snd.snd.snd)).fst)
 (Sp.joR (Sp.formatS (false, false, (Sp.dNew 12).snd.snd.fst, false, (Sp.dNew 12).snd.snd.snd.snd)).fst)
 (false, false, (Sp.formatS (false, false, (Sp.dNew 12).snd.snd.fst, false, (Sp.dNew 12).snd.snd.snd.snd)).fst.snd.snd.fst,
 false,
 (Sp.formatS
 (false, false, (Sp.dNew 12).snd.snd.fst, false,
 (Sp.dNew 12).snd.snd.snd.snd)).fst.snd.snd.snd.snd))).fst)).fst)).snd =
 0) then
 R false
 else
 Sp.dPre
 (Sp.dCrash more.snd.snd.snd.snd
 (Sp.jcD later
 (Sp.jcL more.snd.snd.fst
 (Sp.jcL first (Sp.joL (Sp.formatS (false, false, (Sp.dNew 12).snd.snd.fst, false, (Sp.dNew 12).snd.snd.snd.snd)).fst)
 (Sp.joR (Sp.formatS (false, false, (Sp.dNew 12).snd.snd.fst, false, (Sp.dNew 12).snd.snd.snd.snd)).fst)
 (false, false, (Sp.formatS (false, false, (Sp.dNew 12).snd.snd.fst, false, (Sp.dNew 12).snd.snd.snd.snd)).fst.snd.snd.fst, false,
 (Sp.formatS (false, false, (Sp.dNew 12).snd.snd.fst, false, (Sp.dNew 12).snd.snd.snd.snd)).fst.snd.snd.snd.snd))
 (Sp.joR (Sp.formatS (false, false, (Sp.dNew 12).snd.snd.fst, false, (Sp.dNew 12).snd.snd.snd.snd)).fst)
 (Sp.dSet (more.snd.fst, false, [])
 (Sp.jcD first (Sp.joL (Sp.formatS (false, false, (Sp.dNew 12).snd.snd.fst, false, (Sp.dNew 12).snd.snd.snd.snd)).fst)
 (Sp.joR (Sp.formatS (false, false, (Sp.dNew 12).snd.snd.fst, false, (Sp.dNew 12).snd.snd.snd.snd)).fst)
 (false, false, (Sp.formatS (false, false, (Sp.dNew 12).snd.snd.fst, false, (Sp.dNew 12).snd.snd.snd.snd)).fst.snd.snd.fst, false,
 (Sp.formatS (false, false, (Sp.dNew 12).snd.snd.fst, false, (Sp.dNew 12).snd.snd.snd.snd)).fst.snd.snd.snd.snd))).fst)
 (Sp.joR (Sp.formatS (false, false, (Sp.dNew 12).snd.snd.fst, false, (Sp.dNew 12).snd.snd.snd.snd)).fst)
 (Sp.dSet (1099511627776, false, [])
 (Sp.jcD more.snd.snd.fst
 (Sp.jcL first (Sp.joL (Sp.formatS (false, false, (Sp.dNew 12).snd.snd.fst, false, (Sp.dNew 12).snd.snd.snd.snd)).fst)
 (Sp.joR (Sp.formatS (false, false, (Sp.dNew 12).snd.snd.fst, false, (Sp.dNew 12).snd.snd.snd.snd)).fst)
 (false, false, (Sp.formatS (false, false, (Sp.dNew 12).snd.snd.fst, false, (Sp.dNew 12).snd.snd.snd.snd)).fst.snd.snd.fst, false,
 (Sp.formatS (false, false, (Sp.dNew 12).snd.snd.fst, false, (Sp.dNew 12).snd.snd.snd.snd)).fst.snd.snd.snd.snd))
 (Sp.joR (Sp.formatS (false, false, (Sp.dNew 12).snd.snd.fst, false, (Sp.dNew 12).snd.snd.snd.snd)).fst)
 (Sp.dSet (more.snd.fst, false, [])
 (Sp.jcD first (Sp.joL (Sp.formatS (false, false, (Sp.dNew 12).snd.snd.fst, false, (Sp.dNew 12).snd.snd.snd.snd)).fst)
 (Sp.joR (Sp.formatS (false, false, (Sp.dNew 12).snd.snd.fst, false, (Sp.dNew 12).snd.snd.snd.snd)).fst)
 (false, false, (Sp.formatS (false, false, (Sp.dNew 12).snd.snd.fst, false, (Sp.dNew 12).snd.snd.snd.snd)).fst.snd.snd.fst,
 false,
 (Sp.formatS
 (false, false, (Sp.dNew 12).snd.snd.fst, false,
 (Sp.dNew 12).snd.snd.snd.snd)).fst.snd.snd.snd.snd))).fst)).fst)).fst ∧
 bif
 !decide
 ((Sp.dStart
 (Sp.dCrash more.snd.snd.snd.snd
 (Sp.jcD later
 (Sp.jcL more.snd.snd.fst
 (Sp.jcL first (Sp.joL (Sp.formatS (false, false, (Sp.dNew 12).snd.snd.fst, false, (Sp.dNew 12).snd.snd.snd.snd)).fst)
 (Sp.joR (Sp.formatS (false, false, (Sp.dNew 12).snd.snd.fst, false, (Sp.dNew 12).snd.snd.snd.snd)).fst)
 (false, false, (Sp.formatS (false, false, (Sp.dNew 12).snd.snd.fst, false, (Sp.dNew 12).snd.snd.snd.snd)).fst.snd.snd.fst,
 false, (Sp.formatS (false, false, (Sp.dNew 12).snd.snd.fst, false, (Sp.dNew 12).snd.snd.snd.snd)).fst.snd.snd.snd.snd))
 (Sp.joR (Sp.formatS (false, false, (Sp.dNew 12).snd.snd.fst, false, (Sp.dNew 12).snd.snd.snd.snd)).fst)
 (Sp.dSet (more.snd.fst, false, [])
 (Sp.jcD first (Sp.joL (Sp.formatS (false, false, (Sp.dNew 12).snd.snd.fst, false, (Sp.dNew 12).snd.snd.snd.snd)).fst)
 (Sp.joR (Sp.formatS (false, false, (Sp.dNew 12).snd.snd.fst, false, (Sp.dNew 12).snd.snd.snd.snd)).fst)
 (false, false,
 (Sp.formatS (false, false, (Sp.dNew 12).snd.snd.fst, false, (Sp.dNew 12).snd.snd.snd.snd)).fst.snd.snd.fst, false,
 (Sp.formatS
 (false, false, (Sp.dNew 12).snd.snd.fst, false,
 (Sp.dNew 12).snd.snd.snd.snd)).fst.snd.snd.snd.snd))).fst)
 (Sp.joR (Sp.formatS (false, false, (Sp.dNew 12).snd.snd.fst, false, (Sp.dNew 12).snd.snd.snd.snd)).fst)
 (Sp.dSet (1099511627776, false, [])
 (Sp.jcD more.snd.snd.fst
 (Sp.jcL first (Sp.joL (Sp.formatS (false, false, (Sp.dNew 12).snd.snd.fst, false, (Sp.dNew 12).snd.snd.snd.snd)).fst)
 (Sp.joR (Sp.formatS (false, false, (Sp.dNew 12).snd.snd.fst, false, (Sp.dNew 12).snd.snd.snd.snd)).fst)
 (false, false,
 (Sp.formatS (false, false, (Sp.dNew 12).snd.snd.fst, false, (Sp.dNew 12).snd.snd.snd.snd)).fst.snd.snd.fst, false,
 (Sp.formatS (false, false, (Sp.dNew 12).snd.snd.fst, false, (Sp.dNew 12).snd.snd.snd.snd)).fst.snd.snd.snd.snd))
 (Sp.joR (Sp.formatS (false, false, (Sp.dNew 12).snd.snd.fst, false, (Sp.dNew 12).snd.snd.snd.snd)).fst)
 (Sp.dSet (more.snd.fst, false, [])
 (Sp.jcD first
 (Sp.joL (Sp.formatS (false, false, (Sp.dNew 12).snd.snd.fst, false, (Sp.dNew 12).snd.snd.snd.snd)).fst)
 (Sp.joR (Sp.formatS (false, false, (Sp.dNew 12).snd.snd.fst, false, (Sp.dNew 12).snd.snd.snd.snd)).fst)
 (false, false,
 (Sp.formatS (false, false, (Sp.dNew 12).snd.snd.fst, false, (Sp.dNew 12).snd.snd.snd.snd)).fst.snd.snd.fst,
 false,
 (Sp.formatS
 (false, false, (Sp.dNew 12).snd.snd.fst, false,
 (Sp.dNew 12).snd.snd.snd.snd)).fst.snd.snd.snd.snd))).fst)).fst)).fst).snd =
 0) then
 R false
 else
 Sp.gPre
 (Sp.dStart
 (Sp.dCrash more.snd.snd.snd.snd
 (Sp.jcD later
 (Sp.jcL more.snd.snd.fst
 (Sp.jcL first (Sp.joL (Sp.formatS (false, false, (Sp.dNew 12).snd.snd.fst, false, (Sp.dNew 12).snd.snd.snd.snd)).fst)
 (Sp.joR (Sp.formatS (false, false, (Sp.dNew 12).snd.snd.fst, false, (Sp.dNew 12).snd.snd.snd.snd)).fst)
 (false, false, (Sp.formatS (false, false, (Sp.dNew 12).snd.snd.fst, false, (Sp.dNew 12).snd.snd.snd.snd)).fst.snd.snd.fst,
 false, (Sp.formatS (false, false, (Sp.dNew 12).snd.snd.fst, false, (Sp.dNew 12).snd.snd.snd.snd)).fst.snd.snd.snd.snd))
 (Sp.joR (Sp.formatS (false, false, (Sp.dNew 12).snd.snd.fst, false, (Sp.dNew 12).snd.snd.snd.snd)).fst)
 (Sp.dSet (more.snd.fst, false, [])
 (Sp.jcD first (Sp.joL (Sp.formatS (false, false, (Sp.dNew 12).snd.snd.fst, false, (Sp.dNew 12).snd.snd.snd.snd)).fst)
 (Sp.joR (Sp.formatS (false, false, (Sp.dNew 12).snd.snd.fst, false, (Sp.dNew 12).snd.snd.snd.snd)).fst)
 (false, false, (Sp.formatS (false, false, (Sp.dNew 12).snd.snd.fst, false, (Sp.dNew 12).snd.snd.snd.snd)).fst.snd.snd.fst,
 false,
 (Sp.formatS (false, false, (Sp.dNew 12).snd.snd.fst, false, (Sp.dNew 12).snd.snd.snd.snd)).fst.snd.snd.snd.snd))).fst)
 (Sp.joR (Sp.formatS (false, false, (Sp.dNew 12).snd.snd.fst, false, (Sp.dNew 12).snd.snd.snd.snd)).fst)
 (Sp.dSet (1099511627776, false, [])
 (Sp.jcD more.snd.snd.fst
 (Sp.jcL first (Sp.joL (Sp.formatS (false, false, (Sp.dNew 12).snd.snd.fst, false, (Sp.dNew 12).snd.snd.snd.snd)).fst)
 (Sp.joR (Sp.formatS (false, false, (Sp.dNew 12).snd.snd.fst, false, (Sp.dNew 12).snd.snd.snd.snd)).fst)
 (false, false, (Sp.formatS (false, false, (Sp.dNew 12).snd.snd.fst, false, (Sp.dNew 12).snd.snd.snd.snd)).fst.snd.snd.fst,
 false, (Sp.formatS (false, false, (Sp.dNew 12).snd.snd.fst, false, (Sp.dNew 12).snd.snd.snd.snd)).fst.snd.snd.snd.snd))
 (Sp.joR (Sp.formatS (false, false, (Sp.dNew 12).snd.snd.fst, false, (Sp.dNew 12).snd.snd.snd.snd)).fst)
 (Sp.dSet (more.snd.fst, false, [])
 (Sp.jcD first (Sp.joL (Sp.formatS (false, false, (Sp.dNew 12).snd.snd.fst, false, (Sp.dNew 12).snd.snd.snd.snd)).fst)
 (Sp.joR (Sp.formatS (false, false, (Sp.dNew 12).snd.snd.fst, false, (Sp.dNew 12).snd.snd.snd.snd)).fst)
 (false, false,
 (Sp.formatS (false, false, (Sp.dNew 12).snd.snd.fst, false, (Sp.dNew 12).snd.snd.snd.snd)).fst.snd.snd.fst, false,
 (Sp.formatS
 (false, false, (Sp.dNew 12).snd.snd.fst, false,
 (Sp.dNew 12).snd.snd.snd.snd)).fst.snd.snd.snd.snd))).fst)).fst)).fst).fst ∧
 bif
 Sp.joNil
 (Sp.dStart
 (Sp.dCrash more.snd.snd.snd.snd
 (Sp.jcD later
 (Sp.jcL more.snd.snd.fst
 (Sp.jcL first (Sp.joL (Sp.formatS (false, false, (Sp.dNew 12).snd.snd.fst, false, (Sp.dNew 12).snd.snd.snd.snd)).fst)
 (Sp.joR (Sp.formatS (false, false, (Sp.dNew 12).snd.snd.fst, false, (Sp.dNew 12).snd.snd.snd.snd)).fst)
 (false, false, (Sp.formatS (false, false, (Sp.dNew 12).snd.snd.fst, false, (Sp.dNew 12).snd.snd.snd.snd)).fst.snd.snd.fst,
 false, (Sp.formatS (false, false, (Sp.dNew 12).snd.snd.fst, false, (Sp.dNew 12).snd.snd.snd.snd)).fst.snd.snd.snd.snd))
 (Sp.joR (Sp.formatS (false, false, (Sp.dNew 12).snd.snd.fst, false, (Sp.dNew 12).snd.snd.snd.snd)).fst)
 (Sp.dSet (more.snd.fst, false, [])
 (Sp.jcD first (Sp.joL (Sp.formatS (false, false, (Sp.dNew 12).snd.snd.fst, false, (Sp.dNew 12).snd.snd.snd.snd)).fst)
 (Sp.joR (Sp.formatS (false, false, (Sp.dNew 12).snd.snd.fst, false, (Sp.dNew 12).snd.snd.snd.snd)).fst)
 (false, false,
 (Sp.formatS (false, false, (Sp.dNew 12).snd.snd.fst, false, (Sp.dNew 12).snd.snd.snd.snd)).fst.snd.snd.fst, false,
 (Sp.formatS
 (false, false, (Sp.dNew 12).snd.snd.fst, false,
 (Sp.dNew 12).snd.snd.snd.snd)).fst.snd.snd.snd.snd))).fst)
 (Sp.joR (Sp.formatS (false, false, (Sp.dNew 12).snd.snd.fst, false, (Sp.dNew 12).snd.snd.snd.snd)).fst)
 (Sp.dSet (1099511627776, false, [])
 (Sp.jcD more.snd.snd.fst
 (Sp.jcL first (Sp.joL (Sp.formatS (false, false, (Sp.dNew 12).snd.snd.fst, false, (Sp.dNew 12).snd.snd.snd.snd)).fst)
 (Sp.joR (Sp.formatS (false, false, (Sp.dNew 12).snd.snd.fst, false, (Sp.dNew 12).snd.snd.snd.snd)).fst)
 (false, false,
 (Sp.formatS (false, false, (Sp.dNew 12).snd.snd.fst, false, (Sp.dNew 12).snd.snd.snd.snd)).fst.snd.snd.fst, false,
 (Sp.formatS (false, false, (Sp.dNew 12).snd.snd.fst, false, (Sp.dNew 12).snd.snd.snd.snd)).fst.snd.snd.snd.snd))
 (Sp.joR (Sp.formatS (false, false, (Sp.dNew 12).snd.snd.fst, false, (Sp.dNew 12).snd.snd.snd.snd)).fst)
 (Sp.dSet (more.snd.fst, false, [])
 (Sp.jcD first
 (Sp.joL (Sp.formatS (false, false, (Sp.dNew 12).snd.snd.fst, false, (Sp.dNew 12).snd.snd.snd.snd)).fst)
 (Sp.joR (Sp.formatS (false, false, (Sp.dNew 12).snd.snd.fst, false, (Sp.dNew 12).snd.snd.snd.snd)).fst)
 (false, false,
 (Sp.formatS (false, false, (Sp.dNew 12).snd.snd.fst, false, (Sp.dNew 12).snd.snd.snd.snd)).fst.snd.snd.fst,
 false,
 (Sp.formatS
 (false, false, (Sp.dNew 12).snd.snd.fst, false,
 (Sp.dNew 12).snd.snd.snd.snd)).fst.snd.snd.snd.snd))).fst)).fst)).fst).fst then
 bif
 decide
 (Sp.joErr
 (Sp.dStart
 (Sp.dCrash more.snd.snd.snd.snd
 (Sp.jcD later
 (Sp.jcL more.snd.snd.fst
 (Sp.jcL first (Sp.joL (Sp.formatS (false, false, (Sp.dNew 12).snd.snd.fst, false, (Sp.dNew 12).snd.snd.snd.snd)).fst)
 (Sp.joR (Sp.formatS (false, false, (Sp.dNew 12).snd.snd.fst, false, (Sp.dNew 12).snd.snd.snd.snd)).fst)
 (false, false,
 (Sp.formatS (false, false, (Sp.dNew 12).snd.snd.fst, false, (Sp.dNew 12).snd.snd.snd.snd)).fst.snd.snd.fst, false,
 (Sp.formatS (false, false, (Sp.dNew 12).snd.snd.fst, false, (Sp.dNew 12).snd.snd.snd.snd)).fst.snd.snd.snd.snd))
 (Sp.joR (Sp.formatS (false, false, (Sp.dNew 12).snd.snd.fst, false, (Sp.dNew 12).snd.snd.snd.snd)).fst)
 (Sp.dSet (more.snd.fst, false, [])
 (Sp.jcD first
 (Sp.joL (Sp.formatS (false, false, (Sp.dNew 12).snd.snd.fst, false, (Sp.dNew 12).snd.snd.snd.snd)).fst)
 (Sp.joR (Sp.formatS (false, false, (Sp.dNew 12).snd.snd.fst, false, (Sp.dNew 12).snd.snd.snd.snd)).fst)
 (false, false,
 (Sp.formatS (false, false, (Sp.dNew 12).snd.snd.fst, false, (Sp.dNew 12).snd.snd.snd.snd)).fst.snd.snd.fst,
 false,
 (Sp.formatS
 (false, false, (Sp.dNew 12).snd.snd.fst, false,
 (Sp.dNew 12).snd.snd.snd.snd)).fst.snd.snd.snd.snd))).fst)
 (Sp.joR (Sp.formatS (false, false, (Sp.dNew 12).snd.snd.fst, false, (Sp.dNew 12).snd.snd.snd.snd)).fst)
 (Sp.dSet (1099511627776, false, [])
 (Sp.jcD more.snd.snd.fst
 (Sp.jcL first
 (Sp.joL (Sp.formatS (false, false, (Sp.dNew 12).snd.snd.fst, false, (Sp.dNew 12).snd.snd.snd.snd)).fst)
 (Sp.joR (Sp.formatS (false, false, (Sp.dNew 12).snd.snd.fst, false, (Sp.dNew 12).snd.snd.snd.snd)).fst)
 (false, false,
 (Sp.formatS (false, false, (Sp.dNew 12).snd.snd.fst, false, (Sp.dNew 12).snd.snd.snd.snd)).fst.snd.snd.fst,
 false,
 (Sp.formatS
 (false, false, (Sp.dNew 12).snd.snd.fst, false,
 (Sp.dNew 12).snd.snd.snd.snd)).fst.snd.snd.snd.snd))
 (Sp.joR (Sp.formatS (false, false, (Sp.dNew 12).snd.snd.fst, false, (Sp.dNew 12).snd.snd.snd.snd)).fst)
 (Sp.dSet (more.snd.fst, false, [])
 (Sp.jcD first
 (Sp.joL (Sp.formatS (false, false, (Sp.dNew 12).snd.snd.fst, false, (Sp.dNew 12).snd.snd.snd.snd)).fst)
 (Sp.joR (Sp.formatS (false, false, (Sp.dNew 12).snd.snd.fst, false, (Sp.dNew 12).snd.snd.snd.snd)).fst)
 (false, false,
 (Sp.formatS
 (false, false, (Sp.dNew 12).snd.snd.fst, false, (Sp.dNew 12).snd.snd.snd.snd)).fst.snd.snd.fst,
 false,
 (Sp.formatS
 (false, false, (Sp.dNew 12).snd.snd.fst, false,
 (Sp.dNew 12).snd.snd.snd.snd)).fst.snd.snd.snd.snd))).fst)).fst)).fst).fst =
 0) then
 R false
 else R false
 else
 Sp.lOk
 (Sp.joL
 (Sp.dStart
 (Sp.dCrash more.snd.snd.snd.snd
 (Sp.jcD later
 (Sp.jcL more.snd.snd.fst
 (Sp.jcL first (Sp.joL (Sp.formatS (false, false, (Sp.dNew 12).snd.snd.fst, false, (Sp.dNew 12).snd.snd.snd.snd)).fst)
 (Sp.joR (Sp.formatS (false, false, (Sp.dNew 12).snd.snd.fst, false, (Sp.dNew 12).snd.snd.snd.snd)).fst)
 (false, false,
 (Sp.formatS (false, false, (Sp.dNew 12).snd.snd.fst, false, (Sp.dNew 12).snd.snd.snd.snd)).fst.snd.snd.fst, false,
 (Sp.formatS (false, false, (Sp.dNew 12).snd.snd.fst, false, (Sp.dNew 12).snd.snd.snd.snd)).fst.snd.snd.snd.snd))
 (Sp.joR (Sp.formatS (false, false, (Sp.dNew 12).snd.snd.fst, false, (Sp.dNew 12).snd.snd.snd.snd)).fst)
 (Sp.dSet (more.snd.fst, false, [])
 (Sp.jcD first (Sp.joL (Sp.formatS (false, false, (Sp.dNew 12).snd.snd.fst, false, (Sp.dNew 12).snd.snd.snd.snd)).fst)
 (Sp.joR (Sp.formatS (false, false, (Sp.dNew 12).snd.snd.fst, false, (Sp.dNew 12).snd.snd.snd.snd)).fst)
 (false, false,
 (Sp.formatS (false, false, (Sp.dNew 12).snd.snd.fst, false, (Sp.dNew 12).snd.snd.snd.snd)).fst.snd.snd.fst, false,
 (Sp.formatS
 (false, false, (Sp.dNew 12).snd.snd.fst, false,
 (Sp.dNew 12).snd.snd.snd.snd)).fst.snd.snd.snd.snd))).fst)
 (Sp.joR (Sp.formatS (false, false, (Sp.dNew 12).snd.snd.fst, false, (Sp.dNew 12).snd.snd.snd.snd)).fst)
 (Sp.dSet (1099511627776, false, [])
 (Sp.jcD more.snd.snd.fst
 (Sp.jcL first (Sp.joL (Sp.formatS (false, false, (Sp.dNew 12).snd.snd.fst, false, (Sp.dNew 12).snd.snd.snd.snd)).fst)
 (Sp.joR (Sp.formatS (false, false, (Sp.dNew 12).snd.snd.fst, false, (Sp.dNew 12).snd.snd.snd.snd)).fst)
 (false, false,
 (Sp.formatS (false, false, (Sp.dNew 12).snd.snd.fst, false, (Sp.dNew 12).snd.snd.snd.snd)).fst.snd.snd.fst, false,
 (Sp.formatS (false, false, (Sp.dNew 12).snd.snd.fst, false, (Sp.dNew 12).snd.snd.snd.snd)).fst.snd.snd.snd.snd))
 (Sp.joR (Sp.formatS (false, false, (Sp.dNew 12).snd.snd.fst, false, (Sp.dNew 12).snd.snd.snd.snd)).fst)
 (Sp.dSet (more.snd.fst, false, [])
 (Sp.jcD first
 (Sp.joL (Sp.formatS (false, false, (Sp.dNew 12).snd.snd.fst, false, (Sp.dNew 12).snd.snd.snd.snd)).fst)
 (Sp.joR (Sp.formatS (false, false, (Sp.dNew 12).snd.snd.fst, false, (Sp.dNew 12).snd.snd.snd.snd)).fst)
 (false, false,
 (Sp.formatS (false, false, (Sp.dNew 12).snd.snd.fst, false, (Sp.dNew 12).snd.snd.snd.snd)).fst.snd.snd.fst,
 false,
 (Sp.formatS
 (false, false, (Sp.dNew 12).snd.snd.fst, false,
 (Sp.dNew 12).snd.snd.snd.snd)).fst.snd.snd.snd.snd))).fst)).fst)).fst).fst) ∧
 Sp.eqL.pre
 (Sp.lRecs
 (Sp.joL
 (Sp.dStart
 (Sp.dCrash more.snd.snd.snd.snd
 (Sp.jcD later
 (Sp.jcL more.snd.snd.fst
 (Sp.jcL first (Sp.joL (Sp.formatS (false, false, (Sp.dNew 12).snd.snd.fst, false, (Sp.dNew 12).snd.snd.snd.snd)).fst)
 (Sp.joR (Sp.formatS (false, false, (Sp.dNew 12).snd.snd.fst, false, (Sp.dNew 12).snd.snd.snd.snd)).fst)
 (false, false,
 (Sp.formatS (false, false, (Sp.dNew 12).snd.snd.fst, false, (Sp.dNew 12).snd.snd.snd.snd)).fst.snd.snd.fst, false,
 (Sp.formatS (false, false, (Sp.dNew 12).snd.snd.fst, false, (Sp.dNew 12).snd.snd.snd.snd)).fst.snd.snd.snd.snd))
 (Sp.joR (Sp.formatS (false, false, (Sp.dNew 12).snd.snd.fst, false, (Sp.dNew 12).snd.snd.snd.snd)).fst)
 (Sp.dSet (more.snd.fst, false, [])
 (Sp.jcD first
 (Sp.joL (Sp.formatS (false, false, (Sp.dNew 12).snd.snd.fst, false, (Sp.dNew 12).snd.snd.snd.snd)).fst)
 (Sp.joR (Sp.formatS (false, false, (Sp.dNew 12).snd.snd.fst, false, (Sp.dNew 12).snd.snd.snd.snd)).fst)
 (false, false,
 (Sp.formatS (false, false, (Sp.dNew 12).snd.snd.fst, false, (Sp.dNew 12).snd.snd.snd.snd)).fst.snd.snd.fst,
 false,
 (Sp.formatS
 (false, false, (Sp.dNew 12).snd.snd.fst, false,
 (Sp.dNew 12).snd.snd.snd.snd)).fst.snd.snd.snd.snd))).fst)
 (Sp.joR (Sp.formatS (false, false, (Sp.dNew 12).snd.snd.fst, false, (Sp.dNew 12).snd.snd.snd.snd)).fst)
 (Sp.dSet (1099511627776, false, [])
 (Sp.jcD more.snd.snd.fst
 (Sp.jcL first
 (Sp.joL (Sp.formatS (false, false, (Sp.dNew 12).snd.snd.fst, false, (Sp.dNew 12).snd.snd.snd.snd)).fst)
 (Sp.joR (Sp.formatS (false, false, (Sp.dNew 12).snd.snd.fst, false, (Sp.dNew 12).snd.snd.snd.snd)).fst)
 (false, false,
 (Sp.formatS (false, false, (Sp.dNew 12).snd.snd.fst, false, (Sp.dNew 12).snd.snd.snd.snd)).fst.snd.snd.fst,
 false,
 (Sp.formatS
 (false, false, (Sp.dNew 12).snd.snd.fst, false,
 (Sp.dNew 12).snd.snd.snd.snd)).fst.snd.snd.snd.snd))
 (Sp.joR (Sp.formatS (false, false, (Sp.dNew 12).snd.snd.fst, false, (Sp.dNew 12).snd.snd.snd.snd)).fst)
 (Sp.dSet (more.snd.fst, false, [])
 (Sp.jcD first
 (Sp.joL (Sp.formatS (false, false, (Sp.dNew 12).snd.snd.fst, false, (Sp.dNew 12).snd.snd.snd.snd)).fst)
 (Sp.joR (Sp.formatS (false, false, (Sp.dNew 12).snd.snd.fst, false, (Sp.dNew 12).snd.snd.snd.snd)).fst)
 (false, false,
 (Sp.formatS
 (false, false, (Sp.dNew 12).snd.snd.fst, false, (Sp.dNew 12).snd.snd.snd.snd)).fst.snd.snd.fst,
 false,
 (Sp.formatS
 (false, false, (Sp.dNew 12).snd.snd.fst, false,
 (Sp.dNew 12).snd.snd.snd.snd)).fst.snd.snd.snd.snd))).fst)).fst)).fst).fst))
 (Sp.lRecs
 (Sp.jcL more.snd.snd.fst
 (Sp.jcL first (Sp.joL (Sp.formatS (false, false, (Sp.dNew 12).snd.snd.fst, false, (Sp.dNew 12).snd.snd.snd.snd)).fst)
 (Sp.joR (Sp.formatS (false, false, (Sp.dNew 12).snd.snd.fst, false, (Sp.dNew 12).snd.snd.snd.snd)).fst)
 (false, false, (Sp.formatS (false, false, (Sp.dNew 12).snd.snd.fst, false, (Sp.dNew 12).snd.snd.snd.snd)).fst.snd.snd.fst,
 false, (Sp.formatS (false, false, (Sp.dNew 12).snd.snd.fst, false, (Sp.dNew 12).snd.snd.snd.snd)).fst.snd.snd.snd.snd))
 (Sp.joR (Sp.formatS (false, false, (Sp.dNew 12).snd.snd.fst, false, (Sp.dNew 12).snd.snd.snd.snd)).fst)
 (Sp.dSet (more.snd.fst, false, [])
 (Sp.jcD first (Sp.joL (Sp.formatS (false, false, (Sp.dNew 12).snd.snd.fst, false, (Sp.dNew 12).snd.snd.snd.snd)).fst)
 (Sp.joR (Sp.formatS (false, false, (Sp.dNew 12).snd.snd.fst, false, (Sp.dNew 12).snd.snd.snd.snd)).fst)
 (false, false, (Sp.formatS (false, false, (Sp.dNew 12).snd.snd.fst, false, (Sp.dNew 12).snd.snd.snd.snd)).fst.snd.snd.fst,
 false,
 (Sp.formatS (false, false, (Sp.dNew 12).snd.snd.fst, false, (Sp.dNew 12).snd.snd.snd.snd)).fst.snd.snd.snd.snd))).fst)) ∧
 bif
 Sp.eqL
 (Sp.lRecs
 (Sp.joL
 (Sp.dStart
 (Sp.dCrash more.snd.snd.snd.snd
 (Sp.jcD later
 (Sp.jcL more.snd.snd.fst
 (Sp.jcL first
 (Sp.joL (Sp.formatS (false, false, (Sp.dNew 12).snd.snd.fst, false, (Sp.dNew 12).snd.snd.snd.snd)).fst)
 (Sp.joR (Sp.formatS (false, false, (Sp.dNew 12).snd.snd.fst, false, (Sp.dNew 12).snd.snd.snd.snd)).fst)
 (false, false,
 (Sp.formatS (false, false, (Sp.dNew 12).snd.snd.fst, false, (Sp.dNew 12).snd.snd.snd.snd)).fst.snd.snd.fst,
 false,
 (Sp.formatS
 (false, false, (Sp.dNew 12).snd.snd.fst, false,
 (Sp.dNew 12).snd.snd.snd.snd)).fst.snd.snd.snd.snd))
 (Sp.joR (Sp.formatS (false, false, (Sp.dNew 12).snd.snd.fst, false, (Sp.dNew 12).snd.snd.snd.snd)).fst)
 (Sp.dSet (more.snd.fst, false, [])
 (Sp.jcD first
 (Sp.joL (Sp.formatS (false, false, (Sp.dNew 12).snd.snd.fst, false, (Sp.dNew 12).snd.snd.snd.snd)).fst)
 (Sp.joR (Sp.formatS (false, false, (Sp.dNew 12).snd.snd.fst, false, (Sp.dNew 12).snd.snd.snd.snd)).fst)
 (false, false,
 (Sp.formatS
 (false, false, (Sp.dNew 12).snd.snd.fst, false, (Sp.dNew 12).snd.snd.snd.snd)).fst.snd.snd.fst,
 false,
 (Sp.formatS
 (false, false, (Sp.dNew 12).snd.snd.fst, false,
 (Sp.dNew 12).snd.snd.snd.snd)).fst.snd.snd.snd.snd))).fst)
 (Sp.joR (Sp.formatS (false, false, (Sp.dNew 12).snd.snd.fst, false, (Sp.dNew 12).snd.snd.snd.snd)).fst)
 (Sp.dSet (1099511627776, false, [])
 (Sp.jcD more.snd.snd.fst
 (Sp.jcL first
 (Sp.joL (Sp.formatS (false, false, (Sp.dNew 12).snd.snd.fst, false, (Sp.dNew 12).snd.snd.snd.snd)).fst)
 (Sp.joR (Sp.formatS (false, false, (Sp.dNew 12).snd.snd.fst, false, (Sp.dNew 12).snd.snd.snd.snd)).fst)
 (false, false,
 (Sp.formatS
 (false, false, (Sp.dNew 12).snd.snd.fst, false, (Sp.dNew 12).snd.snd.snd.snd)).fst.snd.snd.fst,
 false,
 (Sp.formatS
 (false, false, (Sp.dNew 12).snd.snd.fst, false,
 (Sp.dNew 12).snd.snd.snd.snd)).fst.snd.snd.snd.snd))
 (Sp.joR (Sp.formatS (false, false, (Sp.dNew 12).snd.snd.fst, false, (Sp.dNew 12).snd.snd.snd.snd)).fst)
 (Sp.dSet (more.snd.fst, false, [])
 (Sp.jcD first
 (Sp.joL (Sp.formatS (false, false, (Sp.dNew 12).snd.snd.fst, false, (Sp.dNew 12).snd.snd.snd.snd)).fst)
 (Sp.joR (Sp.formatS (false, false, (Sp.dNew 12).snd.snd.fst, false, (Sp.dNew 12).snd.snd.snd.snd)).fst)
 (false, false,
 (Sp.formatS
 (false, false, (Sp.dNew 12).snd.snd.fst, false,
 (Sp.dNew 12).snd.snd.snd.snd)).fst.snd.snd.fst,
 false,
 (Sp.formatS
 (false, false, (Sp.dNew 12).snd.snd.fst, false,
 (Sp.dNew 12).snd.snd.snd.snd)).fst.snd.snd.snd.snd))).fst)).fst)).fst).fst))
 (Sp.lRecs
 (Sp.jcL more.snd.snd.fst
 (Sp.jcL first (Sp.joL (Sp.formatS (false, false, (Sp.dNew 12).snd.snd.fst, false, (Sp.dNew 12).snd.snd.snd.snd)).fst)
 (Sp.joR (Sp.formatS (false, false, (Sp.dNew 12).snd.snd.fst, false, (Sp.dNew 12).snd.snd.snd.snd)).fst)
 (false, false, (Sp.formatS (false, false, (Sp.dNew 12).snd.snd.fst, false, (Sp.dNew 12).snd.snd.snd.snd)).fst.snd.snd.fst,
 false, (Sp.formatS (false, false, (Sp.dNew 12).snd.snd.fst, false, (Sp.dNew 12).snd.snd.snd.snd)).fst.snd.snd.snd.snd))
 (Sp.joR (Sp.formatS (false, false, (Sp.dNew 12).snd.snd.fst, false, (Sp.dNew 12).snd.snd.snd.snd)).fst)
 (Sp.dSet (more.snd.fst, false, [])
 (Sp.jcD first (Sp.joL (Sp.formatS (false, false, (Sp.dNew 12).snd.snd.fst, false, (Sp.dNew 12).snd.snd.snd.snd)).fst)
 (Sp.joR (Sp.formatS (false, false, (Sp.dNew 12).snd.snd.fst, false, (Sp.dNew 12).snd.snd.snd.snd)).fst)
 (false, false,
 (Sp.formatS (false, false, (Sp.dNew 12).snd.snd.fst, false, (Sp.dNew 12).snd.snd.snd.snd)).fst.snd.snd.fst, false,
 (Sp.formatS
 (false, false, (Sp.dNew 12).snd.snd.fst, false,
 (Sp.dNew 12).snd.snd.snd.snd)).fst.snd.snd.snd.snd))).fst)) then
 R Sp.tt
 else R false
 else
 Sp.lOk
 (Sp.jcL more.snd.snd.fst
 (Sp.jcL first (Sp.joL (Sp.formatS (false, false, (Sp.dNew 12).snd.snd.fst, false, (Sp.dNew 12).snd.snd.snd.snd)).fst)
 (Sp.joR (Sp.formatS (false, false, (Sp.dNew 12).snd.snd.fst, false, (Sp.dNew 12).snd.snd.snd.snd)).fst)
 (false, false, (Sp.formatS (false, false, (Sp.dNew 12).snd.snd.fst, false, (Sp.dNew 12).snd.snd.snd.snd)).fst.snd.snd.fst, false,
 (Sp.formatS (false, false, (Sp.dNew 12).snd.snd.fst, false, (Sp.dNew 12).snd.snd.snd.snd)).fst.snd.snd.snd.snd))
 (Sp.joR (Sp.formatS (false, false, (Sp.dNew 12).snd.snd.fst, false, (Sp.dNew 12).snd.snd.snd.snd)).fst)
 (Sp.dSet (more.snd.fst, false, [])
 (Sp.jcD first (Sp.joL (Sp.formatS (false, false, (Sp.dNew 12).snd.snd.fst, false, (Sp.dNew 12).snd.snd.snd.snd)).fst)
 (Sp.joR (Sp.formatS (false, false, (Sp.dNew 12).snd.snd.fst, false, (Sp.dNew 12).snd.snd.snd.snd)).fst)
 (false, false, (Sp.formatS (false, false, (Sp.dNew 12).snd.snd.fst, false, (Sp.dNew 12).snd.snd.snd.snd)).fst.snd.snd.fst, false,
 (Sp.formatS (false, false, (Sp.dNew 12).snd.snd.fst, false, (Sp.dNew 12).snd.snd.snd.snd)).fst.snd.snd.snd.snd))).fst) ∧
 Sp.dSet.pre (1099511627776, false, [])
 (Sp.jcD more.snd.snd.fst
 (Sp.jcL first (Sp.joL (Sp.formatS (false, false, (Sp.dNew 12).snd.snd.fst, false, (Sp.dNew 12).snd.snd.snd.snd)).fst)
 (Sp.joR (Sp.formatS (false, false, (Sp.dNew 12).snd.snd.fst, false, (Sp.dNew 12).snd.snd.snd.snd)).fst)
 (false, false, (Sp.formatS (false, false, (Sp.dNew 12).snd.snd.fst, false, (Sp.dNew 12).snd.snd.snd.snd)).fst.snd.snd.fst, false,
 (Sp.formatS (false, false, (Sp.dNew 12).snd.snd.fst, false, (Sp.dNew 12).snd.snd.snd.snd)).fst.snd.snd.snd.snd))
 (Sp.joR (Sp.formatS (false, false, (Sp.dNew 12).snd.snd.fst, false, (Sp.dNew 12).snd.snd.snd.snd)).fst)
 (Sp.dSet (more.snd.fst, false, [])
 (Sp.jcD first (Sp.joL (Sp.formatS (false, false, (Sp.dNew 12).snd.snd.fst, false, (Sp.dNew 12).snd.snd.snd.snd)).fst)
 (Sp.joR (Sp.formatS (false, false, (Sp.dNew 12).snd.snd.fst, false, (Sp.dNew 12).snd.snd.snd.snd)).fst)
 (false, false, (Sp.formatS (false, false, (Sp.dNew 12).snd.snd.fst, false, (Sp.dNew 12).snd.snd.snd.snd)).fst.snd.snd.fst, false,
 (Sp.formatS (false, false, (Sp.dNew 12).snd.snd.fst, false, (Sp.dNew 12).snd.snd.snd.snd)).fst.snd.snd.snd.snd))).fst) ∧
 Sp.jcPre later
 (Sp.jcL more.snd.snd.fst
 (Sp.jcL first (Sp.joL (Sp.formatS (false, false, (Sp.dNew 12).snd.snd.fst, false, (Sp.dNew 12).snd.snd.snd.snd)).fst)
 (Sp.joR (Sp.formatS (false, false, (Sp.dNew 12).snd.snd.fst, false, (Sp.dNew 12).snd.snd.snd.snd)).fst)
 (false, false, (Sp.formatS (false, false, (Sp.dNew 12).snd.snd.fst, false, (Sp.dNew 12).snd.snd.snd.snd)).fst.snd.snd.fst, false,
 (Sp.formatS (false, false, (Sp.dNew 12).snd.snd.fst, false, (Sp.dNew 12).snd.snd.snd.snd)).fst.snd.snd.snd.snd))
 (Sp.joR (Sp.formatS (false, false, (Sp.dNew 12).snd.snd.fst, false, (Sp.dNew 12).snd.snd.snd.snd)).fst)
 (Sp.dSet (more.snd.fst, false, [])
 (Sp.jcD first (Sp.joL (Sp.formatS (false, false, (Sp.dNew 12).snd.snd.fst, false, (Sp.dNew 12).snd.snd.snd.snd)).fst)
 (Sp.joR (Sp.formatS (false, false, (Sp.dNew 12).snd.snd.fst, false, (Sp.dNew 12).snd.snd.snd.snd)).fst)
 (false, false, (Sp.formatS (false, false, (Sp.dNew 12).snd.snd.fst, false, (Sp.dNew 12).snd.snd.snd.snd)).fst.snd.snd.fst, false,
 (Sp.formatS (false, false, (Sp.dNew 12).snd.snd.fst, false, (Sp.dNew 12).snd.snd.snd.snd)).fst.snd.snd.snd.snd))).fst)
 (Sp.joR (Sp.formatS (false, false, (Sp.dNew 12).snd.snd.fst, false, (Sp.dNew 12).snd.snd.snd.snd)).fst)
 (Sp.dSet (1099511627776, false, [])
 (Sp.jcD more.snd.snd.fst
 (Sp.jcL first (Sp.joL (Sp.formatS (false, false, (Sp.dNew 12).snd.snd.fst, false, (Sp.dNew 12).snd.snd.snd.snd)).fst)
 (Sp.joR (Sp.formatS (false, false, (Sp.dNew 12).snd.snd.fst, false, (Sp.dNew 12).snd.snd.snd.snd)).fst)
 (false, false, (Sp.formatS (false, false, (Sp.dNew 12).snd.snd.fst, false, (Sp.dNew 12).snd.snd.snd.snd)).fst.snd.snd.fst, false,
 (Sp.formatS (false, false, (Sp.dNew 12).snd.snd.fst, false, (Sp.dNew 12).snd.snd.snd.snd)).fst.snd.snd.snd.snd))
 (Sp.joR (Sp.formatS (false, false, (Sp.dNew 12).snd.snd.fst, false, (Sp.dNew 12).snd.snd.snd.snd)).fst)
 (Sp.dSet (more.snd.fst, false, [])
 (Sp.jcD first (Sp.joL (Sp.formatS (false, false, (Sp.dNew 12).snd.snd.fst, false, (Sp.dNew 12).snd.snd.snd.snd)).fst)
 (Sp.joR (Sp.formatS (false, false, (Sp.dNew 12).snd.snd.fst, false, (Sp.dNew 12).snd.snd.snd.snd)).fst)
 (false, false, (Sp.formatS (false, false, (Sp.dNew 12).snd.snd.fst, false, (Sp.dNew 12).snd.snd.snd.snd)).fst.snd.snd.fst, false,
 (Sp.formatS (false, false, (Sp.dNew 12).snd.snd.fst, false, (Sp.dNew 12).snd.snd.snd.snd)).fst.snd.snd.snd.snd))).fst)).fst ∧
 bif
 decide
 (Sp.jcE later
 (Sp.jcL more.snd.snd.fst
 (Sp.jcL first (Sp.joL (Sp.formatS (false, false, (Sp.dNew 12).snd.snd.fst, false, (Sp.dNew 12).snd.snd.snd.snd)).fst)
 (Sp.joR (Sp.formatS (false, false, (Sp.dNew 12).snd.snd.fst, false, (Sp.dNew 12).snd.snd.snd.snd)).fst)
 (false, false, (Sp.formatS (false, false, (Sp.dNew 12).snd.snd.fst, false, (Sp.dNew 12).snd.snd.snd.snd)).fst.snd.snd.fst, false,
 (Sp.formatS (false, false, (Sp.dNew 12).snd.snd.fst, false, (Sp.dNew 12).snd.snd.snd.snd)).fst.snd.snd.snd.snd))
 (Sp.joR (Sp.formatS (false, false, (Sp.dNew 12).snd.snd.fst, false, (Sp.dNew 12).snd.snd.snd.snd)).fst)
 (Sp.dSet (more.snd.fst, false, [])
 (Sp.jcD first (Sp.joL (Sp.formatS (false, false, (Sp.dNew 12).snd.snd.fst, false, (Sp.dNew 12).snd.snd.snd.snd)).fst)
 (Sp.joR (Sp.formatS (false, false, (Sp.dNew 12).snd.snd.fst, false, (Sp.dNew 12).snd.snd.snd.snd)).fst)
 (false, false, (Sp.formatS (false, false, (Sp.dNew 12).snd.snd.fst, false, (Sp.dNew 12).snd.snd.snd.snd)).fst.snd.snd.fst, false,
 (Sp.formatS (false, false, (Sp.dNew 12).snd.snd.fst, false, (Sp.dNew 12).snd.snd.snd.snd)).fst.snd.snd.snd.snd))).fst)
 (Sp.joR (Sp.formatS (false, false, (Sp.dNew 12).snd.snd.fst, false, (Sp.dNew 12).snd.snd.snd.snd)).fst)
 (Sp.dSet (1099511627776, false, [])
 (Sp.jcD more.snd.snd.fst
 (Sp.jcL first (Sp.joL (Sp.formatS (false, false, (Sp.dNew 12).snd.snd.fst, false, (Sp.dNew 12).snd.snd.snd.snd)).fst)
 (Sp.joR (Sp.formatS (false, false, (Sp.dNew 12).snd.snd.fst, false, (Sp.dNew 12).snd.snd.snd.snd)).fst)
 (false, false, (Sp.formatS (false, false, (Sp.dNew 12).snd.snd.fst, false, (Sp.dNew 12).snd.snd.snd.snd)).fst.snd.snd.fst, false,
 (Sp.formatS (false, false, (Sp.dNew 12).snd.snd.fst, false, (Sp.dNew 12).snd.snd.snd.snd)).fst.snd.snd.snd.snd))
 (Sp.joR (Sp.formatS (false, false, (Sp.dNew 12).snd.snd.fst, false, (Sp.dNew 12).snd.snd.snd.snd)).fst)
 (Sp.dSet (more.snd.fst, false, [])
 (Sp.jcD first (Sp.joL (Sp.formatS (false, false, (Sp.dNew 12).snd.snd.fst, false, (Sp.dNew 12).snd.snd.snd.snd)).fst)
 (Sp.joR (Sp.formatS (false, false, (Sp.dNew 12).snd.snd.fst, false, (Sp.dNew 12).snd.snd.snd.snd)).fst)
 (false, false, (Sp.formatS (false, false, (Sp.dNew 12).snd.snd.fst, false, (Sp.dNew 12).snd.snd.snd.snd)).fst.snd.snd.fst, false,
 (Sp.formatS (false, false, (Sp.dNew 12).snd.snd.fst, false, (Sp.dNew 12).snd.snd.snd.snd)).fst.snd.snd.snd.snd))).fst)).fst =
 0) then
 Sp.putL.pre
 (Sp.lRecs
 (Sp.jcL more.snd.snd.fst
 (Sp.jcL first (Sp.joL (Sp.formatS (false, false, (Sp.dNew 12).snd.snd.fst, false, (Sp.dNew 12).snd.snd.snd.snd)).fst)
 (Sp.joR (Sp.formatS (false, false, (Sp.dNew 12).snd.snd.fst, false, (Sp.dNew 12).snd.snd.snd.snd)).fst)
 (false, false, (Sp.formatS (false, false, (Sp.dNew 12).snd.snd.fst, false, (Sp.dNew 12).snd.snd.snd.snd)).fst.snd.snd.fst, false,
 (Sp.formatS (false, false, (Sp.dNew 12).snd.snd.fst, false, (Sp.dNew 12).snd.snd.snd.snd)).fst.snd.snd.snd.snd))
 (Sp.joR (Sp.formatS (false, false, (Sp.dNew 12).snd.snd.fst, false, (Sp.dNew 12).snd.snd.snd.snd)).fst)
 (Sp.dSet (more.snd.fst, false, [])
 (Sp.jcD first (Sp.joL (Sp.formatS (false, false, (Sp.dNew 12).snd.snd.fst, false, (Sp.dNew 12).snd.snd.snd.snd)).fst)
 (Sp.joR (Sp.formatS (false, false, (Sp.dNew 12).snd.snd.fst, false, (Sp.dNew 12).snd.snd.snd.snd)).fst)
 (false, false, (Sp.formatS (false, false, (Sp.dNew 12).snd.snd.fst, false, (Sp.dNew 12).snd.snd.snd.snd)).fst.snd.snd.fst, false,
 (Sp.formatS (false, false, (Sp.dNew 12).snd.snd.fst, false, (Sp.dNew 12).snd.snd.snd.snd)).fst.snd.snd.snd.snd))).fst))
 later ∧
 Sp.lOk
 (Sp.jcL later
 (Sp.jcL more.snd.snd.fst
 (Sp.jcL first (Sp.joL (Sp.formatS (false, false, (Sp.dNew 12).snd.snd.fst, false, (Sp.dNew 12).snd.snd.snd.snd)).fst)
 (Sp.joR (Sp.formatS (false, false, (Sp.dNew 12).snd.snd.fst, false, (Sp.dNew 12).snd.snd.snd.snd)).fst)
 (false, false, (Sp.formatS (false, false, (Sp.dNew 12).snd.snd.fst, false, (Sp.dNew 12).snd.snd.snd.snd)).fst.snd.snd.fst, false,
 (Sp.formatS (false, false, (Sp.dNew 12).snd.snd.fst, false, (Sp.dNew 12).snd.snd.snd.snd)).fst.snd.snd.snd.snd))
 (Sp.joR (Sp.formatS (false, false, (Sp.dNew 12).snd.snd.fst, false, (Sp.dNew 12).snd.snd.snd.snd)).fst)
 (Sp.dSet (more.snd.fst, false, [])
 (Sp.jcD first (Sp.joL (Sp.formatS (false, false, (Sp.dNew 12).snd.snd.fst, false, (Sp.dNew 12).snd.snd.snd.snd)).fst)
 (Sp.joR (Sp.formatS (false, false, (Sp.dNew 12).snd.snd.fst, false, (Sp.dNew 12).snd.snd.snd.snd)).fst)
 (false, false, (Sp.formatS (false, false, (Sp.dNew 12).snd.snd.fst, false, (Sp.dNew 12).snd.snd.snd.snd)).fst.snd.snd.fst, false,
 (Sp.formatS (false, false, (Sp.dNew 12).snd.snd.fst, false, (Sp.dNew 12).snd.snd.snd.snd)).fst.snd.snd.snd.snd))).fst)
 (Sp.joR (Sp.formatS (false, false, (Sp.dNew 12).snd.snd.fst, false, (Sp.dNew 12).snd.snd.snd.snd)).fst)
 (Sp.dSet (1099511627776, false, [])
 (Sp.jcD more.snd.snd.fst
 (Sp.jcL first (Sp.joL (Sp.formatS (false, false, (Sp.dNew 12).snd.snd.fst, false, (Sp.dNew 12).snd.snd.snd.snd)).fst)
 (Sp.joR (Sp.formatS (false, false, (Sp.dNew 12).snd.snd.fst, false, (Sp.dNew 12).snd.snd.snd.snd)).fst)
 (false, false, (Sp.formatS (false, false, (Sp.dNew 12).snd.snd.fst, false, (Sp.dNew 12).snd.snd.snd.snd)).fst.snd.snd.fst, false,
 (Sp.formatS (false, false, (Sp.dNew 12).snd.snd.fst, false, (Sp.dNew 12).snd.snd.snd.snd)).fst.snd.snd.snd.snd))
 (Sp.joR (Sp.formatS (false, false, (Sp.dNew 12).snd.snd.fst, false, (Sp.dNew 12).snd.snd.snd.snd)).fst)
 (Sp.dSet (more.snd.fst, false, [])
 (Sp.jcD first (Sp.joL (Sp.formatS (false, false, (Sp.dNew 12).snd.snd.fst, false, (Sp.dNew 12).snd.snd.snd.snd)).fst)
 (Sp.joR (Sp.formatS (false, false, (Sp.dNew 12).snd.snd.fst, false, (Sp.dNew 12).snd.snd.snd.snd)).fst)
 (false, false, (Sp.formatS (false, false, (Sp.dNew 12).snd.snd.fst, false, (Sp.dNew 12).snd.snd.snd.snd)).fst.snd.snd.fst, false,
 (Sp.formatS (false, false, (Sp.dNew 12).snd.snd.fst, false, (Sp.dNew 12).snd.snd.snd.snd)).fst.snd.snd.snd.snd))).fst)).fst) ∧
 Sp.eqL.pre
 (Sp.lRecs
 (Sp.jcL later
 (Sp.jcL more.snd.snd.fst
 (Sp.jcL first (Sp.joL (Sp.formatS (false, false, (Sp.dNew 12).snd.snd.fst, false, (Sp.dNew 12).snd.snd.snd.snd)).fst)
 (Sp.joR (Sp.formatS (false, false, (Sp.dNew 12).snd.snd.fst, false, (Sp.dNew 12).snd.snd.snd.snd)).fst)
 (false, false, (Sp.formatS (false, false, (Sp.dNew 12).snd.snd.fst, false, (Sp.dNew 12).snd.snd.snd.snd)).fst.snd.snd.fst, false,
 (Sp.formatS (false, false, (Sp.dNew 12).snd.snd.fst, false, (Sp.dNew 12).snd.snd.snd.snd)).fst.snd.snd.snd.snd))
 (Sp.joR (Sp.formatS (false, false, (Sp.dNew 12).snd.snd.fst, false, (Sp.dNew 12).snd.snd.snd.snd)).fst)
 (Sp.dSet (more.snd.fst, false, [])
 (Sp.jcD first (Sp.joL (Sp.formatS (false, false, (Sp.dNew 12).snd.snd.fst, false, (Sp.dNew 12).snd.snd.snd.snd)).fst)
 (Sp.joR (Sp.formatS (false, false, (Sp.dNew 12).snd.snd.fst, false, (Sp.dNew 12).snd.snd.snd.snd)).fst)
 (false, false, (Sp.formatS (false, false, (Sp.dNew 12).snd.snd.fst, false, (Sp.dNew 12).snd.snd.snd.snd)).fst.snd.snd.fst, false,
 (Sp.formatS (false, false, (Sp.dNew 12).snd.snd.fst, false, (Sp.dNew 12).snd.snd.snd.snd)).fst.snd.snd.snd.snd))).fst)
 (Sp.joR (Sp.formatS (false, false, (Sp.dNew 12).snd.snd.fst, false, (Sp.dNew 12).snd.snd.snd.snd)).fst)
 (Sp.dSet (1099511627776, false, [])
 (Sp.jcD more.snd.snd.fst
 (Sp.jcL first (Sp.joL (Sp.formatS (false, false, (Sp.dNew 12).snd.snd.fst, false, (Sp.dNew 12).snd.snd.snd.snd)).fst)
 (Sp.joR (Sp.formatS (false, false, (Sp.dNew 12).snd.snd.fst, false, (Sp.dNew 12).snd.snd.snd.snd)).fst)
 (false, false, (Sp.formatS (false, false, (Sp.dNew 12).snd.snd.fst, false, (Sp.dNew 12).snd.snd.snd.snd)).fst.snd.snd.fst, false,
 (Sp.formatS (false, false, (Sp.dNew 12).snd.snd.fst, false, (Sp.dNew 12).snd.snd.snd.snd)).fst.snd.snd.snd.snd))
 (Sp.joR (Sp.formatS (false, false, (Sp.dNew 12).snd.snd.fst, false, (Sp.dNew 12).snd.snd.snd.snd)).fst)
 (Sp.dSet (more.snd.fst, false, [])
 (Sp.jcD first (Sp.joL (Sp.formatS (false, false, (Sp.dNew 12).snd.snd.fst, false, (Sp.dNew 12).snd.snd.snd.snd)).fst)
 (Sp.joR (Sp.formatS (false, false, (Sp.dNew 12).snd.snd.fst, false, (Sp.dNew 12).snd.snd.snd.snd)).fst)
 (false, false, (Sp.formatS (false, false, (Sp.dNew 12).snd.snd.fst, false, (Sp.dNew 12).snd.snd.snd.snd)).fst.snd.snd.fst, false,
 (Sp.formatS (false, false, (Sp.dNew 12).snd.snd.fst, false, (Sp.dNew 12).snd.snd.snd.snd)).fst.snd.snd.snd.snd))).fst)).fst))
 (Sp.putL
 (Sp.lRecs
 (Sp.jcL more.snd.snd.fst
 (Sp.jcL first (Sp.joL (Sp.formatS (false, false, (Sp.dNew 12).snd.snd.fst, false, (Sp.dNew 12).snd.snd.snd.snd)).fst)
 (Sp.joR (Sp.formatS (false, false, (Sp.dNew 12).snd.snd.fst, false, (Sp.dNew 12).snd.snd.snd.snd)).fst)
 (false, false, (Sp.formatS (false, false, (Sp.dNew 12).snd.snd.fst, false, (Sp.dNew 12).snd.snd.snd.snd)).fst.snd.snd.fst, false,
 (Sp.formatS (false, false, (Sp.dNew 12).snd.snd.fst, false, (Sp.dNew 12).snd.snd.snd.snd)).fst.snd.snd.snd.snd))
 (Sp.joR (Sp.formatS (false, false, (Sp.dNew 12).snd.snd.fst, false, (Sp.dNew 12).snd.snd.snd.snd)).fst)
 (Sp.dSet (more.snd.fst, false, [])
 (Sp.jcD first (Sp.joL (Sp.formatS (false, false, (Sp.dNew 12).snd.snd.fst, false, (Sp.dNew 12).snd.snd.snd.snd)).fst)
 (Sp.joR (Sp.formatS (false, false, (Sp.dNew 12).snd.snd.fst, false, (Sp.dNew 12).snd.snd.snd.snd)).fst)
 (false, false, (Sp.formatS (false, false, (Sp.dNew 12).snd.snd.fst, false, (Sp.dNew 12).snd.snd.snd.snd)).fst.snd.snd.fst, false,
 (Sp.formatS (false, false, (Sp.dNew 12).snd.snd.fst, false, (Sp.dNew 12).snd.snd.snd.snd)).fst.snd.snd.snd.snd))).fst))
 later) ∧
 bif
 !Sp.eqL
 (Sp.lRecs
 (Sp.jcL later
 (Sp.jcL more.snd.snd.fst
 (Sp.jcL first (Sp.joL (Sp.formatS (false, false, (Sp.dNew 12).snd.snd.fst, false, (Sp.dNew 12).snd.snd.snd.snd)).fst)
 (Sp.joR (Sp.formatS (false, false, (Sp.dNew 12).snd.snd.fst, false, (Sp.dNew 12).snd.snd.snd.snd)).fst)
 (false, false, (Sp.formatS (false, false, (Sp.dNew 12).snd.snd.fst, false, (Sp.dNew 12).snd.snd.snd.snd)).fst.snd.snd.fst, false,
 (Sp.formatS (false, false, (Sp.dNew 12).snd.snd.fst, false, (Sp.dNew 12).snd.snd.snd.snd)).fst.snd.snd.snd.snd))
 (Sp.joR (Sp.formatS (false, false, (Sp.dNew 12).snd.snd.fst, false, (Sp.dNew 12).snd.snd.snd.snd)).fst)
 (Sp.dSet (more.snd.fst, false, [])
 (Sp.jcD first (Sp.joL (Sp.formatS (false, false, (Sp.dNew 12).snd.snd.fst, false, (Sp.dNew 12).snd.snd.snd.snd)).fst)
 (Sp.joR (Sp.formatS (false, false, (Sp.dNew 12).snd.snd.fst, false, (Sp.dNew 12).snd.snd.snd.snd)).fst)
 (false, false, (Sp.formatS (false, false, (Sp.dNew 12).snd.snd.fst, false, (Sp.dNew 12).snd.snd.snd.snd)).fst.snd.snd.fst, false,
 (Sp.formatS (false, false, (Sp.dNew 12).snd.snd.fst, false, (Sp.dNew 12).snd.snd.snd.snd)).fst.snd.snd.snd.snd))).fst)
 (Sp.joR (Sp.formatS (false, false, (Sp.dNew 12).snd.snd.fst, false, (Sp.dNew 12).snd.snd.snd.snd)).fst)
 (Sp.dSet (1099511627776, false, [])
 (Sp.jcD more.snd.snd.fst
 (Sp.jcL first (Sp.joL (Sp.formatS (false, false, (Sp.dNew 12).snd.snd.fst, false, (Sp.dNew 12).snd.snd.snd.snd)).fst)
 (Sp.joR (Sp.formatS (false, false, (Sp.dNew 12).snd.snd.fst, false, (Sp.dNew 12).snd.snd.snd.snd)).fst)
 (false, false, (Sp.formatS (false, false, (Sp.dNew 12).snd.snd.fst, false, (Sp.dNew 12).snd.snd.snd.snd)).fst.snd.snd.fst, false,
 (Sp.formatS (false, false, (Sp.dNew 12).snd.snd.fst, false, (Sp.dNew 12).snd.snd.snd.snd)).fst.snd.snd.snd.snd))
 (Sp.joR (Sp.formatS (false, false, (Sp.dNew 12).snd.snd.fst, false, (Sp.dNew 12).snd.snd.snd.snd)).fst)
 (Sp.dSet (more.snd.fst, false, [])
 (Sp.jcD first (Sp.joL (Sp.formatS (false, false, (Sp.dNew 12).snd.snd.fst, false, (Sp.dNew 12).snd.snd.snd.snd)).fst)
 (Sp.joR (Sp.formatS (false, false, (Sp.dNew 12).snd.snd.fst, false, (Sp.dNew 12).snd.snd.snd.snd)).fst)
 (false, false, (Sp.formatS (false, false, (Sp.dNew 12).snd.snd.fst, false, (Sp.dNew 12).snd.snd.snd.snd)).fst.snd.snd.fst, false,
 (Sp.formatS (false, false, (Sp.dNew 12).snd.snd.fst, false, (Sp.dNew 12).snd.snd.snd.snd)).fst.snd.snd.snd.snd))).fst)).fst))
 (Sp.putL
 (Sp.lRecs
 (Sp.jcL more.snd.snd.fst
 (Sp.jcL first (Sp.joL (Sp.formatS (false, false, (Sp.dNew 12).snd.snd.fst, false, (Sp.dNew 12).snd.snd.snd.snd)).fst)
 (Sp.joR (Sp.formatS (false, false, (Sp.dNew 12).snd.snd.fst, false, (Sp.dNew 12).snd.snd.snd.snd)).fst)
 (false, false, (Sp.formatS (false, false, (Sp.dNew 12).snd.snd.fst, false, (Sp.dNew 12).snd.snd.snd.snd)).fst.snd.snd.fst, false,
 (Sp.formatS (false, false, (Sp.dNew 12).snd.snd.fst, false, (Sp.dNew 12).snd.snd.snd.snd)).fst.snd.snd.snd.snd))
 (Sp.joR (Sp.formatS (false, false, (Sp.dNew 12).snd.snd.fst, false, (Sp.dNew 12).snd.snd.snd.snd)).fst)
 (Sp.dSet (more.snd.fst, false, [])
 (Sp.jcD first (Sp.joL (Sp.formatS (false, false, (Sp.dNew 12).snd.snd.fst, false, (Sp.dNew 12).snd.snd.snd.snd)).fst)
 (Sp.joR (Sp.formatS (false, false, (Sp.dNew 12).snd.snd.fst, false, (Sp.dNew 12).snd.snd.snd.snd)).fst)
 (false, false, (Sp.formatS (false, false, (Sp.dNew 12).snd.snd.fst, false, (Sp.dNew 12).snd.snd.snd.snd)).fst.snd.snd.fst, false,
 (Sp.formatS (false, false, (Sp.dNew 12).snd.snd.fst, false, (Sp.dNew 12).snd.snd.snd.snd)).fst.snd.snd.snd.snd))).fst))
 later) then
 R false
 else
 Sp.dFall.pre more.snd.snd.snd.snd
 (Sp.jcD later
 (Sp.jcL more.snd.snd.fst
 (Sp.jcL first (Sp.joL (Sp.formatS (false, false, (Sp.dNew 12).snd.snd.fst, false, (Sp.dNew 12).snd.snd.snd.snd)).fst)
 (Sp.joR (Sp.formatS (false, false, (Sp.dNew 12).snd.snd.fst, false, (Sp.dNew 12).snd.snd.snd.snd)).fst)
 (false, false, (Sp.formatS (false, false, (Sp.dNew 12).snd.snd.fst, false, (Sp.dNew 12).snd.snd.snd.snd)).fst.snd.snd.fst, false,
 (Sp.formatS (false, false, (Sp.dNew 12).snd.snd.fst, false, (Sp.dNew 12).snd.snd.snd.snd)).fst.snd.snd.snd.snd))
 (Sp.joR (Sp.formatS (false, false, (Sp.dNew 12).snd.snd.fst, false, (Sp.dNew 12).snd.snd.snd.snd)).fst)
 (Sp.dSet (more.snd.fst, false, [])
 (Sp.jcD first (Sp.joL (Sp.formatS (false, false, (Sp.dNew 12).snd.snd.fst, false, (Sp.dNew 12).snd.snd.snd.snd)).fst)
 (Sp.joR (Sp.formatS (false, false, (Sp.dNew 12).snd.snd.fst, false, (Sp.dNew 12).snd.snd.snd.snd)).fst)
 (false, false, (Sp.formatS (false, false, (Sp.dNew 12).snd.snd.fst, false, (Sp.dNew 12).snd.snd.snd.snd)).fst.snd.snd.fst, false,
 (Sp.formatS (false, false, (Sp.dNew 12).snd.snd.fst, false, (Sp.dNew 12).snd.snd.snd.snd)).fst.snd.snd.snd.snd))).fst)
 (Sp.joR (Sp.formatS (false, false, (Sp.dNew 12).snd.snd.fst, false, (Sp.dNew 12).snd.snd.snd.snd)).fst)
 (Sp.dSet (1099511627776, false, [])
 (Sp.jcD more.snd.snd.fst
 (Sp.jcL first (Sp.joL (Sp.formatS (false, false, (Sp.dNew 12).snd.snd.fst, false, (Sp.dNew 12).snd.snd.snd.snd)).fst)
 (Sp.joR (Sp.formatS (false, false, (Sp.dNew 12).snd.snd.fst, false, (Sp.dNew 12).snd.snd.snd.snd)).fst)
 (false, false, (Sp.formatS (false, false, (Sp.dNew 12).snd.snd.fst, false, (Sp.dNew 12).snd.snd.snd.snd)).fst.snd.snd.fst, false,
 (Sp.formatS (false, false, (Sp.dNew 12).snd.snd.fst, false, (Sp.dNew 12).snd.snd.snd.snd)).fst.snd.snd.snd.snd))
 (Sp.joR (Sp.formatS (false, false, (Sp.dNew 12).snd.snd.fst, false, (Sp.dNew 12).snd.snd.snd.snd)).fst)
 (Sp.dSet (more.snd.fst, false, [])
 (Sp.jcD first (Sp.joL (Sp.formatS (false, false, (Sp.dNew 12).snd.snd.fst, false, (Sp.dNew 12).snd.snd.snd.snd)).fst)
 (Sp.joR (Sp.formatS (false, false, (Sp.dNew 12).snd.snd.fst, false, (Sp.dNew 12).snd.snd.snd.snd)).fst)
 (false, false, (Sp.formatS (false, false, (Sp.dNew 12).snd.snd.fst, false, (Sp.dNew 12).snd.snd.snd.snd)).fst.snd.snd.fst, false,
 (Sp.formatS (false, false, (Sp.dNew 12).snd.snd.fst, false, (Sp.dNew 12).snd.snd.snd.snd)).fst.snd.snd.snd.snd))).fst)).fst) ∧
 bif
 !decide
 ((Sp.dCrash more.snd.snd.snd.snd
 (Sp.jcD later
 (Sp.jcL more.snd.snd.fst
 (Sp.jcL first (Sp.joL (Sp.formatS (false, false, (Sp.dNew 12).snd.snd.fst, false, (Sp.dNew 12).snd.snd.snd.snd)).fst)
 (Sp.joR (Sp.formatS (false, false, (Sp.dNew 12).snd.snd.fst, false, (Sp.dNew 12).snd.snd.snd.snd)).fst)
 (false, false, (Sp.formatS (false, false, (Sp.dNew 12).snd.snd.fst, false, (Sp.dNew 12).snd.snd.snd.snd)).fst.snd.snd.fst, false,
 (Sp.formatS (false, false, (Sp.dNew 12).snd.snd.fst, false, (Sp.dNew 12).snd.snd.snd.snd)).fst.snd.snd.snd.snd))
 (Sp.joR (Sp.formatS (false, false, (Sp.dNew 12).snd.snd.fst, false, (Sp.dNew 12).snd.snd.snd.snd)).fst)
 (Sp.dSet (more.snd.fst, false, [])
 (Sp.jcD first (Sp.joL (Sp.formatS (false, false, (Sp.dNew 12).snd.snd.fst, false, (Sp.dNew 12).snd.snd.snd.snd)).fst)
 (Sp.joR (Sp.formatS (false, false, (Sp.dNew 12).snd.snd.fst, false, (Sp.dNew 12).snd.snd.snd.snd)).fst)
 (false, false, (Sp.formatS (false, false, (Sp.dNew 12).snd.snd.fst, false, (Sp.dNew 12).snd.snd.snd.snd)).fst.snd.snd.fst, false,
 (Sp.formatS (false, false, (Sp.dNew 12).snd.snd.fst, false, (Sp.dNew 12).snd.snd.snd.snd)).fst.snd.snd.snd.snd))).fst)
 (Sp.joR (Sp.formatS (false, false, (Sp.dNew 12).snd.snd.fst, false, (Sp.dNew 12).snd.snd.snd.snd)).fst)
 (Sp.dSet (1099511627776, false, [])
 (Sp.jcD more.snd.snd.fst
 (Sp.jcL first (Sp.joL (Sp.formatS (false, false, (Sp.dNew 12).snd.snd.fst, false, (Sp.dNew 12).snd.snd.snd.snd)).fst)
 (Sp.joR (Sp.formatS (false, false, (Sp.dNew 12).snd.snd.fst, false, (Sp.dNew 12).snd.snd.snd.snd)).fst)
 (false, false, (Sp.formatS (false, false, (Sp.dNew 12).snd.snd.fst, false, (Sp.dNew 12).snd.snd.snd.snd)).fst.snd.snd.fst, false,
 (Sp.formatS (false, false, (Sp.dNew 12).snd.snd.fst, false, (Sp.dNew 12).snd.snd.snd.snd)).fst.snd.snd.snd.snd))
 (Sp.joR (Sp.formatS (false, false, (Sp.dNew 12).snd.snd.fst, false, (Sp.dNew 12).snd.snd.snd.snd)).fst)
 (Sp.dSet (more.snd.fst, false, [])
 (Sp.jcD first (Sp.joL (Sp.formatS (false, false, (Sp.dNew 12).snd.snd.fst, false, (Sp.dNew 12).snd.snd.snd.snd)).fst)
 (Sp.joR (Sp.formatS (false, false, (Sp.dNew 12).snd.snd.fst, false, (Sp.dNew 12).snd.snd.snd.snd)).fst)
 (false, false, (Sp.formatS (false, false, (Sp.dNew 12).snd.snd.fst, false, (Sp.dNew 12).snd.snd.snd.snd)).fst.snd.snd.fst,
 false,
 (Sp.formatS
 (false, false, (Sp.dNew 12).snd.snd.fst, false,
 (Sp.dNew 12).snd.snd.snd.snd)).fst.snd.snd.snd.snd))).fst)).fst)).snd =
 0) then
 R false
 else
 Sp.dPre
 (Sp.dCrash more.snd.snd.snd.snd
 (Sp.jcD later
 (Sp.jcL more.snd.snd.fst
 (Sp.jcL first (Sp.joL (Sp.formatS (false, false, (Sp.dNew 12).snd.snd.fst, false, (Sp.dNew 12).snd.snd.snd.snd)).fst)
 (Sp.joR (Sp.formatS (false, false, (Sp.dNew 12).snd.snd.fst, false, (Sp.dNew 12).snd.snd.snd.snd)).fst)
 (false, false, (Sp.formatS (false, false, (Sp.dNew 12).snd.snd.fst, false, (Sp.dNew 12).snd.snd.snd.snd)).fst.snd.snd.fst, false,
 (Sp.formatS (false, false, (Sp.dNew 12).snd.snd.fst, false, (Sp.dNew 12).snd.snd.snd.snd)).fst.snd.snd.snd.snd))
 (Sp.joR (Sp.formatS (false, false, (Sp.dNew 12).snd.snd.fst, false, (Sp.dNew 12).snd.snd.snd.snd)).fst)
 (Sp.dSet (more.snd.fst, false, [])
 (Sp.jcD first (Sp.joL (Sp.formatS (false, false, (Sp.dNew 12).snd.snd.fst, false, (Sp.dNew 12).snd.snd.snd.snd)).fst)
 (Sp.joR (Sp.formatS (false, false, (Sp.dNew 12).snd.snd.fst, false, (Sp.dNew 12).snd.snd.snd.snd)).fst)
 (false, false, (Sp.formatS (false, false, (Sp.dNew 12).snd.snd.fst, false, (Sp.dNew 12).snd.snd.snd.snd)).fst.snd.snd.fst, false,
 (Sp.formatS (false, false, (Sp.dNew 12).snd.snd.fst, false, (Sp.dNew 12).snd.snd.snd.snd)).fst.snd.snd.snd.snd))).fst)
 (Sp.joR (Sp.formatS (false, false, (Sp.dNew 12).snd.snd.fst, false, (Sp.dNew 12).snd.snd.snd.snd)).fst)
 (Sp.dSet (1099511627776, false, [])
 (Sp.jcD more.snd.snd.fst
 (Sp.jcL first (Sp.joL (Sp.formatS (false, false, (Sp.dNew 12).snd.snd.fst, false, (Sp.dNew 12).snd.snd.snd.snd)).fst)
 (Sp.joR (Sp.formatS (false, false, (Sp.dNew 12).snd.snd.fst, false, (Sp.dNew 12).snd.snd.snd.snd)).fst)
 (false, false, (Sp.formatS (false, false, (Sp.dNew 12).snd.snd.fst, false, (Sp.dNew 12).snd.snd.snd.snd)).fst.snd.snd.fst, false,
 (Sp.formatS (false, false, (Sp.dNew 12).snd.snd.fst, false, (Sp.dNew 12).snd.snd.snd.snd)).fst.snd.snd.snd.snd))
 (Sp.joR (Sp.formatS (false, false, (Sp.dNew 12).snd.snd.fst, false, (Sp.dNew 12).snd.snd.snd.snd)).fst)
 (Sp.dSet (more.snd.fst, false, [])
 (Sp.jcD first (Sp.joL (Sp.formatS (false, false, (Sp.dNew 12).snd.snd.fst, false, (Sp.dNew 12).snd.snd.snd.snd)).fst)
 (Sp.joR (Sp.formatS (false, false, (Sp.dNew 12).snd.snd.fst, false, (Sp.dNew 12).snd.snd.snd.snd)).fst)
 (false, false, (Sp.formatS (false, false, (Sp.dNew 12).snd.snd.fst, false, (Sp.dNew 12).snd.snd.snd.snd)).fst.snd.snd.fst, false,
 (Sp.formatS
 (false, false, (Sp.dNew 12).snd.snd.fst, false,
 (Sp.dNew 12).snd.snd.snd.snd)).fst.snd.snd.snd.snd))).fst)).fst)).fst ∧
 bif
 !decide
 ((Sp.dStart
 (Sp.dCrash more.snd.snd.snd.snd
 (Sp.jcD later
 (Sp.jcL more.snd.snd.fst
 (Sp.jcL first (Sp.joL (Sp.formatS (false, false, (Sp.dNew 12).snd.snd.fst, false, (Sp.dNew 12).snd.snd.snd.snd)).fst)
 (Sp.joR (Sp.formatS (false, false, (Sp.dNew 12).snd.snd.fst, false, (Sp.dNew 12).snd.snd.snd.snd)).fst)
 (false, false, (Sp.formatS (false, false, (Sp.dNew 12).snd.snd.fst, false, (Sp.dNew 12).snd.snd.snd.snd)).fst.snd.snd.fst,
 false, (Sp.formatS (false, false, (Sp.dNew 12).snd.snd.fst, false, (Sp.dNew 12).snd.snd.snd.snd)).fst.snd.snd.snd.snd))
 (Sp.joR (Sp.formatS (false, false, (Sp.dNew 12).snd.snd.fst, false, (Sp.dNew 12).snd.snd.snd.snd)).fst)
 (Sp.dSet (more.snd.fst, false, [])
 (Sp.jcD first (Sp.joL (Sp.formatS (false, false, (Sp.dNew 12).snd.snd.fst, false, (Sp.dNew 12).snd.snd.snd.snd)).fst)
 (Sp.joR (Sp.formatS (false, false, (Sp.dNew 12).snd.snd.fst, false, (Sp.dNew 12).snd.snd.snd.snd)).fst)
 (false, false, (Sp.formatS (false, false, (Sp.dNew 12).snd.snd.fst, false, (Sp.dNew 12).snd.snd.snd.snd)).fst.snd.snd.fst,
 false,
 (Sp.formatS (false, false, (Sp.dNew 12).snd.snd.fst, false, (Sp.dNew 12).snd.snd.snd.snd)).fst.snd.snd.snd.snd))).fst)
 (Sp.joR (Sp.formatS (false, false, (Sp.dNew 12).snd.snd.fst, false, (Sp.dNew 12).snd.snd.snd.snd)).fst)
 (Sp.dSet (1099511627776, false, [])
 (Sp.jcD more.snd.snd.fst
 (Sp.jcL first (Sp.joL (Sp.formatS (false, false, (Sp.dNew 12).snd.snd.fst, false, (Sp.dNew 12).snd.snd.snd.snd)).fst)
 (Sp.joR (Sp.formatS (false, false, (Sp.dNew 12).snd.snd.fst, false, (Sp.dNew 12).snd.snd.snd.snd)).fst)
 (false, false, (Sp.formatS (false, false, (Sp.dNew 12).snd.snd.fst, false, (Sp.dNew 12).snd.snd.snd.snd)).fst.snd.snd.fst,
 false, (Sp.formatS (false, false, (Sp.dNew 12).snd.snd.fst, false, (Sp.dNew 12).snd.snd.snd.snd)).fst.snd.snd.snd.snd))
 (Sp.joR (Sp.formatS (false, false, (Sp.dNew 12).snd.snd.fst, false, (Sp.dNew 12).snd.snd.snd.snd)).fst)
 (Sp.dSet (more.snd.fst, false, [])
 (Sp.jcD first (Sp.joL (Sp.formatS (false, false, (Sp.dNew 12).snd.snd.fst, false, (Sp.dNew 12).snd.snd.snd.snd)).fst)
 (Sp.joR (Sp.formatS (false, false, (Sp.dNew 12).snd.snd.fst, false, (Sp.dNew 12).snd.snd.snd.snd)).fst)
 (false, false,
 (Sp.formatS (false, false, (Sp.dNew 12).snd.snd.fst, false, (Sp.dNew 12).snd.snd.snd.snd)).fst.snd.snd.fst, false,
 (Sp.formatS
 (false, false, (Sp.dNew 12).snd.snd.fst, false,
 (Sp.dNew 12).snd.snd.snd.snd)).fst.snd.snd.snd.snd))).fst)).fst)).fst).snd =
 0) then
 R false
 else
 Sp.gPre
 (Sp.dStart
 (Sp.dCrash more.snd.snd.snd.snd
 (Sp.jcD later
 (Sp.jcL more.snd.snd.fst
 (Sp.jcL first (Sp.joL (Sp.formatS (false, false, (Sp.dNew 12).snd.snd.fst, false, (Sp.dNew 12).snd.snd.snd.snd)).fst)
 (Sp.joR (Sp.formatS (false, false, (Sp.dNew 12).snd.snd.fst, false, (Sp.dNew 12).snd.snd.snd.snd)).fst)
 (false, false, (Sp.formatS (false, false, (Sp.dNew 12).snd.snd.fst, false, (Sp.dNew 12).snd.snd.snd.snd)).fst.snd.snd.fst, false,
 (Sp.formatS (false, false, (Sp.dNew 12).snd.snd.fst, false, (Sp.dNew 12).snd.snd.snd.snd)).fst.snd.snd.snd.snd))
 (Sp.joR (Sp.formatS (false, false, (Sp.dNew 12).snd.snd.fst, false, (Sp.dNew 12).snd.snd.snd.snd)).fst)
 (Sp.dSet (more.snd.fst, false, [])
 (Sp.jcD first (Sp.joL (Sp.formatS (false, false, (Sp.dNew 12).snd.snd.fst, false, (Sp.dNew 12).snd.snd.snd.snd)).fst)
 (Sp.joR (Sp.formatS (false, false, (Sp.dNew 12).snd.snd.fst, false, (Sp.dNew 12).snd.snd.snd.snd)).fst)
 (false, false, (Sp.formatS (false, false, (Sp.dNew 12).snd.snd.fst, false, (Sp.dNew 12).snd.snd.snd.snd)).fst.snd.snd.fst,
 false,
 (Sp.formatS (false, false, (Sp.dNew 12).snd.snd.fst, false, (Sp.dNew 12).snd.snd.snd.snd)).fst.snd.snd.snd.snd))).fst)
 (Sp.joR (Sp.formatS (false, false, (Sp.dNew 12).snd.snd.fst, false, (Sp.dNew 12).snd.snd.snd.snd)).fst)
 (Sp.dSet (1099511627776, false, [])
 (Sp.jcD more.snd.snd.fst
 (Sp.jcL first (Sp.joL (Sp.formatS (false, false, (Sp.dNew 12).snd.snd.fst, false, (Sp.dNew 12).snd.snd.snd.snd)).fst)
 (Sp.joR (Sp.formatS (false, false, (Sp.dNew 12).snd.snd.fst, false, (Sp.dNew 12).snd.snd.snd.snd)).fst)
 (false, false, (Sp.formatS (false, false, (Sp.dNew 12).snd.snd.fst, false, (Sp.dNew 12).snd.snd.snd.snd)).fst.snd.snd.fst,
 false, (Sp.formatS (false, false, (Sp.dNew 12).snd.snd.fst, false, (Sp.dNew 12).snd.snd.snd.snd)).fst.snd.snd.snd.snd))
 (Sp.joR (Sp.formatS (false, false, (Sp.dNew 12).snd.snd.fst, false, (Sp.dNew 12).snd.snd.snd.snd)).fst)
 (Sp.dSet (more.snd.fst, false, [])
 (Sp.jcD first (Sp.joL (Sp.formatS (false, false, (Sp.dNew 12).snd.snd.fst, false, (Sp.dNew 12).snd.snd.snd.snd)).fst)
 (Sp.joR (Sp.formatS (false, false, (Sp.dNew 12).snd.snd.fst, false, (Sp.dNew 12).snd.snd.snd.snd)).fst)
 (false, false, (Sp.formatS (false, false, (Sp.dNew 12).snd.snd.fst, false, (Sp.dNew 12).snd.snd.snd.snd)).fst.snd.snd.fst,
 false,
 (Sp.formatS
 (false, false, (Sp.dNew 12).snd.snd.fst, false,
 (Sp.dNew 12).snd.snd.snd.snd)).fst.snd.snd.snd.snd))).fst)).fst)).fst).fst ∧
 bif
 Sp.joNil
 (Sp.dStart
 (Sp.dCrash more.snd.snd.snd.snd
 (Sp.jcD later
 (Sp.jcL more.snd.snd.fst
 (Sp.jcL first (Sp.joL (Sp.formatS (false, false, (Sp.dNew 12).snd.snd.fst, false, (Sp.dNew 12).snd.snd.snd.snd)).fst)
 (Sp.joR (Sp.formatS (false, false, (Sp.dNew 12).snd.snd.fst, false, (Sp.dNew 12).snd.snd.snd.snd)).fst)
 (false, false, (Sp.formatS (false, false, (Sp.dNew 12).snd.snd.fst, false, (Sp.dNew 12).snd.snd.snd.snd)).fst.snd.snd.fst,
 false, (Sp.formatS (false, false, (Sp.dNew 12).snd.snd.fst, false, (Sp.dNew 12).snd.snd.snd.snd)).fst.snd.snd.snd.snd))
 (Sp.joR (Sp.formatS (false, false, (Sp.dNew 12).snd.snd.fst, false, (Sp.dNew 12).snd.snd.snd.snd)).fst)
 (Sp.dSet (more.snd.fst, false, [])
 (Sp.jcD first (Sp.joL (Sp.formatS (false, false, (Sp.dNew 12).snd.snd.fst, false, (Sp.dNew 12).snd.snd.snd.snd)).fst)
 (Sp.joR (Sp.formatS (false, false, (Sp.dNew 12).snd.snd.fst, false, (Sp.dNew 12).snd.snd.snd.snd)).fst)
 (false, false, (Sp.formatS (false, false, (Sp.dNew 12).snd.snd.fst, false, (Sp.dNew 12).snd.snd.snd.snd)).fst.snd.snd.fst,
 false,
 (Sp.formatS (false, false, (Sp.dNew 12).snd.snd.fst, false, (Sp.dNew 12).snd.snd.snd.snd)).fst.snd.snd.snd.snd))).fst)
 (Sp.joR (Sp.formatS (false, false, (Sp.dNew 12).snd.snd.fst, false, (Sp.dNew 12).snd.snd.snd.snd)).fst)
 (Sp.dSet (1099511627776, false, [])
 (Sp.jcD more.snd.snd.fst
 (Sp.jcL first (Sp.joL (Sp.formatS (false, false, (Sp.dNew 12).snd.snd.fst, false, (Sp.dNew 12).snd.snd.snd.snd)).fst)
 (Sp.joR (Sp.formatS (false, false, (Sp.dNew 12).snd.snd.fst, false, (Sp.dNew 12).snd.snd.snd.snd)).fst)
 (false, false, (Sp.formatS (false, false, (Sp.dNew 12).snd.snd.fst, false, (Sp.dNew 12).snd.snd.snd.snd)).fst.snd.snd.fst,
 false, (Sp.formatS (false, false, (Sp.dNew 12).snd.snd.fst, false, (Sp.dNew 12).snd.snd.snd.snd)).fst.snd.snd.snd.snd))
 (Sp.joR (Sp.formatS (false, false, (Sp.dNew 12).snd.snd.fst, false, (Sp.dNew 12).snd.snd.snd.snd)).fst)
 (Sp.dSet (more.snd.fst, false, [])
 (Sp.jcD first (Sp.joL (Sp.formatS (false, false, (Sp.dNew 12).snd.snd.fst, false, (Sp.dNew 12).snd.snd.snd.snd)).fst)
 (Sp.joR (Sp.formatS (false, false, (Sp.dNew 12).snd.snd.fst, false, (Sp.dNew 12).snd.snd.snd.snd)).fst)
 (false, false,
 (Sp.formatS (false, false, (Sp.dNew 12).snd.snd.fst, false, (Sp.dNew 12).snd.snd.snd.snd)).fst.snd.snd.fst, false,
 (Sp.formatS
 (false, false, (Sp.dNew 12).snd.snd.fst, false,
 (Sp.dNew 12).snd.snd.snd.snd)).fst.snd.snd.snd.snd))).fst)).fst)).fst).fst then
 bif
 decide
 (Sp.joErr
 (Sp.dStart
 (Sp.dCrash more.snd.snd.snd.snd
 (Sp.jcD later
 (Sp.jcL more.snd.snd.fst
 (Sp.jcL first (Sp.joL (Sp.formatS (false, false, (Sp.dNew 12).snd.snd.fst, false, (Sp.dNew 12).snd.snd.snd.snd)).fst)
 (Sp.joR (Sp.formatS (false, false, (Sp.dNew 12).snd.snd.fst, false, (Sp.dNew 12).snd.snd.snd.snd)).fst)
 (false, false,
 (Sp.formatS (false, false, (Sp.dNew 12).snd.snd.fst, false, (Sp.dNew 12).snd.snd.snd.snd)).fst.snd.snd.fst, false,
 (Sp.formatS (false, false, (Sp.dNew 12).snd.snd.fst, false, (Sp.dNew 12).snd.snd.snd.snd)).fst.snd.snd.snd.snd))
 (Sp.joR (Sp.formatS (false, false, (Sp.dNew 12).snd.snd.fst, false, (Sp.dNew 12).snd.snd.snd.snd)).fst)
 (Sp.dSet (more.snd.fst, false, [])
 (Sp.jcD first (Sp.joL (Sp.formatS (false, false, (Sp.dNew 12).snd.snd.fst, false, (Sp.dNew 12).snd.snd.snd.snd)).fst)
 (Sp.joR (Sp.formatS (false, false, (Sp.dNew 12).snd.snd.fst, false, (Sp.dNew 12).snd.snd.snd.snd)).fst)
 (false, false,
 (Sp.formatS (false, false, (Sp.dNew 12).snd.snd.fst, false, (Sp.dNew 12).snd.snd.snd.snd)).fst.snd.snd.fst, false,
 (Sp.formatS
 (false, false, (Sp.dNew 12).snd.snd.fst, false,
 (Sp.dNew 12).snd.snd.snd.snd)).fst.snd.snd.snd.snd))).fst)
 (Sp.joR (Sp.formatS (false, false, (Sp.dNew 12).snd.snd.fst, false, (Sp.dNew 12).snd.snd.snd.snd)).fst)
 (Sp.dSet (1099511627776, false, [])
 (Sp.jcD more.snd.snd.fst
 (Sp.jcL first (Sp.joL (Sp.formatS (false, false, (Sp.dNew 12).snd.snd.fst, false, (Sp.dNew 12).snd.snd.snd.snd)).fst)
 (Sp.joR (Sp.formatS (false, false, (Sp.dNew 12).snd.snd.fst, false, (Sp.dNew 12).snd.snd.snd.snd)).fst)
 (false, false,
 (Sp.formatS (false, false, (Sp.dNew 12).snd.snd.fst, false, (Sp.dNew 12).snd.snd.snd.snd)).fst.snd.snd.fst, false,
 (Sp.formatS (false, false, (Sp.dNew 12).snd.snd.fst, false, (Sp.dNew 12).snd.snd.snd.snd)).fst.snd.snd.snd.snd))
 (Sp.joR (Sp.formatS (false, false, (Sp.dNew 12).snd.snd.fst, false, (Sp.dNew 12).snd.snd.snd.snd)).fst)
 (Sp.dSet (more.snd.fst, false, [])
 (Sp.jcD first
 (Sp.joL (Sp.formatS (false, false, (Sp.dNew 12).snd.snd.fst, false, (Sp.dNew 12).snd.snd.snd.snd)).fst)
 (Sp.joR (Sp.formatS (false, false, (Sp.dNew 12).snd.snd.fst, false, (Sp.dNew 12).snd.snd.snd.snd)).fst)
 (false, false,
 (Sp.formatS (false, false, (Sp.dNew 12).snd.snd.fst, false, (Sp.dNew 12).snd.snd.snd.snd)).fst.snd.snd.fst,
 false,
 (Sp.formatS
 (false, false, (Sp.dNew 12).snd.snd.fst, false,
 (Sp.dNew 12).snd.snd.snd.snd)).fst.snd.snd.snd.snd))).fst)).fst)).fst).fst =
 0) then
 R false
 else R false
 else
 Sp.lOk
 (Sp.joL
 (Sp.dStart
 (Sp.dCrash more.snd.snd.snd.snd
 (Sp.jcD later
 (Sp.jcL more.snd.snd.fst
 (Sp.jcL first (Sp.joL (Sp.formatS (false, false, (Sp.dNew 12).snd.snd.fst, false, (Sp.dNew 12).snd.snd.snd.snd)).fst)
 (Sp.joR (Sp.formatS (false, false, (Sp.dNew 12).snd.snd.fst, false, (Sp.dNew 12).snd.snd.snd.snd)).fst)
 (false, false, (Sp.formatS (false, false, (Sp.dNew 12).snd.snd.fst, false, (Sp.dNew 12).snd.snd.snd.snd)).fst.snd.snd.fst,
 false, (Sp.formatS (false, false, (Sp.dNew 12).snd.snd.fst, false, (Sp.dNew 12).snd.snd.snd.snd)).fst.snd.snd.snd.snd))
 (Sp.joR (Sp.formatS (false, false, (Sp.dNew 12).snd.snd.fst, false, (Sp.dNew 12).snd.snd.snd.snd)).fst)
 (Sp.dSet (more.snd.fst, false, [])
 (Sp.jcD first (Sp.joL (Sp.formatS (false, false, (Sp.dNew 12).snd.snd.fst, false, (Sp.dNew 12).snd.snd.snd.snd)).fst)
 (Sp.joR (Sp.formatS (false, false, (Sp.dNew 12).snd.snd.fst, false, (Sp.dNew 12).snd.snd.snd.snd)).fst)
 (false, false,
 (Sp.formatS (false, false, (Sp.dNew 12).snd.snd.fst, false, (Sp.dNew 12).snd.snd.snd.snd)).fst.snd.snd.fst, false,
 (Sp.formatS (false, false, (Sp.dNew 12).snd.snd.fst, false, (Sp.dNew 12).snd.snd.snd.snd)).fst.snd.snd.snd.snd))).fst)
 (Sp.joR (Sp.formatS (false, false, (Sp.dNew 12).snd.snd.fst, false, (Sp.dNew 12).snd.snd.snd.snd)).fst)
 (Sp.dSet (1099511627776, false, [])
 (Sp.jcD more.snd.snd.fst
 (Sp.jcL first (Sp.joL (Sp.formatS (false, false, (Sp.dNew 12).snd.snd.fst, false, (Sp.dNew 12).snd.snd.snd.snd)).fst)
 (Sp.joR (Sp.formatS (false, false, (Sp.dNew 12).snd.snd.fst, false, (Sp.dNew 12).snd.snd.snd.snd)).fst)
 (false, false,
 (Sp.formatS (false, false, (Sp.dNew 12).snd.snd.fst, false, (Sp.dNew 12).snd.snd.snd.snd)).fst.snd.snd.fst, false,
 (Sp.formatS (false, false, (Sp.dNew 12).snd.snd.fst, false, (Sp.dNew 12).snd.snd.snd.snd)).fst.snd.snd.snd.snd))
 (Sp.joR (Sp.formatS (false, false, (Sp.dNew 12).snd.snd.fst, false, (Sp.dNew 12).snd.snd.snd.snd)).fst)
 (Sp.dSet (more.snd.fst, false, [])
 (Sp.jcD first (Sp.joL (Sp.formatS (false, false, (Sp.dNew 12).snd.snd.fst, false, (Sp.dNew 12).snd.snd.snd.snd)).fst)
 (Sp.joR (Sp.formatS (false, false, (Sp.dNew 12).snd.snd.fst, false, (Sp.dNew 12).snd.snd.snd.snd)).fst)
 (false, false,
 (Sp.formatS (false, false, (Sp.dNew 12).snd.snd.fst, false, (Sp.dNew 12).snd.snd.snd.snd)).fst.snd.snd.fst, false,
 (Sp.formatS
 (false, false, (Sp.dNew 12).snd.snd.fst, false,
 (Sp.dNew 12).snd.snd.snd.snd)).fst.snd.snd.snd.snd))).fst)).fst)).fst).fst) ∧
 Sp.eqL.pre
 (Sp.lRecs
 (Sp.joL
 (Sp.dStart
 (Sp.dCrash more.snd.snd.snd.snd
 (Sp.jcD later
 (Sp.jcL more.snd.snd.fst
 (Sp.jcL first (Sp.joL (Sp.formatS (false, false, (Sp.dNew 12).snd.snd.fst, false, (Sp.dNew 12).snd.snd.snd.snd)).fst)
 (Sp.joR (Sp.formatS (false, false, (Sp.dNew 12).snd.snd.fst, false, (Sp.dNew 12).snd.snd.snd.snd)).fst)
 (false, false,
 (Sp.formatS (false, false, (Sp.dNew 12).snd.snd.fst, false, (Sp.dNew 12).snd.snd.snd.snd)).fst.snd.snd.fst, false,
 (Sp.formatS (false, false, (Sp.dNew 12).snd.snd.fst, false, (Sp.dNew 12).snd.snd.snd.snd)).fst.snd.snd.snd.snd))
 (Sp.joR (Sp.formatS (false, false, (Sp.dNew 12).snd.snd.fst, false, (Sp.dNew 12).snd.snd.snd.snd)).fst)
 (Sp.dSet (more.snd.fst, false, [])
 (Sp.jcD first (Sp.joL (Sp.formatS (false, false, (Sp.dNew 12).snd.snd.fst, false, (Sp.dNew 12).snd.snd.snd.snd)).fst)
 (Sp.joR (Sp.formatS (false, false, (Sp.dNew 12).snd.snd.fst, false, (Sp.dNew 12).snd.snd.snd.snd)).fst)
 (false, false,
 (Sp.formatS (false, false, (Sp.dNew 12).snd.snd.fst, false, (Sp.dNew 12).snd.snd.snd.snd)).fst.snd.snd.fst, false,
 (Sp.formatS
 (false, false, (Sp.dNew 12).snd.snd.fst, false,
 (Sp.dNew 12).snd.snd.snd.snd)).fst.snd.snd.snd.snd))).fst)
 (Sp.joR (Sp.formatS (false, false, (Sp.dNew 12).snd.snd.fst, false, (Sp.dNew 12).snd.snd.snd.snd)).fst)
 (Sp.dSet (1099511627776, false, [])
 (Sp.jcD more.snd.snd.fst
 (Sp.jcL first (Sp.joL (Sp.formatS (false, false, (Sp.dNew 12).snd.snd.fst, false, (Sp.dNew 12).snd.snd.snd.snd)).fst)
 (Sp.joR (Sp.formatS (false, false, (Sp.dNew 12).snd.snd.fst, false, (Sp.dNew 12).snd.snd.snd.snd)).fst)
 (false, false,
 (Sp.formatS (false, false, (Sp.dNew 12).snd.snd.fst, false, (Sp.dNew 12).snd.snd.snd.snd)).fst.snd.snd.fst, false,
 (Sp.formatS (false, false, (Sp.dNew 12).snd.snd.fst, false, (Sp.dNew 12).snd.snd.snd.snd)).fst.snd.snd.snd.snd))
 (Sp.joR (Sp.formatS (false, false, (Sp.dNew 12).snd.snd.fst, false, (Sp.dNew 12).snd.snd.snd.snd)).fst)
 (Sp.dSet (more.snd.fst, false, [])
 (Sp.jcD first
 (Sp.joL (Sp.formatS (false, false, (Sp.dNew 12).snd.snd.fst, false, (Sp.dNew 12).snd.snd.snd.snd)).fst)
 (Sp.joR (Sp.formatS (false, false, (Sp.dNew 12).snd.snd.fst, false, (Sp.dNew 12).snd.snd.snd.snd)).fst)
 (false, false,
 (Sp.formatS (false, false, (Sp.dNew 12).snd.snd.fst, false, (Sp.dNew 12).snd.snd.snd.snd)).fst.snd.snd.fst,
 false,
 (Sp.formatS
 (false, false, (Sp.dNew 12).snd.snd.fst, false,
 (Sp.dNew 12).snd.snd.snd.snd)).fst.snd.snd.snd.snd))).fst)).fst)).fst).fst))
 (Sp.putL
 (Sp.lRecs
 (Sp.jcL more.snd.snd.fst
 (Sp.jcL first (Sp.joL (Sp.formatS (false, false, (Sp.dNew 12).snd.snd.fst, false, (Sp.dNew 12).snd.snd.snd.snd)).fst)
 (Sp.joR (Sp.formatS (false, false, (Sp.dNew 12).snd.snd.fst, false, (Sp.dNew 12).snd.snd.snd.snd)).fst)
 (false, false, (Sp.formatS (false, false, (Sp.dNew 12).snd.snd.fst, false, (Sp.dNew 12).snd.snd.snd.snd)).fst.snd.snd.fst, false,
 (Sp.formatS (false, false, (Sp.dNew 12).snd.snd.fst, false, (Sp.dNew 12).snd.snd.snd.snd)).fst.snd.snd.snd.snd))
 (Sp.joR (Sp.formatS (false, false, (Sp.dNew 12).snd.snd.fst, false, (Sp.dNew 12).snd.snd.snd.snd)).fst)
 (Sp.dSet (more.snd.fst, false, [])
 (Sp.jcD first (Sp.joL (Sp.formatS (false, false, (Sp.dNew 12).snd.snd.fst, false, (Sp.dNew 12).snd.snd.snd.snd)).fst)
 (Sp.joR (Sp.formatS (false, false, (Sp.dNew 12).snd.snd.fst, false, (Sp.dNew 12).snd.snd.snd.snd)).fst)
 (false, false, (Sp.formatS (false, false, (Sp.dNew 12).snd.snd.fst, false, (Sp.dNew 12).snd.snd.snd.snd)).fst.snd.snd.fst,
 false,
 (Sp.formatS (false, false, (Sp.dNew 12).snd.snd.fst, false, (Sp.dNew 12).snd.snd.snd.snd)).fst.snd.snd.snd.snd))).fst))
 later) ∧
 bif
 Sp.eqL
 (Sp.lRecs
 (Sp.joL
 (Sp.dStart
 (Sp.dCrash more.snd.snd.snd.snd
 (Sp.jcD later
 (Sp.jcL more.snd.snd.fst
 (Sp.jcL first (Sp.joL (Sp.formatS (false, false, (Sp.dNew 12).snd.snd.fst, false, (Sp.dNew 12).snd.snd.snd.snd)).fst)
 (Sp.joR (Sp.formatS (false, false, (Sp.dNew 12).snd.snd.fst, false, (Sp.dNew 12).snd.snd.snd.snd)).fst)
 (false, false,
 (Sp.formatS (false, false, (Sp.dNew 12).snd.snd.fst, false, (Sp.dNew 12).snd.snd.snd.snd)).fst.snd.snd.fst, false,
 (Sp.formatS (false, false, (Sp.dNew 12).snd.snd.fst, false, (Sp.dNew 12).snd.snd.snd.snd)).fst.snd.snd.snd.snd))
 (Sp.joR (Sp.formatS (false, false, (Sp.dNew 12).snd.snd.fst, false, (Sp.dNew 12).snd.snd.snd.snd)).fst)
 (Sp.dSet (more.snd.fst, false, [])
 (Sp.jcD first
 (Sp.joL (Sp.formatS (false, false, (Sp.dNew 12).snd.snd.fst, false, (Sp.dNew 12).snd.snd.snd.snd)).fst)
 (Sp.joR (Sp.formatS (false, false, (Sp.dNew 12).snd.snd.fst, false, (Sp.dNew 12).snd.snd.snd.snd)).fst)
 (false, false,
 (Sp.formatS (false, false, (Sp.dNew 12).snd.snd.fst, false, (Sp.dNew 12).snd.snd.snd.snd)).fst.snd.snd.fst,
 false,
 (Sp.formatS
 (false, false, (Sp.dNew 12).snd.snd.fst, false,
 (Sp.dNew 12).snd.snd.snd.snd)).fst.snd.snd.snd.snd))).fst)
 (Sp.joR (Sp.formatS (false, false, (Sp.dNew 12).snd.snd.fst, false, (Sp.dNew 12).snd.snd.snd.snd)).fst)
 (Sp.dSet (1099511627776, false, [])
 (Sp.jcD more.snd.snd.fst
 (Sp.jcL first
 (Sp.joL (Sp.formatS (false, false, (Sp.dNew 12).snd.snd.fst, false, (Sp.dNew 12).snd.snd.snd.snd)).fst)
 (Sp.joR (Sp.formatS (false, false, (Sp.dNew 12).snd.snd.fst, false, (Sp.dNew 12).snd.snd.snd.snd)).fst)
 (false, false,
 (Sp.formatS (false, false, (Sp.dNew 12).snd.snd.fst, false, (Sp.dNew 12).snd.snd.snd.snd)).fst.snd.snd.fst,
 false,
 (Sp.formatS
 (false, false, (Sp.dNew 12).snd.snd.fst, false,
 (Sp.dNew 12).snd.snd.snd.snd)).fst.snd.snd.snd.snd))
 (Sp.joR (Sp.formatS (false, false, (Sp.dNew 12).snd.snd.fst, false, (Sp.dNew 12).snd.snd.snd.snd)).fst)
 (Sp.dSet (more.snd.fst, false, [])
 (Sp.jcD first
 (Sp.joL (Sp.formatS (false, false, (Sp.dNew 12).snd.snd.fst, false, (Sp.dNew 12).snd.snd.snd.snd)).fst)
 (Sp.joR (Sp.formatS (false, false, (Sp.dNew 12).snd.snd.fst, false, (Sp.dNew 12).snd.snd.snd.snd)).fst)
 (false, false,
 (Sp.formatS
 (false, false, (Sp.dNew 12).snd.snd.fst, false, (Sp.dNew 12).snd.snd.snd.snd)).fst.snd.snd.fst,
 false,
 (Sp.formatS
 (false, false, (Sp.dNew 12).snd.snd.fst, false,
 (Sp.dNew 12).snd.snd.snd.snd)).fst.snd.snd.snd.snd))).fst)).fst)).fst).fst))
 (Sp.putL
 (Sp.lRecs
 (Sp.jcL more.snd.snd.fst
 (Sp.jcL first (Sp.joL (Sp.formatS (false, false, (Sp.dNew 12).snd.snd.fst, false, (Sp.dNew 12).snd.snd.snd.snd)).fst)
 (Sp.joR (Sp.formatS (false, false, (Sp.dNew 12).snd.snd.fst, false, (Sp.dNew 12).snd.snd.snd.snd)).fst)
 (false, false, (Sp.formatS (false, false, (Sp.dNew 12).snd.snd.fst, false, (Sp.dNew 12).snd.snd.snd.snd)).fst.snd.snd.fst,
 false, (Sp.formatS (false, false, (Sp.dNew 12).snd.snd.fst, false, (Sp.dNew 12).snd.snd.snd.snd)).fst.snd.snd.snd.snd))
 (Sp.joR (Sp.formatS (false, false, (Sp.dNew 12).snd.snd.fst, false, (Sp.dNew 12).snd.snd.snd.snd)).fst)
 (Sp.dSet (more.snd.fst, false, [])
 (Sp.jcD first (Sp.joL (Sp.formatS (false, false, (Sp.dNew 12).snd.snd.fst, false, (Sp.dNew 12).snd.snd.snd.snd)).fst)
 (Sp.joR (Sp.formatS (false, false, (Sp.dNew 12).snd.snd.fst, false, (Sp.dNew 12).snd.snd.snd.snd)).fst)
 (false, false, (Sp.formatS (false, false, (Sp.dNew 12).snd.snd.fst, false, (Sp.dNew 12).snd.snd.snd.snd)).fst.snd.snd.fst,
 false,
 (Sp.formatS (false, false, (Sp.dNew 12).snd.snd.fst, false, (Sp.dNew 12).snd.snd.snd.snd)).fst.snd.snd.snd.snd))).fst))
 later) then
 R Sp.tt
 else R false
 else
 Sp.lOk
 (Sp.jcL later
 (Sp.jcL more.snd.snd.fst
 (Sp.jcL first (Sp.joL (Sp.formatS (false, false, (Sp.dNew 12).snd.snd.fst, false, (Sp.dNew 12).snd.snd.snd.snd)).fst)
 (Sp.joR (Sp.formatS (false, false, (Sp.dNew 12).snd.snd.fst, false, (Sp.dNew 12).snd.snd.snd.snd)).fst)
 (false, false, (Sp.formatS (false, false, (Sp.dNew 12).snd.snd.fst, false, (Sp.dNew 12).snd.snd.snd.snd)).fst.snd.snd.fst, false,
 (Sp.formatS (false, false, (Sp.dNew 12).snd.snd.fst, false, (Sp.dNew 12).snd.snd.snd.snd)).fst.snd.snd.snd.snd))
 (Sp.joR (Sp.formatS (false, false, (Sp.dNew 12).snd.snd.fst, false, (Sp.dNew 12).snd.snd.snd.snd)).fst)
 (Sp.dSet (more.snd.fst, false, [])
 (Sp.jcD first (Sp.joL (Sp.formatS (false, false, (Sp.dNew 12).snd.snd.fst, false, (Sp.dNew 12).snd.snd.snd.snd)).fst)
 (Sp.joR (Sp.formatS (false, false, (Sp.dNew 12).snd.snd.fst, false, (Sp.dNew 12).snd.snd.snd.snd)).fst)
 (false, false, (Sp.formatS (false, false, (Sp.dNew 12).snd.snd.fst, false, (Sp.dNew 12).snd.snd.snd.snd)).fst.snd.snd.fst, false,
 (Sp.formatS (false, false, (Sp.dNew 12).snd.snd.fst, false, (Sp.dNew 12).snd.snd.snd.snd)).fst.snd.snd.snd.snd))).fst)
 (Sp.joR (Sp.formatS (false, false, (Sp.dNew 12).snd.snd.fst, false, (Sp.dNew 12).snd.snd.snd.snd)).fst)
 (Sp.dSet (1099511627776, false, [])
 (Sp.jcD more.snd.snd.fst
 (Sp.jcL first (Sp.joL (Sp.formatS (false, false, (Sp.dNew 12).snd.snd.fst, false, (Sp.dNew 12).snd.snd.snd.snd)).fst)
 (Sp.joR (Sp.formatS (false, false, (Sp.dNew 12).snd.snd.fst, false, (Sp.dNew 12).snd.snd.snd.snd)).fst)
 (false, false, (Sp.formatS (false, false, (Sp.dNew 12).snd.snd.fst, false, (Sp.dNew 12).snd.snd.snd.snd)).fst.snd.snd.fst, false,
 (Sp.formatS (false, false, (Sp.dNew 12).snd.snd.fst, false, (Sp.dNew 12).snd.snd.snd.snd)).fst.snd.snd.snd.snd))
 (Sp.joR (Sp.formatS (false, false, (Sp.dNew 12).snd.snd.fst, false, (Sp.dNew 12).snd.snd.snd.snd)).fst)
 (Sp.dSet (more.snd.fst, false, [])
 (Sp.jcD first (Sp.joL (Sp.formatS (false, false, (Sp.dNew 12).snd.snd.fst, false, (Sp.dNew 12).snd.snd.snd.snd)).fst)
 (Sp.joR (Sp.formatS (false, false, (Sp.dNew 12).snd.snd.fst, false, (Sp.dNew 12).snd.snd.snd.snd)).fst)
 (false, false, (Sp.formatS (false, false, (Sp.dNew 12).snd.snd.fst, false, (Sp.dNew 12).snd.snd.snd.snd)).fst.snd.snd.fst, false,
 (Sp.formatS (false, false, (Sp.dNew 12).snd.snd.fst, false, (Sp.dNew 12).snd.snd.snd.snd)).fst.snd.snd.snd.snd))).fst)).fst) ∧
 Sp.eqL.pre
 (Sp.lRecs
 (Sp.jcL later
 (Sp.jcL more.snd.snd.fst
 (Sp.jcL first (Sp.joL (Sp.formatS (false, false, (Sp.dNew 12).snd.snd.fst, false, (Sp.dNew 12).snd.snd.snd.snd)).fst)
 (Sp.joR (Sp.formatS (false, false, (Sp.dNew 12).snd.snd.fst, false, (Sp.dNew 12).snd.snd.snd.snd)).fst)
 (false, false, (Sp.formatS (false, false, (Sp.dNew 12).snd.snd.fst, false, (Sp.dNew 12).snd.snd.snd.snd)).fst.snd.snd.fst, false,
 (Sp.formatS (false, false, (Sp.dNew 12).snd.snd.fst, false, (Sp.dNew 12).snd.snd.snd.snd)).fst.snd.snd.snd.snd))
 (Sp.joR (Sp.formatS (false, false, (Sp.dNew 12).snd.snd.fst, false, (Sp.dNew 12).snd.snd.snd.snd)).fst)
 (Sp.dSet (more.snd.fst, false, [])
 (Sp.jcD first (Sp.joL (Sp.formatS (false, false, (Sp.dNew 12).snd.snd.fst, false, (Sp.dNew 12).snd.snd.snd.snd)).fst)
 (Sp.joR (Sp.formatS (false, false, (Sp.dNew 12).snd.snd.fst, false, (Sp.dNew 12).snd.snd.snd.snd)).fst)
 (false, false, (Sp.formatS (false, false, (Sp.dNew 12).snd.snd.fst, false, (Sp.dNew 12).snd.snd.snd.snd)).fst.snd.snd.fst, false,
 (Sp.formatS (false, false, (Sp.dNew 12).snd.snd.fst, false, (Sp.dNew 12).snd.snd.snd.snd)).fst.snd.snd.snd.snd))).fst)
 (Sp.joR (Sp.formatS (false, false, (Sp.dNew 12).snd.snd.fst, false, (Sp.dNew 12).snd.snd.snd.snd)).fst)
 (Sp.dSet (1099511627776, false, [])
 (Sp.jcD more.snd.snd.fst
 (Sp.jcL first (Sp.joL (Sp.formatS (false, false, (Sp.dNew 12).snd.snd.fst, false, (Sp.dNew 12).snd.snd.snd.snd)).fst)
 (Sp.joR (Sp.formatS (false, false, (Sp.dNew 12).snd.snd.fst, false, (Sp.dNew 12).snd.snd.snd.snd)).fst)
 (false, false, (Sp.formatS (false, false, (Sp.dNew 12).snd.snd.fst, false, (Sp.dNew 12).snd.snd.snd.snd)).fst.snd.snd.fst, false,
 (Sp.formatS (false, false, (Sp.dNew 12).snd.snd.fst, false, (Sp.dNew 12).snd.snd.snd.snd)).fst.snd.snd.snd.snd))
 (Sp.joR (Sp.formatS (false, false, (Sp.dNew 12).snd.snd.fst, false, (Sp.dNew 12).snd.snd.snd.snd)).fst)
 (Sp.dSet (more.snd.fst, false, [])
 (Sp.jcD first (Sp.joL (Sp.formatS (false, false, (Sp.dNew 12).snd.snd.fst, false, (Sp.dNew 12).snd.snd.snd.snd)).fst)
 (Sp.joR (Sp.formatS (false, false, (Sp.dNew 12).snd.snd.fst, false, (Sp.dNew 12).snd.snd.snd.snd)).fst)
 (false, false, (Sp.formatS (false, false, (Sp.dNew 12).snd.snd.fst, false, (Sp.dNew 12).snd.snd.snd.snd)).fst.snd.snd.fst, false,
 (Sp.formatS (false, false, (Sp.dNew 12).snd.snd.fst, false, (Sp.dNew 12).snd.snd.snd.snd)).fst.snd.snd.snd.snd))).fst)).fst))
 (Sp.lRecs
 (Sp.jcL more.snd.snd.fst
 (Sp.jcL first (Sp.joL (Sp.formatS (false, false, (Sp.dNew 12).snd.snd.fst, false, (Sp.dNew 12).snd.snd.snd.snd)).fst)
 (Sp.joR (Sp.formatS (false, false, (Sp.dNew 12).snd.snd.fst, false, (Sp.dNew 12).snd.snd.snd.snd)).fst)
 (false, false, (Sp.formatS (false, false, (Sp.dNew 12).snd.snd.fst, false, (Sp.dNew 12).snd.snd.snd.snd)).fst.snd.snd.fst, false,
 (Sp.formatS (false, false, (Sp.dNew 12).snd.snd.fst, false, (Sp.dNew 12).snd.snd.snd.snd)).fst.snd.snd.snd.snd))
 (Sp.joR (Sp.formatS (false, false, (Sp.dNew 12).snd.snd.fst, false, (Sp.dNew 12).snd.snd.snd.snd)).fst)
 (Sp.dSet (more.snd.fst, false, [])
 (Sp.jcD first (Sp.joL (Sp.formatS (false, false, (Sp.dNew 12).snd.snd.fst, false, (Sp.dNew 12).snd.snd.snd.snd)).fst)
 (Sp.joR (Sp.formatS (false, false, (Sp.dNew 12).snd.snd.fst, false, (Sp.dNew 12).snd.snd.snd.snd)).fst)
 (false, false, (Sp.formatS (false, false, (Sp.dNew 12).snd.snd.fst, false, (Sp.dNew 12).snd.snd.snd.snd)).fst.snd.snd.fst, false,
 (Sp.formatS (false, false, (Sp.dNew 12).snd.snd.fst, false, (Sp.dNew 12).snd.snd.snd.snd)).fst.snd.snd.snd.snd))).fst)) ∧
 bif
 !Sp.eqL
 (Sp.lRecs
 (Sp.jcL later
 (Sp.jcL more.snd.snd.fst
 (Sp.jcL first (Sp.joL (Sp.formatS (false, false, (Sp.dNew 12).snd.snd.fst, false, (Sp.dNew 12).snd.snd.snd.snd)).fst)
 (Sp.joR (Sp.formatS (false, false, (Sp.dNew 12).snd.snd.fst, false, (Sp.dNew 12).snd.snd.snd.snd)).fst)
 (false, false, (Sp.formatS (false, false, (Sp.dNew 12).snd.snd.fst, false, (Sp.dNew 12).snd.snd.snd.snd)).fst.snd.snd.fst, false,
 (Sp.formatS (false, false, (Sp.dNew 12).snd.snd.fst, false, (Sp.dNew 12).snd.snd.snd.snd)).fst.snd.snd.snd.snd))
 (Sp.joR (Sp.formatS (false, false, (Sp.dNew 12).snd.snd.fst, false, (Sp.dNew 12).snd.snd.snd.snd)).fst)
 (Sp.dSet (more.snd.fst, false, [])
 (Sp.jcD first (Sp.joL (Sp.formatS (false, false, (Sp.dNew 12).snd.snd.fst, false, (Sp.dNew 12).snd.snd.snd.snd)).fst)
 (Sp.joR (Sp.formatS (false, false, (Sp.dNew 12).snd.snd.fst, false, (Sp.dNew 12).snd.snd.snd.snd)).fst)
 (false, false, (Sp.formatS (false, false, (Sp.dNew 12).snd.snd.fst, false, (Sp.dNew 12).snd.snd.snd.snd)).fst.snd.snd.fst, false,
 (Sp.formatS (false, false, (Sp.dNew 12).snd.snd.fst, false, (Sp.dNew 12).snd.snd.snd.snd)).fst.snd.snd.snd.snd))).fst)
 (Sp.joR (Sp.formatS (false, false, (Sp.dNew 12).snd.snd.fst, false, (Sp.dNew 12).snd.snd.snd.snd)).fst)
 (Sp.dSet (1099511627776, false, [])
 (Sp.jcD more.snd.snd.fst
 (Sp.jcL first (Sp.joL (Sp.formatS (false, false, (Sp.dNew 12).snd.snd.fst, false, (Sp.dNew 12).snd.snd.snd.snd)).fst)
 (Sp.joR (Sp.formatS (false, false, (Sp.dNew 12).snd.snd.fst, false, (Sp.dNew 12).snd.snd.snd.snd)).fst)
 (false, false, (Sp.formatS (false, false, (Sp.dNew 12).snd.snd.fst, false, (Sp.dNew 12).snd.snd.snd.snd)).fst.snd.snd.fst, false,
 (Sp.formatS (false, false, (Sp.dNew 12).snd.snd.fst, false, (Sp.dNew 12).snd.snd.snd.snd)).fst.snd.snd.snd.snd))
 (Sp.joR (Sp.formatS (false, false, (Sp.dNew 12).snd.snd.fst, false, (Sp.dNew 12).snd.snd.snd.snd)).fst)
 (Sp.dSet (more.snd.fst, false, [])
 (Sp.jcD first (Sp.joL (Sp.formatS (false, false, (Sp.dNew 12).snd.snd.fst, false, (Sp.dNew 12).snd.snd.snd.snd)).fst)
 (Sp.joR (Sp.formatS (false, false, (Sp.dNew 12).snd.snd.fst, false, (Sp.dNew 12).snd.snd.snd.snd)).fst)
 (false, false, (Sp.formatS (false, false, (Sp.dNew 12).snd.snd.fst, false, (Sp.dNew 12).snd.snd.snd.snd)).fst.snd.snd.fst, false,
 (Sp.formatS (false, false, (Sp.dNew 12).snd.snd.fst, false, (Sp.dNew 12).snd.snd.snd.snd)).fst.snd.snd.snd.snd))).fst)).fst))
 (Sp.lRecs
 (Sp.jcL more.snd.snd.fst
 (Sp.jcL first (Sp.joL (Sp.formatS (false, false, (Sp.dNew 12).snd.snd.fst, false, (Sp.dNew 12).snd.snd.snd.snd)).fst)
 (Sp.joR (Sp.formatS (false, false, (Sp.dNew 12).snd.snd.fst, false, (Sp.dNew 12).snd.snd.snd.snd)).fst)
 (false, false, (Sp.formatS (false, false, (Sp.dNew 12).snd.snd.fst, false, (Sp.dNew 12).snd.snd.snd.snd)).fst.snd.snd.fst, false,
 (Sp.formatS (false, false, (Sp.dNew 12).snd.snd.fst, false, (Sp.dNew 12).snd.snd.snd.snd)).fst.snd.snd.snd.snd))
 (Sp.joR (Sp.formatS (false, false, (Sp.dNew 12).snd.snd.fst, false, (Sp.dNew 12).snd.snd.snd.snd)).fst)
 (Sp.dSet (more.snd.fst, false, [])
 (Sp.jcD first (Sp.joL (Sp.formatS (false, false, (Sp.dNew 12).snd.snd.fst, false, (Sp.dNew 12).snd.snd.snd.snd)).fst)
 (Sp.joR (Sp.formatS (false, false, (Sp.dNew 12).snd.snd.fst, false, (Sp.dNew 12).snd.snd.snd.snd)).fst)
 (false, false, (Sp.formatS (false, false, (Sp.dNew 12).snd.snd.fst, false, (Sp.dNew 12).snd.snd.snd.snd)).fst.snd.snd.fst, false,
 (Sp.formatS (false, false, (Sp.dNew 12).snd.snd.fst, false, (Sp.dNew 12).snd.snd.snd.snd)).fst.snd.snd.snd.snd))).fst)) then
 R false
 else
 Sp.dFall.pre more.snd.snd.snd.snd
 (Sp.jcD later
 (Sp.jcL more.snd.snd.fst
 (Sp.jcL first (Sp.joL (Sp.formatS (false, false, (Sp.dNew 12).snd.snd.fst, false, (Sp.dNew 12).snd.snd.snd.snd)).fst)
 (Sp.joR (Sp.formatS (false, false, (Sp.dNew 12).snd.snd.fst, false, (Sp.dNew 12).snd.snd.snd.snd)).fst)
 (false, false, (Sp.formatS (false, false, (Sp.dNew 12).snd.snd.fst, false, (Sp.dNew 12).snd.snd.snd.snd)).fst.snd.snd.fst, false,
 (Sp.formatS (false, false, (Sp.dNew 12).snd.snd.fst, false, (Sp.dNew 12).snd.snd.snd.snd)).fst.snd.snd.snd.snd))
 (Sp.joR (Sp.formatS (false, false, (Sp.dNew 12).snd.snd.fst, false, (Sp.dNew 12).snd.snd.snd.snd)).fst)
 (Sp.dSet (more.snd.fst, false, [])
 (Sp.jcD first (Sp.joL (Sp.formatS (false, false, (Sp.dNew 12).snd.snd.fst, false, (Sp.dNew 12).snd.snd.snd.snd)).fst)
 (Sp.joR (Sp.formatS (false, false, (Sp.dNew 12).snd.snd.fst, false, (Sp.dNew 12).snd.snd.snd.snd)).fst)
 (false, false, (Sp.formatS (false, false, (Sp.dNew 12).snd.snd.fst, false, (Sp.dNew 12).snd.snd.snd.snd)).fst.snd.snd.fst, false,
 (Sp.formatS (false, false, (Sp.dNew 12).snd.snd.fst, false, (Sp.dNew 12).snd.snd.snd.snd)).fst.snd.snd.snd.snd))).fst)
 (Sp.joR (Sp.formatS (false, false, (Sp.dNew 12).snd.snd.fst, false, (Sp.dNew 12).snd.snd.snd.snd)).fst)
 (Sp.dSet (1099511627776, false, [])
 (Sp.jcD more.snd.snd.fst
 (Sp.jcL first (Sp.joL (Sp.formatS (false, false, (Sp.dNew 12).snd.snd.fst, false, (Sp.dNew 12).snd.snd.snd.snd)).fst)
 (Sp.joR (Sp.formatS (false, false, (Sp.dNew 12).snd.snd.fst, false, (Sp.dNew 12).snd.snd.snd.snd)).fst)
 (false, false, (Sp.formatS (false, false, (Sp.dNew 12).snd.snd.fst, false, (Sp.dNew 12).snd.snd.snd.snd)).fst.snd.snd.fst, false,
 (Sp.formatS (false, false, (Sp.dNew 12).snd.snd.fst, false, (Sp.dNew 12).snd.snd.snd.snd)).fst.snd.snd.snd.snd))
 (Sp.joR (Sp.formatS (false, false, (Sp.dNew 12).snd.snd.fst, false, (Sp.dNew 12).snd.snd.snd.snd)).fst)
 (Sp.dSet (more.snd.fst, false, [])
 (Sp.jcD first (Sp.joL (Sp.formatS (false, false, (Sp.dNew 12).snd.snd.fst, false, (Sp.dNew 12).snd.snd.snd.snd)).fst)
 (Sp.joR (Sp.formatS (false, false, (Sp.dNew 12).snd.snd.fst, false, (Sp.dNew 12).snd.snd.snd.snd)).fst)
 (false, false, (Sp.formatS (false, false, (Sp.dNew 12).snd.snd.fst, false, (Sp.dNew 12).snd.snd.snd.snd)).fst.snd.snd.fst, false,
 (Sp.formatS (false, false, (Sp.dNew 12).snd.snd.fst, false, (Sp.dNew 12).snd.snd.snd.snd)).fst.snd.snd.snd.snd))).fst)).fst) ∧
 bif
 !decide
 ((Sp.dCrash more.snd.snd.snd.snd
 (Sp.jcD later
 (Sp.jcL more.snd.snd.fst
 (Sp.jcL first (Sp.joL (Sp.formatS (false, false, (Sp.dNew 12).snd.snd.fst, false, (Sp.dNew 12).snd.snd.snd.snd)).fst)
 (Sp.joR (Sp.formatS (false, false, (Sp.dNew 12).snd.snd.fst, false, (Sp.dNew 12).snd.snd.snd.snd)).fst)
 (false, false, (Sp.formatS (false, false, (Sp.dNew 12).snd.snd.fst, false, (Sp.dNew 12).snd.snd.snd.snd)).fst.snd.snd.fst, false,
 (Sp.formatS (false, false, (Sp.dNew 12).snd.snd.fst, false, (Sp.dNew 12).snd.snd.snd.snd)).fst.snd.snd.snd.snd))
 (Sp.joR (Sp.formatS (false, false, (Sp.dNew 12).snd.snd.fst, false, (Sp.dNew 12).snd.snd.snd.snd)).fst)
 (Sp.dSet (more.snd.fst, false, [])
 (Sp.jcD first (Sp.joL (Sp.formatS (false, false, (Sp.dNew 12).snd.snd.fst, false, (Sp.dNew 12).snd.snd.snd.snd)).fst)
 (Sp.joR (Sp.formatS (false, false, (Sp.dNew 12).snd.snd.fst, false, (Sp.dNew 12).snd.snd.snd.snd)).fst)
 (false, false, (Sp.formatS (false, false, (Sp.dNew 12).snd.snd.fst, false, (Sp.dNew 12).snd.snd.snd.snd)).fst.snd.snd.fst, false,
 (Sp.formatS (false, false, (Sp.dNew 12).snd.snd.fst, false, (Sp.dNew 12).snd.snd.snd.snd)).fst.snd.snd.snd.snd))).fst)
 (Sp.joR (Sp.formatS (false, false, (Sp.dNew 12).snd.snd.fst, false, (Sp.dNew 12).snd.snd.snd.snd)).fst)
 (Sp.dSet (1099511627776, false, [])
 (Sp.jcD more.snd.snd.fst
 (Sp.jcL first (Sp.joL (Sp.formatS (false, false, (Sp.dNew 12).snd.snd.fst, false, (Sp.dNew 12).snd.snd.snd.snd)).fst)
 (Sp.joR (Sp.formatS (false, false, (Sp.dNew 12).snd.snd.fst, false, (Sp.dNew 12).snd.snd.snd.snd)).fst)
 (false, false, (Sp.formatS (false, false, (Sp.dNew 12).snd.snd.fst, false, (Sp.dNew 12).snd.snd.snd.snd)).fst.snd.snd.fst, false,
 (Sp.formatS (false, false, (Sp.dNew 12).snd.snd.fst, false, (Sp.dNew 12).snd.snd.snd.snd)).fst.snd.snd.snd.snd))
 (Sp.joR (Sp.formatS (false, false, (Sp.dNew 12).snd.snd.fst, false, (Sp.dNew 12).snd.snd.snd.snd)).fst)
 (Sp.dSet (more.snd.fst, false, [])
 (Sp.jcD first (Sp.joL (Sp.formatS (false, false, (Sp.dNew 12).snd.snd.fst, false, (Sp.dNew 12).snd.snd.snd.snd)).fst)
 (Sp.joR (Sp.formatS (false, false, (Sp.dNew 12).snd.snd.fst, false, (Sp.dNew 12).snd.snd.snd.snd)).fst)
 (false, false, (Sp.formatS (false, false, (Sp.dNew 12).snd.snd.fst, false, (Sp.dNew 12).snd.snd.snd.snd)).fst.snd.snd.fst,
 false,
 (Sp.formatS
 (false, false, (Sp.dNew 12).snd.snd.fst, false,
 (Sp.dNew 12).snd.snd.snd.snd)).fst.snd.snd.snd.snd))).fst)).fst)).snd =
 0) then
 R false
 else
 Sp.dPre
 (Sp.dCrash more.snd.snd.snd.snd
 (Sp.jcD later
 (Sp.jcL more.snd.snd.fst
 (Sp.jcL first (Sp.joL (Sp.formatS (false, false, (Sp.dNew 12).snd.snd.fst, false, (Sp.dNew 12).snd.snd.snd.snd)).fst)
 (Sp.joR (Sp.formatS (false, false, (Sp.dNew 12).snd.snd.fst, false, (Sp.dNew 12).snd.snd.snd.snd)).fst)
 (false, false, (Sp.formatS (false, false, (Sp.dNew 12).snd.snd.fst, false, (Sp.dNew 12).snd.snd.snd.snd)).fst.snd.snd.fst, false,
 (Sp.formatS (false, false, (Sp.dNew 12).snd.snd.fst, false, (Sp.dNew 12).snd.snd.snd.snd)).fst.snd.snd.snd.snd))
 (Sp.joR (Sp.formatS (false, false, (Sp.dNew 12).snd.snd.fst, false, (Sp.dNew 12).snd.snd.snd.snd)).fst)
 (Sp.dSet (more.snd.fst, false, [])
 (Sp.jcD first (Sp.joL (Sp.formatS (false, false, (Sp.dNew 12).snd.snd.fst, false, (Sp.dNew 12).snd.snd.snd.snd)).fst)
 (Sp.joR (Sp.formatS (false, false, (Sp.dNew 12).snd.snd.fst, false, (Sp.dNew 12).snd.snd.snd.snd)).fst)
 (false, false, (Sp.formatS (false, false, (Sp.dNew 12).snd.snd.fst, false, (Sp.dNew 12).snd.snd.snd.snd)).fst.snd.snd.fst, false,
 (Sp.formatS (false, false, (Sp.dNew 12).snd.snd.fst, false, (Sp.dNew 12).snd.snd.snd.snd)).fst.snd.snd.snd.snd))).fst)
 (Sp.joR (Sp.formatS (false, false, (Sp.dNew 12).snd.snd.fst, false, (Sp.dNew 12).snd.snd.snd.snd)).fst)
 (Sp.dSet (1099511627776, false, [])
 (Sp.jcD more.snd.snd.fst
 (Sp.jcL first (Sp.joL (Sp.formatS (false, false, (Sp.dNew 12).snd.snd.fst, false, (Sp.dNew 12).snd.snd.snd.snd)).fst)
 (Sp.joR (Sp.formatS (false, false, (Sp.dNew 12).snd.snd.fst, false, (Sp.dNew 12).snd.snd.snd.snd)).fst)
 (false, false, (Sp.formatS (false, false, (Sp.dNew 12).snd.snd.fst, false, (Sp.dNew 12).snd.snd.snd.snd)).fst.snd.snd.fst, false,
 (Sp.formatS (false, false, (Sp.dNew 12).snd.snd.fst, false, (Sp.dNew 12).snd.snd.snd.snd)).fst.snd.snd.snd.snd))
 (Sp.joR (Sp.formatS (false, false, (Sp.dNew 12).snd.snd.fst, false, (Sp.dNew 12).snd.snd.snd.snd)).fst)
 (Sp.dSet (more.snd.fst, false, [])
 (Sp.jcD first (Sp.joL (Sp.formatS (false, false, (Sp.dNew 12).snd.snd.fst, false, (Sp.dNew 12).snd.snd.snd.snd)).fst)
 (Sp.joR (Sp.formatS (false, false, (Sp.dNew 12).snd.snd.fst, false, (Sp.dNew 12).snd.snd.snd.snd)).fst)
 (false, false, (Sp.formatS (false, false, (Sp.dNew 12).snd.snd.fst, false, (Sp.dNew 12).snd.snd.snd.snd)).fst.snd.snd.fst, false,
 (Sp.formatS
 (false, false, (Sp.dNew 12).snd.snd.fst, false,
 (Sp.dNew 12).snd.snd.snd.snd)).fst.snd.snd.snd.snd))).fst)).fst)).fst ∧
 bif
 !decide
 ((Sp.dStart
 (Sp.dCrash more.snd.snd.snd.snd
 (Sp.jcD later
 (Sp.jcL more.snd.snd.fst
 (Sp.jcL first (Sp.joL (Sp.formatS (false, false, (Sp.dNew 12).snd.snd.fst, false, (Sp.dNew 12).snd.snd.snd.snd)).fst)
 (Sp.joR (Sp.formatS (false, false, (Sp.dNew 12).snd.snd.fst, false, (Sp.dNew 12).snd.snd.snd.snd)).fst)
 (false, false, (Sp.formatS (false, false, (Sp.dNew 12).snd.snd.fst, false, (Sp.dNew 12).snd.snd.snd.snd)).fst.snd.snd.fst,
 false, (Sp.formatS (false, false, (Sp.dNew 12).snd.snd.fst, false, (Sp.dNew 12).snd.snd.snd.snd)).fst.snd.snd.snd.snd))
 (Sp.joR (Sp.formatS (false, false, (Sp.dNew 12).snd.snd.fst, false, (Sp.dNew 12).snd.snd.snd.snd)).fst)
 (Sp.dSet (more.snd.fst, false, [])
 (Sp.jcD first (Sp.joL (Sp.formatS (false, false, (Sp.dNew 12).snd.snd.fst, false, (Sp.dNew 12).snd.snd.snd.snd)).fst)
 (Sp.joR (Sp.formatS (false, false, (Sp.dNew 12).snd.snd.fst, false, (Sp.dNew 12).snd.snd.snd.snd)).fst)
 (false, false, (Sp.formatS (false, false, (Sp.dNew 12).snd.snd.fst, false, (Sp.dNew 12).snd.snd.snd.snd)).fst.snd.snd.fst,
 false,
 (Sp.formatS (false, false, (Sp.dNew 12).snd.snd.fst, false, (Sp.dNew 12).snd.snd.snd.snd)).fst.snd.snd.snd.snd))).fst)
 (Sp.joR (Sp.formatS (false, false, (Sp.dNew 12).snd.snd.fst, false, (Sp.dNew 12).snd.snd.snd.snd)).fst)
 (Sp.dSet (1099511627776, false, [])
 (Sp.jcD more.snd.snd.fst
 (Sp.jcL first (Sp.joL (Sp.formatS (false, false, (Sp.dNew 12).snd.snd.fst, false, (Sp.dNew 12).snd.snd.snd.snd)).fst)
 (Sp.joR (Sp.formatS (false, false, (Sp.dNew 12).snd.snd.fst, false, (Sp.dNew 12).snd.snd.snd.snd)).fst)
 (false, false, (Sp.formatS (false, false, (Sp.dNew 12).snd.snd.fst, false, (Sp.dNew 12).snd.snd.snd.snd)).fst.snd.snd.fst,
 false, (Sp.formatS (false, false, (Sp.dNew 12).snd.snd.fst, false, (Sp.dNew 12).snd.snd.snd.snd)).fst.snd.snd.snd.snd))
 (Sp.joR (Sp.formatS (false, false, (Sp.dNew 12).snd.snd.fst, false, (Sp.dNew 12).snd.snd.snd.snd)).fst)
 (Sp.dSet (more.snd.fst, false, [])
 (Sp.jcD first (Sp.joL (Sp.formatS (false, false, (Sp.dNew 12).snd.snd.fst, false, (Sp.dNew 12).snd.snd.snd.snd)).fst)
 (Sp.joR (Sp.formatS (false, false, (Sp.dNew 12).snd.snd.fst, false, (Sp.dNew 12).snd.snd.snd.snd)).fst)
 (false, false,
 (Sp.formatS (false, false, (Sp.dNew 12).snd.snd.fst, false, (Sp.dNew 12).snd.snd.snd.snd)).fst.snd.snd.fst, false,
 (Sp.formatS
 (false, false, (Sp.dNew 12).snd.snd.fst, false,
 (Sp.dNew 12).snd.snd.snd.snd)).fst.snd.snd.snd.snd))).fst)).fst)).fst).snd =
 0) then
 R false
 else
 Sp.gPre
 (Sp.dStart
 (Sp.dCrash more.snd.snd.snd.snd
 (Sp.jcD later
 (Sp.jcL more.snd.snd.fst
 (Sp.jcL first (Sp.joL (Sp.formatS (false, false, (Sp.dNew 12).snd.snd.fst, false, (Sp.dNew 12).snd.snd.snd.snd)).fst)
 (Sp.joR (Sp.formatS (false, false, (Sp.dNew 12).snd.snd.fst, false, (Sp.dNew 12).snd.snd.snd.snd)).fst)
 (false, false, (Sp.formatS (false, false, (Sp.dNew 12).snd.snd.fst, false, (Sp.dNew 12).snd.snd.snd.snd)).fst.snd.snd.fst, false,
 (Sp.formatS (false, false, (Sp.dNew 12).snd.snd.fst, false, (Sp.dNew 12).snd.snd.snd.snd)).fst.snd.snd.snd.snd))
 (Sp.joR (Sp.formatS (false, false, (Sp.dNew 12).snd.snd.fst, false, (Sp.dNew 12).snd.snd.snd.snd)).fst)
 (Sp.dSet (more.snd.fst, false, [])
 (Sp.jcD first (Sp.joL (Sp.formatS (false, false, (Sp.dNew 12).snd.snd.fst, false, (Sp.dNew 12).snd.snd.snd.snd)).fst)
 (Sp.joR (Sp.formatS (false, false, (Sp.dNew 12).snd.snd.fst, false, (Sp.dNew 12).snd.snd.snd.snd)).fst)
 (false, false, (Sp.formatS (false, false, (Sp.dNew 12).snd.snd.fst, false, (Sp.dNew 12).snd.snd.snd.snd)).fst.snd.snd.fst,
 false, (Sp.formatS (false, false, (Sp.dNew 12).snd.snd.fst, false, (Sp.dNew 12).snd.snd.snd.snd)).fst.snd.snd.snd.snd))).fst)
 (Sp.joR (Sp.formatS (false, false, (Sp.dNew 12).snd.snd.fst, false, (Sp.dNew 12).snd.snd.snd.snd)).fst)
 (Sp.dSet (1099511627776, false, [])
 (Sp.jcD more.snd.snd.fst
 (Sp.jcL first (Sp.joL (Sp.formatS (false, false, (Sp.dNew 12).snd.snd.fst, false, (Sp.dNew 12).snd.snd.snd.snd)).fst)
 (Sp.joR (Sp.formatS (false, false, (Sp.dNew 12).snd.snd.fst, false, (Sp.dNew 12).snd.snd.snd.snd)).fst)
 (false, false, (Sp.formatS (false, false, (Sp.dNew 12).snd.snd.fst, false, (Sp.dNew 12).snd.snd.snd.snd)).fst.snd.snd.fst,
 false, (Sp.formatS (false, false, (Sp.dNew 12).snd.snd.fst, false, (Sp.dNew 12).snd.snd.snd.snd)).fst.snd.snd.snd.snd))
 (Sp.joR (Sp.formatS (false, false, (Sp.dNew 12).snd.snd.fst, false, (Sp.dNew 12).snd.snd.snd.snd)).fst)
 (Sp.dSet (more.snd.fst, false, [])
 (Sp.jcD first (Sp.joL (Sp.formatS (false, false, (Sp.dNew 12).snd.snd.fst, false, (Sp.dNew 12).snd.snd.snd.snd)).fst)
 (Sp.joR (Sp.formatS (false, false, (Sp.dNew 12).snd.snd.fst, false, (Sp.dNew 12).snd.snd.snd.snd)).fst)
 (false, false, (Sp.formatS (false, false, (Sp.dNew 12).snd.snd.fst, false, (Sp.dNew 12).snd.snd.snd.snd)).fst.snd.snd.fst,
 false,
 (Sp.formatS
 (false, false, (Sp.dNew 12).snd.snd.fst, false,
 (Sp.dNew 12).snd.snd.snd.snd)).fst.snd.snd.snd.snd))).fst)).fst)).fst).fst ∧
 bif
 Sp.joNil
 (Sp.dStart
 (Sp.dCrash more.snd.snd.snd.snd
 (Sp.jcD later
 (Sp.jcL more.snd.snd.fst
 (Sp.jcL first (Sp.joL (Sp.formatS (false, false, (Sp.dNew 12).snd.snd.fst, false, (Sp.dNew 12).snd.snd.snd.snd)).fst)
 (Sp.joR (Sp.formatS (false, false, (Sp.dNew 12).snd.snd.fst, false, (Sp.dNew 12).snd.snd.snd.snd)).fst)
 (false, false, (Sp.formatS (false, false, (Sp.dNew 12).snd.snd.fst, false, (Sp.dNew 12).snd.snd.snd.snd)).fst.snd.snd.fst,
 false, (Sp.formatS (false, false, (Sp.dNew 12).snd.snd.fst, false, (Sp.dNew 12).snd.snd.snd.snd)).fst.snd.snd.snd.snd))
 (Sp.joR (Sp.formatS (false, false, (Sp.dNew 12).snd.snd.fst, false, (Sp.dNew 12).snd.snd.snd.snd)).fst)
 (Sp.dSet (more.snd.fst, false, [])
 (Sp.jcD first (Sp.joL (Sp.formatS (false, false, (Sp.dNew 12).snd.snd.fst, false, (Sp.dNew 12).snd.snd.snd.snd)).fst)
 (Sp.joR (Sp.formatS (false, false, (Sp.dNew 12).snd.snd.fst, false, (Sp.dNew 12).snd.snd.snd.snd)).fst)
 (false, false, (Sp.formatS (false, false, (Sp.dNew 12).snd.snd.fst, false, (Sp.dNew 12).snd.snd.snd.snd)).fst.snd.snd.fst,
 false,
 (Sp.formatS (false, false, (Sp.dNew 12).snd.snd.fst, false, (Sp.dNew 12).snd.snd.snd.snd)).fst.snd.snd.snd.snd))).fst)
 (Sp.joR (Sp.formatS (false, false, (Sp.dNew 12).snd.snd.fst, false, (Sp.dNew 12).snd.snd.snd.snd)).fst)
 (Sp.dSet (1099511627776, false, [])
 (Sp.jcD more.snd.snd.fst
 (Sp.jcL first (Sp.joL (Sp.formatS (false, false, (Sp.dNew 12).snd.snd.fst, false, (Sp.dNew 12).snd.snd.snd.snd)).fst)
 (Sp.joR (Sp.formatS (false, false, (Sp.dNew 12).snd.snd.fst, false, (Sp.dNew 12).snd.snd.snd.snd)).fst)
 (false, false, (Sp.formatS (false, false, (Sp.dNew 12).snd.snd.fst, false, (Sp.dNew 12).snd.snd.snd.snd)).fst.snd.snd.fst,
 false, (Sp.formatS (false, false, (Sp.dNew 12).snd.snd.fst, false, (Sp.dNew 12).snd.snd.snd.snd)).fst.snd.snd.snd.snd))
 (Sp.joR (Sp.formatS (false, false, (Sp.dNew 12).snd.snd.fst, false, (Sp.dNew 12).snd.snd.snd.snd)).fst)
 (Sp.dSet (more.snd.fst, false, [])
 (Sp.jcD first (Sp.joL (Sp.formatS (false, false, (Sp.dNew 12).snd.snd.fst, false, (Sp.dNew 12).snd.snd.snd.snd)).fst)
 (Sp.joR (Sp.formatS (false, false, (Sp.dNew 12).snd.snd.fst, false, (Sp.dNew 12).snd.snd.snd.snd)).fst)
 (false, false,
 (Sp.formatS (false, false, (Sp.dNew 12).snd.snd.fst, false, (Sp.dNew 12).snd.snd.snd.snd)).fst.snd.snd.fst, false,
 (Sp.formatS
 (false, false, (Sp.dNew 12).snd.snd.fst, false,
 (Sp.dNew 12).snd.snd.snd.snd)).fst.snd.snd.snd.snd))).fst)).fst)).fst).fst then
 bif
 decide
 (Sp.joErr
 (Sp.dStart
 (Sp.dCrash more.snd.snd.snd.snd
 (Sp.jcD later
 (Sp.jcL more.snd.snd.fst
 (Sp.jcL first (Sp.joL (Sp.formatS (false, false, (Sp.dNew 12).snd.snd.fst, false, (Sp.dNew 12).snd.snd.snd.snd)).fst)
 (Sp.joR (Sp.formatS (false, false, (Sp.dNew 12).snd.snd.fst, false, (Sp.dNew 12).snd.snd.snd.snd)).fst)
 (false, false, (Sp.formatS (false, false, (Sp.dNew 12).snd.snd.fst, false, (Sp.dNew 12).snd.snd.snd.snd)).fst.snd.snd.fst,
 false, (Sp.formatS (false, false, (Sp.dNew 12).snd.snd.fst, false, (Sp.dNew 12).snd.snd.snd.snd)).fst.snd.snd.snd.snd))
 (Sp.joR (Sp.formatS (false, false, (Sp.dNew 12).snd.snd.fst, false, (Sp.dNew 12).snd.snd.snd.snd)).fst)
 (Sp.dSet (more.snd.fst, false, [])
 (Sp.jcD first (Sp.joL (Sp.formatS (false, false, (Sp.dNew 12).snd.snd.fst, false, (Sp.dNew 12).snd.snd.snd.snd)).fst)
 (Sp.joR (Sp.formatS (false, false, (Sp.dNew 12).snd.snd.fst, false, (Sp.dNew 12).snd.snd.snd.snd)).fst)
 (false, false,
 (Sp.formatS (false, false, (Sp.dNew 12).snd.snd.fst, false, (Sp.dNew 12).snd.snd.snd.snd)).fst.snd.snd.fst, false,
 (Sp.formatS
 (false, false, (Sp.dNew 12).snd.snd.fst, false,
 (Sp.dNew 12).snd.snd.snd.snd)).fst.snd.snd.snd.snd))).fst)
 (Sp.joR (Sp.formatS (false, false, (Sp.dNew 12).snd.snd.fst, false, (Sp.dNew 12).snd.snd.snd.snd)).fst)
 (Sp.dSet (1099511627776, false, [])
 (Sp.jcD more.snd.snd.fst
 (Sp.jcL first (Sp.joL (Sp.formatS (false, false, (Sp.dNew 12).snd.snd.fst, false, (Sp.dNew 12).snd.snd.snd.snd)).fst)
 (Sp.joR (Sp.formatS (false, false, (Sp.dNew 12).snd.snd.fst, false, (Sp.dNew 12).snd.snd.snd.snd)).fst)
 (false, false,
 (Sp.formatS (false, false, (Sp.dNew 12).snd.snd.fst, false, (Sp.dNew 12).snd.snd.snd.snd)).fst.snd.snd.fst, false,
 (Sp.formatS (false, false, (Sp.dNew 12).snd.snd.fst, false, (Sp.dNew 12).snd.snd.snd.snd)).fst.snd.snd.snd.snd))
 (Sp.joR (Sp.formatS (false, false, (Sp.dNew 12).snd.snd.fst, false, (Sp.dNew 12).snd.snd.snd.snd)).fst)
 (Sp.dSet (more.snd.fst, false, [])
 (Sp.jcD first
 (Sp.joL (Sp.formatS (false, false, (Sp.dNew 12).snd.snd.fst, false, (Sp.dNew 12).snd.snd.snd.snd)).fst)
 (Sp.joR (Sp.formatS (false, false, (Sp.dNew 12).snd.snd.fst, false, (Sp.dNew 12).snd.snd.snd.snd)).fst)
 (false, false,
 (Sp.formatS (false, false, (Sp.dNew 12).snd.snd.fst, false, (Sp.dNew 12).snd.snd.snd.snd)).fst.snd.snd.fst,
 false,
 (Sp.formatS
 (false, false, (Sp.dNew 12).snd.snd.fst, false,
 (Sp.dNew 12).snd.snd.snd.snd)).fst.snd.snd.snd.snd))).fst)).fst)).fst).fst =
 0) then
 R false
 else R false
 else
 Sp.lOk
 (Sp.joL
 (Sp.dStart
 (Sp.dCrash more.snd.snd.snd.snd
 (Sp.jcD later
 (Sp.jcL more.snd.snd.fst
 (Sp.jcL first (Sp.joL (Sp.formatS (false, false, (Sp.dNew 12).snd.snd.fst, false, (Sp.dNew 12).snd.snd.snd.snd)).fst)
 (Sp.joR (Sp.formatS (false, false, (Sp.dNew 12).snd.snd.fst, false, (Sp.dNew 12).snd.snd.snd.snd)).fst)
 (false, false, (Sp.formatS (false, false, (Sp.dNew 12).snd.snd.fst, false, (Sp.dNew 12).snd.snd.snd.snd)).fst.snd.snd.fst,
 false, (Sp.formatS (false, false, (Sp.dNew 12).snd.snd.fst, false, (Sp.dNew 12).snd.snd.snd.snd)).fst.snd.snd.snd.snd))
 (Sp.joR (Sp.formatS (false, false, (Sp.dNew 12).snd.snd.fst, false, (Sp.dNew 12).snd.snd.snd.snd)).fst)
 (Sp.dSet (more.snd.fst, false, [])
 (Sp.jcD first (Sp.joL (Sp.formatS (false, false, (Sp.dNew 12).snd.snd.fst, false, (Sp.dNew 12).snd.snd.snd.snd)).fst)
 (Sp.joR (Sp.formatS (false, false, (Sp.dNew 12).snd.snd.fst, false, (Sp.dNew 12).snd.snd.snd.snd)).fst)
 (false, false, (Sp.formatS (false, false, (Sp.dNew 12).snd.snd.fst, false, (Sp.dNew 12).snd.snd.snd.snd)).fst.snd.snd.fst,
 false,
 (Sp.formatS (false, false, (Sp.dNew 12).snd.snd.fst, false, (Sp.dNew 12).snd.snd.snd.snd)).fst.snd.snd.snd.snd))).fst)
 (Sp.joR (Sp.formatS (false, false, (Sp.dNew 12).snd.snd.fst, false, (Sp.dNew 12).snd.snd.snd.snd)).fst)
 (Sp.dSet (1099511627776, false, [])
 (Sp.jcD more.snd.snd.fst
 (Sp.jcL first (Sp.joL (Sp.formatS (false, false, (Sp.dNew 12).snd.snd.fst, false, (Sp.dNew 12).snd.snd.snd.snd)).fst)
 (Sp.joR (Sp.formatS (false, false, (Sp.dNew 12).snd.snd.fst, false, (Sp.dNew 12).snd.snd.snd.snd)).fst)
 (false, false, (Sp.formatS (false, false, (Sp.dNew 12).snd.snd.fst, false, (Sp.dNew 12).snd.snd.snd.snd)).fst.snd.snd.fst,
 false, (Sp.formatS (false, false, (Sp.dNew 12).snd.snd.fst, false, (Sp.dNew 12).snd.snd.snd.snd)).fst.snd.snd.snd.snd))
 (Sp.joR (Sp.formatS (false, false, (Sp.dNew 12).snd.snd.fst, false, (Sp.dNew 12).snd.snd.snd.snd)).fst)
 (Sp.dSet (more.snd.fst, false, [])
 (Sp.jcD first (Sp.joL (Sp.formatS (false, false, (Sp.dNew 12).snd.snd.fst, false, (Sp.dNew 12).snd.snd.snd.snd)).fst)
 (Sp.joR (Sp.formatS (false, false, (Sp.dNew 12).snd.snd.fst, false, (Sp.dNew 12).snd.snd.snd.snd)).fst)
 (false, false,
 (Sp.formatS (false, false, (Sp.dNew 12).snd.snd.fst, false, (Sp.dNew 12).snd.snd.snd.snd)).fst.snd.snd.fst, false,
 (Sp.formatS
 (false, false, (Sp.dNew 12).snd.snd.fst, false,
 (Sp.dNew 12).snd.snd.snd.snd)).fst.snd.snd.snd.snd))).fst)).fst)).fst).fst) ∧
 Sp.eqL.pre
 (Sp.lRecs
 (Sp.joL
 (Sp.dStart
 (Sp.dCrash more.snd.snd.snd.snd
 (Sp.jcD later
 (Sp.jcL more.snd.snd.fst
 (Sp.jcL first (Sp.joL (Sp.formatS (false, false, (Sp.dNew 12).snd.snd.fst, false, (Sp.dNew 12).snd.snd.snd.snd)).fst)
 (Sp.joR (Sp.formatS (false, false, (Sp.dNew 12).snd.snd.fst, false, (Sp.dNew 12).snd.snd.snd.snd)).fst)
 (false, false, (Sp.formatS (false, false, (Sp.dNew 12).snd.snd.fst, false, (Sp.dNew 12).snd.snd.snd.snd)).fst.snd.snd.fst,
 false, (Sp.formatS (false, false, (Sp.dNew 12).snd.snd.fst, false, (Sp.dNew 12).snd.snd.snd.snd)).fst.snd.snd.snd.snd))
 (Sp.joR (Sp.formatS (false, false, (Sp.dNew 12).snd.snd.fst, false, (Sp.dNew 12).snd.snd.snd.snd)).fst)
 (Sp.dSet (more.snd.fst, false, [])
 (Sp.jcD first (Sp.joL (Sp.formatS (false, false, (Sp.dNew 12).snd.snd.fst, false, (Sp.dNew 12).snd.snd.snd.snd)).fst)
 (Sp.joR (Sp.formatS (false, false, (Sp.dNew 12).snd.snd.fst, false, (Sp.dNew 12).snd.snd.snd.snd)).fst)
 (false, false,
 (Sp.formatS (false, false, (Sp.dNew 12).snd.snd.fst, false, (Sp.dNew 12).snd.snd.snd.snd)).fst.snd.snd.fst, false,
 (Sp.formatS
 (false, false, (Sp.dNew 12).snd.snd.fst, false,
 (Sp.dNew 12).snd.snd.snd.snd)).fst.snd.snd.snd.snd))).fst)
 (Sp.joR (Sp.formatS (false, false, (Sp.dNew 12).snd.snd.fst, false, (Sp.dNew 12).snd.snd.snd.snd)).fst)
 (Sp.dSet (1099511627776, false, [])
 (Sp.jcD more.snd.snd.fst
 (Sp.jcL first (Sp.joL (Sp.formatS (false, false, (Sp.dNew 12).snd.snd.fst, false, (Sp.dNew 12).snd.snd.snd.snd)).fst)
 (Sp.joR (Sp.formatS (false, false, (Sp.dNew 12).snd.snd.fst, false, (Sp.dNew 12).snd.snd.snd.snd)).fst)
 (false, false,
 (Sp.formatS (false, false, (Sp.dNew 12).snd.snd.fst, false, (Sp.dNew 12).snd.snd.snd.snd)).fst.snd.snd.fst, false,
 (Sp.formatS (false, false, (Sp.dNew 12).snd.snd.fst, false, (Sp.dNew 12).snd.snd.snd.snd)).fst.snd.snd.snd.snd))
 (Sp.joR (Sp.formatS (false, false, (Sp.dNew 12).snd.snd.fst, false, (Sp.dNew 12).snd.snd.snd.snd)).fst)
 (Sp.dSet (more.snd.fst, false, [])
 (Sp.jcD first
 (Sp.joL (Sp.formatS (false, false, (Sp.dNew 12).snd.snd.fst, false, (Sp.dNew 12).snd.snd.snd.snd)).fst)
 (Sp.joR (Sp.formatS (false, false, (Sp.dNew 12).snd.snd.fst, false, (Sp.dNew 12).snd.snd.snd.snd)).fst)
 (false, false,
 (Sp.formatS (false, false, (Sp.dNew 12).snd.snd.fst, false, (Sp.dNew 12).snd.snd.snd.snd)).fst.snd.snd.fst,
 false,
 (Sp.formatS
 (false, false, (Sp.dNew 12).snd.snd.fst, false,
 (Sp.dNew 12).snd.snd.snd.snd)).fst.snd.snd.snd.snd))).fst)).fst)).fst).fst))
 (Sp.lRecs
 (Sp.jcL more.snd.snd.fst
 (Sp.jcL first (Sp.joL (Sp.formatS (false, false, (Sp.dNew 12).snd.snd.fst, false, (Sp.dNew 12).snd.snd.snd.snd)).fst)
 (Sp.joR (Sp.formatS (false, false, (Sp.dNew 12).snd.snd.fst, false, (Sp.dNew 12).snd.snd.snd.snd)).fst)
 (false, false, (Sp.formatS (false, false, (Sp.dNew 12).snd.snd.fst, false, (Sp.dNew 12).snd.snd.snd.snd)).fst.snd.snd.fst, false,
 (Sp.formatS (false, false, (Sp.dNew 12).snd.snd.fst, false, (Sp.dNew 12).snd.snd.snd.snd)).fst.snd.snd.snd.snd))
 (Sp.joR (Sp.formatS (false, false, (Sp.dNew 12).snd.snd.fst, false, (Sp.dNew 12).snd.snd.snd.snd)).fst)
 (Sp.dSet (more.snd.fst, false, [])
 (Sp.jcD first (Sp.joL (Sp.formatS (false, false, (Sp.dNew 12).snd.snd.fst, false, (Sp.dNew 12).snd.snd.snd.snd)).fst)
 (Sp.joR (Sp.formatS (false, false, (Sp.dNew 12).snd.snd.fst, false, (Sp.dNew 12).snd.snd.snd.snd)).fst)
 (false, false, (Sp.formatS (false, false, (Sp.dNew 12).snd.snd.fst, false, (Sp.dNew 12).snd.snd.snd.snd)).fst.snd.snd.fst, false,
 (Sp.formatS (false, false, (Sp.dNew 12).snd.snd.fst, false, (Sp.dNew 12).snd.snd.snd.snd)).fst.snd.snd.snd.snd))).fst)) ∧
 bif
 Sp.eqL
 (Sp.lRecs
 (Sp.joL
 (Sp.dStart
 (Sp.dCrash more.snd.snd.snd.snd
 (Sp.jcD later
 (Sp.jcL more.snd.snd.fst
 (Sp.jcL first (Sp.joL (Sp.formatS (false, false, (Sp.dNew 12).snd.snd.fst, false, (Sp.dNew 12).snd.snd.snd.snd)).fst)
 (Sp.joR (Sp.formatS (false, false, (Sp.dNew 12).snd.snd.fst, false, (Sp.dNew 12).snd.snd.snd.snd)).fst)
 (false, false,
 (Sp.formatS (false, false, (Sp.dNew 12).snd.snd.fst, false, (Sp.dNew 12).snd.snd.snd.snd)).fst.snd.snd.fst, false,
 (Sp.formatS (false, false, (Sp.dNew 12).snd.snd.fst, false, (Sp.dNew 12).snd.snd.snd.snd)).fst.snd.snd.snd.snd))
 (Sp.joR (Sp.formatS (false, false, (Sp.dNew 12).snd.snd.fst, false, (Sp.dNew 12).snd.snd.snd.snd)).fst)
 (Sp.dSet (more.snd.fst, false, [])
 (Sp.jcD first
 (Sp.joL (Sp.formatS (false, false, (Sp.dNew 12).snd.snd.fst, false, (Sp.dNew 12).snd.snd.snd.snd)).fst)
 (Sp.joR (Sp.formatS (false, false, (Sp.dNew 12).snd.snd.fst, false, (Sp.dNew 12).snd.snd.snd.snd)).fst)
 (false, false,
 (Sp.formatS (false, false, (Sp.dNew 12).snd.snd.fst, false, (Sp.dNew 12).snd.snd.snd.snd)).fst.snd.snd.fst,
 false,
 (Sp.formatS
 (false, false, (Sp.dNew 12).snd.snd.fst, false,
 (Sp.dNew 12).snd.snd.snd.snd)).fst.snd.snd.snd.snd))).fst)
 (Sp.joR (Sp.formatS (false, false, (Sp.dNew 12).snd.snd.fst, false, (Sp.dNew 12).snd.snd.snd.snd)).fst)
 (Sp.dSet (1099511627776, false, [])
 (Sp.jcD more.snd.snd.fst
 (Sp.jcL first
 (Sp.joL (Sp.formatS (false, false, (Sp.dNew 12).snd.snd.fst, false, (Sp.dNew 12).snd.snd.snd.snd)).fst)
 (Sp.joR (Sp.formatS (false, false, (Sp.dNew 12).snd.snd.fst, false, (Sp.dNew 12).snd.snd.snd.snd)).fst)
 (false, false,
 (Sp.formatS (false, false, (Sp.dNew 12).snd.snd.fst, false, (Sp.dNew 12).snd.snd.snd.snd)).fst.snd.snd.fst,
 false,
 (Sp.formatS (false, false, (Sp.dNew 12).snd.snd.fst, false, (Sp.dNew 12).snd.snd.snd.snd)).fst.snd.snd.snd.snd))
 (Sp.joR (Sp.formatS (false, false, (Sp.dNew 12).snd.snd.fst, false, (Sp.dNew 12).snd.snd.snd.snd)).fst)
 (Sp.dSet (more.snd.fst, false, [])
 (Sp.jcD first
 (Sp.joL (Sp.formatS (false, false, (Sp.dNew 12).snd.snd.fst, false, (Sp.dNew 12).snd.snd.snd.snd)).fst)
 (Sp.joR (Sp.formatS (false, false, (Sp.dNew 12).snd.snd.fst, false, (Sp.dNew 12).snd.snd.snd.snd)).fst)
 (false, false,
 (Sp.formatS (false, false, (Sp.dNew 12).snd.snd.fst, false, (Sp.dNew 12).snd.snd.snd.snd)).fst.snd.snd.fst,
 false,
 (Sp.formatS
 (false, false, (Sp.dNew 12).snd.snd.fst, false,
 (Sp.dNew 12).snd.snd.snd.snd)).fst.snd.snd.snd.snd))).fst)).fst)).fst).fst))
 (Sp.lRecs
 (Sp.jcL more.snd.snd.fst
 (Sp.jcL first (Sp.joL (Sp.formatS (false, false, (Sp.dNew 12).snd.snd.fst, false, (Sp.dNew 12).snd.snd.snd.snd)).fst)
 (Sp.joR (Sp.formatS (false, false, (Sp.dNew 12).snd.snd.fst, false, (Sp.dNew 12).snd.snd.snd.snd)).fst)
 (false, false, (Sp.formatS (false, false, (Sp.dNew 12).snd.snd.fst, false, (Sp.dNew 12).snd.snd.snd.snd)).fst.snd.snd.fst, false,
 (Sp.formatS (false, false, (Sp.dNew 12).snd.snd.fst, false, (Sp.dNew 12).snd.snd.snd.snd)).fst.snd.snd.snd.snd))
 (Sp.joR (Sp.formatS (false, false, (Sp.dNew 12).snd.snd.fst, false, (Sp.dNew 12).snd.snd.snd.snd)).fst)
 (Sp.dSet (more.snd.fst, false, [])
 (Sp.jcD first (Sp.joL (Sp.formatS (false, false, (Sp.dNew 12).snd.snd.fst, false, (Sp.dNew 12).snd.snd.snd.snd)).fst)
 (Sp.joR (Sp.formatS (false, false, (Sp.dNew 12).snd.snd.fst, false, (Sp.dNew 12).snd.snd.snd.snd)).fst)
 (false, false, (Sp.formatS (false, false, (Sp.dNew 12).snd.snd.fst, false, (Sp.dNew 12).snd.snd.snd.snd)).fst.snd.snd.fst,
 false,
 (Sp.formatS (false, false, (Sp.dNew 12).snd.snd.fst, false, (Sp.dNew 12).snd.snd.snd.snd)).fst.snd.snd.snd.snd))).fst)) then
 R Sp.tt
 else R false

