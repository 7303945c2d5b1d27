/- Conditions of functions. Written by a program of this session. -/
import Derived.Test.YtdeajocokfhklaaSpS
set_option linter.unnecessarySimpa false
set_option linter.unusedVariables false
set_option linter.unusedSectionVars false
set_option linter.unusedSimpArgs false
set_option autoImplicit false
set_option linter.unusedVariables false
open Go Vi

def internal_stringslite_HasPrefix.vc (R : Bool → Prop) (s : Str) (prefix_ : Str) : Prop :=
  bif decide ((↑(List.length prefix_) : Int) ≤ (↑(List.length s) : Int)) then
    Sb 0 (↑(List.length prefix_) : Int) (List.length s) ∧ R (decide (sub s 0 (↑(List.length prefix_) : Int) = prefix_))
  else R false

def internal_stringslite_CutPrefix.vc (R : List UInt8 → Bool → Prop) (s : Str) (prefix_ : Str) : Prop :=
  Sp.preB.pre s prefix_ ∧
    bif !Sp.preB s prefix_ then R s false
    else Sb (↑(List.length prefix_) : Int) (↑(List.length s) : Int) (List.length s) ∧ R (sub s (↑(List.length prefix_) : Int) (↑(List.length s) : Int)) true

def strings_CutPrefix.vc (R : List UInt8 → Bool → Prop) (s : Str) (prefix_ : Str) : Prop :=
  Sp.preB.pre s prefix_ ∧ R (Sp.cutP s prefix_).fst (Sp.cutP s prefix_).snd

def slot_Slot_parts.vc (R : List Int → Prop) (s : Int × Int × Int × Int) : Prop :=
  Ln 4 4 ∧ Ln 4 4 ∧ R [s.fst, s.snd.fst, s.snd.snd.fst, s.snd.snd.snd]

def slot_Slot_right_1.vc (R : Bool → Prop) (n : Int) : Prop :=
  bif decide (0 ≤ n) then R (decide (n ≤ 65536)) else R false

def slot_Slot_right.vc (R : Bool → Prop) (s : Int × Int × Int × Int) : Prop :=
  bif decide (1 ≤ s.fst) then
    bif decide (s.fst ≤ 1099511627776) then
      bif decide (s.snd.fst = 0) then bif Sp.countS s.snd.snd.fst then R (Sp.countS s.snd.snd.snd) else R false
      else bif decide (s.snd.fst = 1) then bif Sp.countS s.snd.snd.fst then R (Sp.countS s.snd.snd.snd) else R false else R false
    else R false
  else R false

def slot_padded.vc (R : List UInt8 → Prop) (s : Str) : Prop :=
  Rg IntKind.i64 (256 - (↑(List.length s) : Int)) ∧
    Sp.repS.pre [0] (256 - (↑(List.length s) : Int)) ∧
      (↑(List.length s) : Int) + (↑(List.length (Sp.repS [0] (256 - (↑(List.length s) : Int)))) : Int) ≤ 9223372036854775807 ∧ R (s ++ Sp.repS [0] (256 - (↑(List.length s) : Int)))

def slot_Block.L0 (R : List UInt8 → Int → Prop) (out : List UInt8) (t13 : List Int) (t14 : Int) (K0 : List UInt8 × List Int × Int × Unit → Prop) : Prop :=
  bif decide (t14 < 4) then
    Ix t14 4 ∧
      (↑out.length : Int) + (↑(List.length (Sp.numP (nth t13 t14 0)).fst) : Int) ≤ 9223372036854775807 ∧
        Rg IntKind.i64 (t14 + 1) ∧ K0 (out ++ (Sp.numP (nth t13 t14 0)).fst, t13, t14 + 1, ())
  else Sp.padS.pre out ∧ R (Sp.padS out) 0
def slot_Block.vc (R : List UInt8 → Int → Prop) (s : Int × Int × Int × Int) : Prop :=
  bif !Sp.rightS s then R [] 1 else Lp (fun v K => slot_Block.L0 R v.fst v.snd.fst v.snd.snd.fst K) ([114, 99, 116, 111], Sp.partsS s, 0, ())

def slot_Read.L0 (R : Int × Int × Int × Int →
  Bool →
    Prop) (b : List
  UInt8) (rest : List
  UInt8) (t24 : Int) (t2_Number : Int) (t2_Region : Int) (t2_Bytes : Int) (t2_Records : Int) (l : List
  Int) (K0 : List UInt8 × List UInt8 × Int × Int × Int × Int × Int × List Int × Unit → Prop) : Prop :=
  bif decide (t24 < 4) then
    Sp.takeNum.pre rest ∧
      Ln 4 l.length ∧
        Ix t24 4 ∧
          Ix t24 l.length ∧
            bif !decide ((Sp.takeNum rest).snd.snd = 0) then R (0, 0, 0, 0) false
            else Rg IntKind.i64 (t24 + 1) ∧ K0 (b, (Sp.takeNum rest).snd.fst, t24 + 1, t2_Number, t2_Region, t2_Bytes, t2_Records, l.set t24.toNat (Sp.takeNum rest).fst, ())
  else
    Ln 4 l.length ∧
      Ix 0 4 ∧
        Ix 0 l.length ∧
          Ln 4 l.length ∧
            Ix 1 4 ∧
              Ix 1 l.length ∧
                Ln 4 l.length ∧
                  Ix 2 4 ∧
                    Ix 2 l.length ∧
                      Ln 4 l.length ∧
                        Ix 3 4 ∧
                          Ix 3 l.length ∧
                            bif !decide ((Sp.blockS (nth l 0 0, nth l 1 0, nth l 2 0, nth l 3 0)).snd = 0) then R (0, 0, 0, 0) false
                            else
                              Sb 0 64 (List.length (Sp.blockS (nth l 0 0, nth l 1 0, nth l 2 0, nth l 3 0)).fst) ∧
                                Sb 0 64 b.length ∧
                                  bif !decide (sub (Sp.blockS (nth l 0 0, nth l 1 0, nth l 2 0, nth l 3 0)).fst 0 64 = sub b 0 64) then R (0, 0, 0, 0) false
                                  else R (nth l 0 0, nth l 1 0, nth l 2 0, nth l 3 0) true
def slot_Read.vc (R : Int × Int × Int × Int → Bool → Prop) (b : Str) : Prop :=
  bif !decide ((↑(List.length b) : Int) = 256) then R (0, 0, 0, 0) false
  else
    Sp.preB.pre b [114, 99, 116, 111] ∧
      bif !(Sp.cutP b [114, 99, 116, 111]).snd then R (0, 0, 0, 0) false
      else
        Lp
          (fun v K =>
            slot_Read.L0 R v.fst v.snd.fst v.snd.snd.fst v.snd.snd.snd.fst v.snd.snd.snd.snd.fst v.snd.snd.snd.snd.snd.fst v.snd.snd.snd.snd.snd.snd.fst v.snd.snd.snd.snd.snd.snd.snd.fst K)
          (b, (Sp.cutP b [114, 99, 116, 111]).fst, 0, 0, 0, 0, 0, List.replicate 4 0, ())

def slot_Choose.L0 (R : Int × Int × Int × Int →
  Int →
    Int →
      Bool →
        Bool →
          Int →
            Bool →
              List Int →
                List (List (List UInt8)) →
                  List (Int × List (List UInt8)) →
                    Prop) (at_ : Int) (t13 : Int) (down : Bool) (armed : Bool) (after : Int) (acut : Bool) (keep : List
  Int) (bs : List
  (List
    (List
      UInt8))) (ws : List
  (Int ×
    List
      (List
        UInt8))) (t2_Number : Int) (t2_Region : Int) (t2_Bytes : Int) (t2_Records : Int) (best_Number : Int) (best_Region : Int) (best_Bytes : Int) (best_Records : Int) (K0 : Int ×
    Int × Bool × Bool × Int × Bool × List Int × List (List (List UInt8)) × List (Int × List (List UInt8)) × Int × Int × Int × Int × Int × Int × Int × Int × Unit →
  Prop) : Prop :=
  bif decide (t13 < 2) then
    Sp.dPre (down, armed, after, acut, keep, bs, ws) ∧
      bif !decide ((Sp.dRead t13 (down, armed, after, acut, keep, bs, ws)).snd = 0) then
        R (0, 0, 0, 0) 0 (Sp.dRead t13 (down, armed, after, acut, keep, bs, ws)).snd down armed after acut keep bs ws
      else
        Sp.readS.pre (Sp.dRead t13 (down, armed, after, acut, keep, bs, ws)).fst ∧
          bif (Sp.readS (Sp.dRead t13 (down, armed, after, acut, keep, bs, ws)).fst).snd then
            bif decide (best_Number < (Sp.readS (Sp.dRead t13 (down, armed, after, acut, keep, bs, ws)).fst).fst.fst) then
              Rg IntKind.i64 (t13 + 1) ∧
                K0
                  (t13, t13 + 1, down, armed, after, acut, keep, bs, ws, t2_Number, t2_Region, t2_Bytes, t2_Records,
                    (Sp.readS (Sp.dRead t13 (down, armed, after, acut, keep, bs, ws)).fst).fst.fst, (Sp.readS (Sp.dRead t13 (down, armed, after, acut, keep, bs, ws)).fst).fst.snd.fst,
                    (Sp.readS (Sp.dRead t13 (down, armed, after, acut, keep, bs, ws)).fst).fst.snd.snd.fst,
                    (Sp.readS (Sp.dRead t13 (down, armed, after, acut, keep, bs, ws)).fst).fst.snd.snd.snd, ())
            else
              Rg IntKind.i64 (t13 + 1) ∧
                K0 (at_, t13 + 1, down, armed, after, acut, keep, bs, ws, t2_Number, t2_Region, t2_Bytes, t2_Records, best_Number, best_Region, best_Bytes, best_Records, ())
          else
            Rg IntKind.i64 (t13 + 1) ∧
              K0 (at_, t13 + 1, down, armed, after, acut, keep, bs, ws, t2_Number, t2_Region, t2_Bytes, t2_Records, best_Number, best_Region, best_Bytes, best_Records, ())
  else bif decide (at_ < 0) then R (0, 0, 0, 0) 0 290 down armed after acut keep bs ws else R (best_Number, best_Region, best_Bytes, best_Records) at_ 0 down armed after acut keep bs ws
def slot_Choose.vc (R : Int × Int × Int × Int →
  Int →
    Int →
      Bool →
        Bool →
          Int →
            Bool →
              List Int →
                List (List (List UInt8)) →
                  List (Int × List (List UInt8)) →
                    Prop) (down : Bool) (armed : Bool) (after : Int) (acut : Bool) (keep : List Int) (bs : List (List Str)) (ws : List (Int × List Str)) : Prop :=
  Lp
    (fun v K =>
      slot_Choose.L0 R v.fst v.snd.fst v.snd.snd.fst v.snd.snd.snd.fst v.snd.snd.snd.snd.fst v.snd.snd.snd.snd.snd.fst v.snd.snd.snd.snd.snd.snd.fst v.snd.snd.snd.snd.snd.snd.snd.fst
        v.snd.snd.snd.snd.snd.snd.snd.snd.fst v.snd.snd.snd.snd.snd.snd.snd.snd.snd.fst v.snd.snd.snd.snd.snd.snd.snd.snd.snd.snd.fst v.snd.snd.snd.snd.snd.snd.snd.snd.snd.snd.snd.fst
        v.snd.snd.snd.snd.snd.snd.snd.snd.snd.snd.snd.snd.fst v.snd.snd.snd.snd.snd.snd.snd.snd.snd.snd.snd.snd.snd.fst v.snd.snd.snd.snd.snd.snd.snd.snd.snd.snd.snd.snd.snd.snd.fst
        v.snd.snd.snd.snd.snd.snd.snd.snd.snd.snd.snd.snd.snd.snd.snd.fst v.snd.snd.snd.snd.snd.snd.snd.snd.snd.snd.snd.snd.snd.snd.snd.snd.fst K)
    (-1, 0, down, armed, after, acut, keep, bs, ws, 0, 0, 0, 0, 0, 0, 0, 0, ())

def slot_Put.vc (R : Int →
  Bool →
    Bool →
      Int →
        Bool →
          List Int →
            List (List (List UInt8)) →
              List (Int × List (List UInt8)) →
                Prop) (s : Int × Int × Int × Int) (down : Bool) (armed : Bool) (after : Int) (acut : Bool) (keep : List Int) (bs : List (List Str)) (ws : List (Int × List Str)) : Prop :=
  Sp.dPre (down, armed, after, acut, keep, bs, ws) ∧
    bif !decide ((Sp.chooseS (down, armed, after, acut, keep, bs, ws)).snd.snd = 0) then R (Sp.chooseS (down, armed, after, acut, keep, bs, ws)).snd.snd down armed after acut keep bs ws
    else
      Rg IntKind.i64 ((Sp.chooseS (down, armed, after, acut, keep, bs, ws)).fst.fst + 1) ∧
        bif !decide ((Sp.blockS ((Sp.chooseS (down, armed, after, acut, keep, bs, ws)).fst.fst + 1, s.snd)).snd = 0) then
          R (Sp.blockS ((Sp.chooseS (down, armed, after, acut, keep, bs, ws)).fst.fst + 1, s.snd)).snd down armed after acut keep bs ws
        else
          Rg IntKind.i64 (1 - (Sp.chooseS (down, armed, after, acut, keep, bs, ws)).snd.fst) ∧
            Sp.dWrite.pre (1 - (Sp.chooseS (down, armed, after, acut, keep, bs, ws)).snd.fst) (Sp.blockS ((Sp.chooseS (down, armed, after, acut, keep, bs, ws)).fst.fst + 1, s.snd)).fst
                (down, armed, after, acut, keep, bs, ws) ∧
              bif
                  !decide
                      ((Sp.dWrite (1 - (Sp.chooseS (down, armed, after, acut, keep, bs, ws)).snd.fst)
                            (Sp.blockS ((Sp.chooseS (down, armed, after, acut, keep, bs, ws)).fst.fst + 1, s.snd)).fst (down, armed, after, acut, keep, bs, ws)).snd =
                        0) then
                R
                  (Sp.dWrite (1 - (Sp.chooseS (down, armed, after, acut, keep, bs, ws)).snd.fst) (Sp.blockS ((Sp.chooseS (down, armed, after, acut, keep, bs, ws)).fst.fst + 1, s.snd)).fst
                      (down, armed, after, acut, keep, bs, ws)).snd
                  (Sp.dWrite (1 - (Sp.chooseS (down, armed, after, acut, keep, bs, ws)).snd.fst) (Sp.blockS ((Sp.chooseS (down, armed, after, acut, keep, bs, ws)).fst.fst + 1, s.snd)).fst
                        (down, armed, after, acut, keep, bs, ws)).fst.fst
                  (Sp.dWrite (1 - (Sp.chooseS (down, armed, after, acut, keep, bs, ws)).snd.fst) (Sp.blockS ((Sp.chooseS (down, armed, after, acut, keep, bs, ws)).fst.fst + 1, s.snd)).fst
                          (down, armed, after, acut, keep, bs, ws)).fst.snd.fst
                  (Sp.dWrite (1 - (Sp.chooseS (down, armed, after, acut, keep, bs, ws)).snd.fst) (Sp.blockS ((Sp.chooseS (down, armed, after, acut, keep, bs, ws)).fst.fst + 1, s.snd)).fst
                            (down, armed, after, acut, keep, bs, ws)).fst.snd.snd.fst
                  (Sp.dWrite (1 - (Sp.chooseS (down, armed, after, acut, keep, bs, ws)).snd.fst) (Sp.blockS ((Sp.chooseS (down, armed, after, acut, keep, bs, ws)).fst.fst + 1, s.snd)).fst
                              (down, armed, after, acut, keep, bs, ws)).fst.snd.snd.snd.fst
                  (Sp.dWrite (1 - (Sp.chooseS (down, armed, after, acut, keep, bs, ws)).snd.fst) (Sp.blockS ((Sp.chooseS (down, armed, after, acut, keep, bs, ws)).fst.fst + 1, s.snd)).fst
                                (down, armed, after, acut, keep, bs, ws)).fst.snd.snd.snd.snd.fst
                  (Sp.dWrite (1 - (Sp.chooseS (down, armed, after, acut, keep, bs, ws)).snd.fst) (Sp.blockS ((Sp.chooseS (down, armed, after, acut, keep, bs, ws)).fst.fst + 1, s.snd)).fst
                                  (down, armed, after, acut, keep, bs, ws)).fst.snd.snd.snd.snd.snd.fst
                  (Sp.dWrite (1 - (Sp.chooseS (down, armed, after, acut, keep, bs, ws)).snd.fst) (Sp.blockS ((Sp.chooseS (down, armed, after, acut, keep, bs, ws)).fst.fst + 1, s.snd)).fst
                                  (down, armed, after, acut, keep, bs, ws)).fst.snd.snd.snd.snd.snd.snd
              else
                Sp.dPre
                    (Sp.dWrite (1 - (Sp.chooseS (down, armed, after, acut, keep, bs, ws)).snd.fst) (Sp.blockS ((Sp.chooseS (down, armed, after, acut, keep, bs, ws)).fst.fst + 1, s.snd)).fst
                        (down, armed, after, acut, keep, bs, ws)).fst ∧
                  R
                    (Sp.dFlush
                        (Sp.dWrite (1 - (Sp.chooseS (down, armed, after, acut, keep, bs, ws)).snd.fst)
                            (Sp.blockS ((Sp.chooseS (down, armed, after, acut, keep, bs, ws)).fst.fst + 1, s.snd)).fst (down, armed, after, acut, keep, bs, ws)).fst).snd
                    (Sp.dFlush
                          (Sp.dWrite (1 - (Sp.chooseS (down, armed, after, acut, keep, bs, ws)).snd.fst)
                              (Sp.blockS ((Sp.chooseS (down, armed, after, acut, keep, bs, ws)).fst.fst + 1, s.snd)).fst (down, armed, after, acut, keep, bs, ws)).fst).fst.fst
                    (Sp.dFlush
                            (Sp.dWrite (1 - (Sp.chooseS (down, armed, after, acut, keep, bs, ws)).snd.fst)
                                (Sp.blockS ((Sp.chooseS (down, armed, after, acut, keep, bs, ws)).fst.fst + 1, s.snd)).fst (down, armed, after, acut, keep, bs, ws)).fst).fst.snd.fst
                    (Sp.dFlush
                              (Sp.dWrite (1 - (Sp.chooseS (down, armed, after, acut, keep, bs, ws)).snd.fst)
                                  (Sp.blockS ((Sp.chooseS (down, armed, after, acut, keep, bs, ws)).fst.fst + 1, s.snd)).fst (down, armed, after, acut, keep, bs, ws)).fst).fst.snd.snd.fst
                    (Sp.dFlush
                                (Sp.dWrite (1 - (Sp.chooseS (down, armed, after, acut, keep, bs, ws)).snd.fst)
                                    (Sp.blockS ((Sp.chooseS (down, armed, after, acut, keep, bs, ws)).fst.fst + 1, s.snd)).fst
                                    (down, armed, after, acut, keep, bs, ws)).fst).fst.snd.snd.snd.fst
                    (Sp.dFlush
                                  (Sp.dWrite (1 - (Sp.chooseS (down, armed, after, acut, keep, bs, ws)).snd.fst)
                                      (Sp.blockS ((Sp.chooseS (down, armed, after, acut, keep, bs, ws)).fst.fst + 1, s.snd)).fst
                                      (down, armed, after, acut, keep, bs, ws)).fst).fst.snd.snd.snd.snd.fst
                    (Sp.dFlush
                                    (Sp.dWrite (1 - (Sp.chooseS (down, armed, after, acut, keep, bs, ws)).snd.fst)
                                        (Sp.blockS ((Sp.chooseS (down, armed, after, acut, keep, bs, ws)).fst.fst + 1, s.snd)).fst
                                        (down, armed, after, acut, keep, bs, ws)).fst).fst.snd.snd.snd.snd.snd.fst
                    (Sp.dFlush
                                    (Sp.dWrite (1 - (Sp.chooseS (down, armed, after, acut, keep, bs, ws)).snd.fst)
                                        (Sp.blockS ((Sp.chooseS (down, armed, after, acut, keep, bs, ws)).fst.fst + 1, s.snd)).fst
                                        (down, armed, after, acut, keep, bs, ws)).fst).fst.snd.snd.snd.snd.snd.snd

def slot_Format.L0 (R : Int →
  Bool →
    Bool →
      Int →
        Bool →
          List Int →
            List (List (List UInt8)) →
              List (Int × List (List UInt8)) →
                Prop) (t15 : List
  (List
    UInt8)) (t16 : Int) (down : Bool) (armed : Bool) (after : Int) (acut : Bool) (keep : List
  Int) (bs : List
  (List
    (List
      UInt8))) (ws : List
  (Int × List (List UInt8))) (K0 : List (List UInt8) × Int × Bool × Bool × Int × Bool × List Int × List (List (List UInt8)) × List (Int × List (List UInt8)) × Unit → Prop) : Prop :=
  bif decide (t16 < 2) then
    Ix t16 2 ∧
      Sp.dWrite.pre t16 (nth t15 t16 []) (down, armed, after, acut, keep, bs, ws) ∧
        bif !decide ((Sp.dWrite t16 (nth t15 t16 []) (down, armed, after, acut, keep, bs, ws)).snd = 0) then
          R (Sp.dWrite t16 (nth t15 t16 []) (down, armed, after, acut, keep, bs, ws)).snd (Sp.dWrite t16 (nth t15 t16 []) (down, armed, after, acut, keep, bs, ws)).fst.fst
            (Sp.dWrite t16 (nth t15 t16 []) (down, armed, after, acut, keep, bs, ws)).fst.snd.fst (Sp.dWrite t16 (nth t15 t16 []) (down, armed, after, acut, keep, bs, ws)).fst.snd.snd.fst
            (Sp.dWrite t16 (nth t15 t16 []) (down, armed, after, acut, keep, bs, ws)).fst.snd.snd.snd.fst
            (Sp.dWrite t16 (nth t15 t16 []) (down, armed, after, acut, keep, bs, ws)).fst.snd.snd.snd.snd.fst
            (Sp.dWrite t16 (nth t15 t16 []) (down, armed, after, acut, keep, bs, ws)).fst.snd.snd.snd.snd.snd.fst
            (Sp.dWrite t16 (nth t15 t16 []) (down, armed, after, acut, keep, bs, ws)).fst.snd.snd.snd.snd.snd.snd
        else
          Rg IntKind.i64 (t16 + 1) ∧
            K0
              (t15, t16 + 1, (Sp.dWrite t16 (nth t15 t16 []) (down, armed, after, acut, keep, bs, ws)).fst.fst,
                (Sp.dWrite t16 (nth t15 t16 []) (down, armed, after, acut, keep, bs, ws)).fst.snd.fst,
                (Sp.dWrite t16 (nth t15 t16 []) (down, armed, after, acut, keep, bs, ws)).fst.snd.snd.fst,
                (Sp.dWrite t16 (nth t15 t16 []) (down, armed, after, acut, keep, bs, ws)).fst.snd.snd.snd.fst,
                (Sp.dWrite t16 (nth t15 t16 []) (down, armed, after, acut, keep, bs, ws)).fst.snd.snd.snd.snd.fst,
                (Sp.dWrite t16 (nth t15 t16 []) (down, armed, after, acut, keep, bs, ws)).fst.snd.snd.snd.snd.snd.fst,
                (Sp.dWrite t16 (nth t15 t16 []) (down, armed, after, acut, keep, bs, ws)).fst.snd.snd.snd.snd.snd.snd, ())
  else
    Sp.dPre (down, armed, after, acut, keep, bs, ws) ∧
      R (Sp.dFlush (down, armed, after, acut, keep, bs, ws)).snd (Sp.dFlush (down, armed, after, acut, keep, bs, ws)).fst.fst (Sp.dFlush (down, armed, after, acut, keep, bs, ws)).fst.snd.fst
        (Sp.dFlush (down, armed, after, acut, keep, bs, ws)).fst.snd.snd.fst (Sp.dFlush (down, armed, after, acut, keep, bs, ws)).fst.snd.snd.snd.fst
        (Sp.dFlush (down, armed, after, acut, keep, bs, ws)).fst.snd.snd.snd.snd.fst (Sp.dFlush (down, armed, after, acut, keep, bs, ws)).fst.snd.snd.snd.snd.snd.fst
        (Sp.dFlush (down, armed, after, acut, keep, bs, ws)).fst.snd.snd.snd.snd.snd.snd
def slot_Format.vc (R : Int →
  Bool →
    Bool →
      Int →
        Bool →
          List Int →
            List (List (List UInt8)) →
              List (Int × List (List UInt8)) → Prop) (down : Bool) (armed : Bool) (after : Int) (acut : Bool) (keep : List Int) (bs : List (List Str)) (ws : List (Int × List Str)) : Prop :=
  Sp.padS.pre [] ∧
    Lp
      (fun v K =>
        slot_Format.L0 R v.fst v.snd.fst v.snd.snd.fst v.snd.snd.snd.fst v.snd.snd.snd.snd.fst v.snd.snd.snd.snd.snd.fst v.snd.snd.snd.snd.snd.snd.fst v.snd.snd.snd.snd.snd.snd.snd.fst
          v.snd.snd.snd.snd.snd.snd.snd.snd.fst K)
      ([(Sp.blockS (1, 0, 0, 0)).fst, Sp.padS []], 0, down, armed, after, acut, keep, bs, ws, ())

def rectoref28_Right.vc (R : Bool → Prop) (s : Int × Int × Int × Int) : Prop :=
  bif decide (0 < s.fst) then
    bif decide (s.fst ≤ 1099511627776) then
      bif decide (0 ≤ s.snd.fst) then
        bif decide (s.snd.fst < 2) then
          bif decide (0 ≤ s.snd.snd.fst) then bif decide (s.snd.snd.fst ≤ 65536) then bif decide (0 ≤ s.snd.snd.snd) then R (decide (s.snd.snd.snd ≤ 65536)) else R false else R false
          else R false
        else R false
      else R false
    else R false
  else R false

def rectoref28_Plain.L0 (R : List UInt8 → Prop) (out : List UInt8) (K0 : List UInt8 × Unit → Prop) : Prop :=
  bif decide ((↑out.length : Int) < 256) then (↑out.length : Int) + (↑1 : Int) ≤ 9223372036854775807 ∧ K0 (out ++ [0], ()) else R out
def rectoref28_Plain.vc (R : List UInt8 → Prop) (s : Int × Int × Int × Int) : Prop :=
  Sp.plain.pre s.fst ∧
    (↑4 : Int) + (↑(List.length (Sp.plain s.fst)) : Int) ≤ 9223372036854775807 ∧
      Sp.plain.pre s.snd.fst ∧
        (↑(114 :: 99 :: 116 :: 111 :: Sp.plain s.fst).length : Int) + (↑(List.length (Sp.plain s.snd.fst)) : Int) ≤ 9223372036854775807 ∧
          Sp.plain.pre s.snd.snd.fst ∧
            (↑(List.length (114 :: 99 :: 116 :: 111 :: Sp.plain s.fst ++ Sp.plain s.snd.fst)) : Int) + (↑(List.length (Sp.plain s.snd.snd.fst)) : Int) ≤ 9223372036854775807 ∧
              Sp.plain.pre s.snd.snd.snd ∧
                (↑(List.length (114 :: 99 :: 116 :: 111 :: Sp.plain s.fst ++ Sp.plain s.snd.fst ++ Sp.plain s.snd.snd.fst)) : Int) + (↑(List.length (Sp.plain s.snd.snd.snd)) : Int) ≤
                    9223372036854775807 ∧
                  Lp (fun v K => rectoref28_Plain.L0 R v.fst K) (114 :: 99 :: 116 :: 111 :: Sp.plain s.fst ++ Sp.plain s.snd.fst ++ Sp.plain s.snd.snd.fst ++ Sp.plain s.snd.snd.snd, ())

def rectoref28_Read.vc (R : (Int × Int × Int × Int) × Bool → Prop) (b : Str) : Prop :=
  bif !decide ((↑(List.length b) : Int) = 256) then R ((0, 0, 0, 0), false)
  else
    Sb 0 4 (List.length b) ∧
      bif !decide (sub b 0 4 = [114, 99, 116, 111]) then R ((0, 0, 0, 0), false)
      else
        Sb 4 (↑(List.length b) : Int) (List.length b) ∧
          Sp.takenN.pre (sub b 4 (↑(List.length b) : Int)) ∧
            Sp.takenN.pre (Sp.takenN (sub b 4 (↑(List.length b) : Int))).snd.snd.snd.fst ∧
              Sp.takenN.pre (Sp.takenN (Sp.takenN (sub b 4 (↑(List.length b) : Int))).snd.snd.snd.fst).snd.snd.snd.fst ∧
                Sp.takenN.pre (Sp.takenN (Sp.takenN (Sp.takenN (sub b 4 (↑(List.length b) : Int))).snd.snd.snd.fst).snd.snd.snd.fst).snd.snd.snd.fst ∧
                  bif !decide ((Sp.takenN (sub b 4 (↑(List.length b) : Int))).snd.snd.snd.snd = 0) then R ((0, 0, 0, 0), false)
                  else
                    bif !decide ((Sp.takenN (Sp.takenN (sub b 4 (↑(List.length b) : Int))).snd.snd.snd.fst).snd.snd.snd.snd = 0) then R ((0, 0, 0, 0), false)
                    else
                      bif !decide ((Sp.takenN (Sp.takenN (Sp.takenN (sub b 4 (↑(List.length b) : Int))).snd.snd.snd.fst).snd.snd.snd.fst).snd.snd.snd.snd = 0) then R ((0, 0, 0, 0), false)
                      else
                        bif
                            !decide
                                ((Sp.takenN (Sp.takenN (Sp.takenN (Sp.takenN (sub b 4 (↑(List.length b) : Int))).snd.snd.snd.fst).snd.snd.snd.fst).snd.snd.snd.fst).snd.snd.snd.snd = 0) then
                          R ((0, 0, 0, 0), false)
                        else
                          bif
                              !Sp.rightS
                                  ((Sp.takenN (sub b 4 (↑(List.length b) : Int))).fst, (Sp.takenN (Sp.takenN (sub b 4 (↑(List.length b) : Int))).snd.snd.snd.fst).fst,
                                    (Sp.takenN (Sp.takenN (Sp.takenN (sub b 4 (↑(List.length b) : Int))).snd.snd.snd.fst).snd.snd.snd.fst).fst,
                                    (Sp.takenN (Sp.takenN (Sp.takenN (Sp.takenN (sub b 4 (↑(List.length b) : Int))).snd.snd.snd.fst).snd.snd.snd.fst).snd.snd.snd.fst).fst) then
                            R ((0, 0, 0, 0), false)
                          else
                            Sp.plainS.pre
                                ((Sp.takenN (sub b 4 (↑(List.length b) : Int))).fst, (Sp.takenN (Sp.takenN (sub b 4 (↑(List.length b) : Int))).snd.snd.snd.fst).fst,
                                  (Sp.takenN (Sp.takenN (Sp.takenN (sub b 4 (↑(List.length b) : Int))).snd.snd.snd.fst).snd.snd.snd.fst).fst,
                                  (Sp.takenN (Sp.takenN (Sp.takenN (Sp.takenN (sub b 4 (↑(List.length b) : Int))).snd.snd.snd.fst).snd.snd.snd.fst).snd.snd.snd.fst).fst) ∧
                              Sb 0 64
                                  (List.length
                                    (Sp.plainS
                                      ((Sp.takenN (sub b 4 (↑(List.length b) : Int))).fst, (Sp.takenN (Sp.takenN (sub b 4 (↑(List.length b) : Int))).snd.snd.snd.fst).fst,
                                        (Sp.takenN (Sp.takenN (Sp.takenN (sub b 4 (↑(List.length b) : Int))).snd.snd.snd.fst).snd.snd.snd.fst).fst,
                                        (Sp.takenN (Sp.takenN (Sp.takenN (Sp.takenN (sub b 4 (↑(List.length b) : Int))).snd.snd.snd.fst).snd.snd.snd.fst).snd.snd.snd.fst).fst))) ∧
                                Sb 0 64 (List.length b) ∧
                                  bif
                                      !decide
                                          (sub
                                              (Sp.plainS
                                                ((Sp.takenN (sub b 4 (↑(List.length b) : Int))).fst, (Sp.takenN (Sp.takenN (sub b 4 (↑(List.length b) : Int))).snd.snd.snd.fst).fst,
                                                  (Sp.takenN (Sp.takenN (Sp.takenN (sub b 4 (↑(List.length b) : Int))).snd.snd.snd.fst).snd.snd.snd.fst).fst,
                                                  (Sp.takenN (Sp.takenN (Sp.takenN (Sp.takenN (sub b 4 (↑(List.length b) : Int))).snd.snd.snd.fst).snd.snd.snd.fst).snd.snd.snd.fst).fst))
                                              0 64 =
                                            sub b 0 64) then
                                    R ((0, 0, 0, 0), false)
                                  else
                                    R
                                      (((Sp.takenN (sub b 4 (↑(List.length b) : Int))).fst, (Sp.takenN (Sp.takenN (sub b 4 (↑(List.length b) : Int))).snd.snd.snd.fst).fst,
                                          (Sp.takenN (Sp.takenN (Sp.takenN (sub b 4 (↑(List.length b) : Int))).snd.snd.snd.fst).snd.snd.snd.fst).fst,
                                          (Sp.takenN (Sp.takenN (Sp.takenN (Sp.takenN (sub b 4 (↑(List.length b) : Int))).snd.snd.snd.fst).snd.snd.snd.fst).snd.snd.snd.fst).fst),
                                        true)

def rectoref28_Choose.vc (R : (Int × Int × Int × Int) × Int × Int →
  Bool →
    Bool →
      Int →
        Bool →
          List Int →
            List (List UInt8) →
              List (Int × List UInt8) → Prop) (rdown : Bool) (rarmed : Bool) (rafter : Int) (racut : Bool) (rkeep : List Int) (rbs : List Str) (rws : List (Int × Str)) : Prop :=
  Sp.rPre (rdown, rarmed, rafter, racut, rkeep, rbs, rws) ∧
    bif !decide ((Sp.rRead 0 (rdown, rarmed, rafter, racut, rkeep, rbs, rws)).snd = 0) then
      R ((0, 0, 0, 0), 0, (Sp.rRead 0 (rdown, rarmed, rafter, racut, rkeep, rbs, rws)).snd) rdown rarmed rafter racut rkeep rbs rws
    else
      Sp.rPre (rdown, rarmed, rafter, racut, rkeep, rbs, rws) ∧
        bif !decide ((Sp.rRead 1 (rdown, rarmed, rafter, racut, rkeep, rbs, rws)).snd = 0) then
          R ((0, 0, 0, 0), 0, (Sp.rRead 1 (rdown, rarmed, rafter, racut, rkeep, rbs, rws)).snd) rdown rarmed rafter racut rkeep rbs rws
        else
          Sp.readS.pre (Sp.rRead 0 (rdown, rarmed, rafter, racut, rkeep, rbs, rws)).fst ∧
            Sp.readS.pre (Sp.rRead 1 (rdown, rarmed, rafter, racut, rkeep, rbs, rws)).fst ∧
              bif !(Sp.readS (Sp.rRead 0 (rdown, rarmed, rafter, racut, rkeep, rbs, rws)).fst).snd then
                bif !(Sp.readS (Sp.rRead 1 (rdown, rarmed, rafter, racut, rkeep, rbs, rws)).fst).snd then R ((0, 0, 0, 0), 0, 290) rdown rarmed rafter racut rkeep rbs rws
                else
                  bif !(Sp.readS (Sp.rRead 0 (rdown, rarmed, rafter, racut, rkeep, rbs, rws)).fst).snd then
                    R ((Sp.readS (Sp.rRead 1 (rdown, rarmed, rafter, racut, rkeep, rbs, rws)).fst).fst, 1, 0) rdown rarmed rafter racut rkeep rbs rws
                  else
                    bif (Sp.readS (Sp.rRead 1 (rdown, rarmed, rafter, racut, rkeep, rbs, rws)).fst).snd then
                      bif
                          decide
                            ((Sp.readS (Sp.rRead 0 (rdown, rarmed, rafter, racut, rkeep, rbs, rws)).fst).fst.fst <
                              (Sp.readS (Sp.rRead 1 (rdown, rarmed, rafter, racut, rkeep, rbs, rws)).fst).fst.fst) then
                        R ((Sp.readS (Sp.rRead 1 (rdown, rarmed, rafter, racut, rkeep, rbs, rws)).fst).fst, 1, 0) rdown rarmed rafter racut rkeep rbs rws
                      else R ((Sp.readS (Sp.rRead 0 (rdown, rarmed, rafter, racut, rkeep, rbs, rws)).fst).fst, 0, 0) rdown rarmed rafter racut rkeep rbs rws
                    else R ((Sp.readS (Sp.rRead 0 (rdown, rarmed, rafter, racut, rkeep, rbs, rws)).fst).fst, 0, 0) rdown rarmed rafter racut rkeep rbs rws
              else
                bif !(Sp.readS (Sp.rRead 0 (rdown, rarmed, rafter, racut, rkeep, rbs, rws)).fst).snd then
                  R ((Sp.readS (Sp.rRead 1 (rdown, rarmed, rafter, racut, rkeep, rbs, rws)).fst).fst, 1, 0) rdown rarmed rafter racut rkeep rbs rws
                else
                  bif (Sp.readS (Sp.rRead 1 (rdown, rarmed, rafter, racut, rkeep, rbs, rws)).fst).snd then
                    bif
                        decide
                          ((Sp.readS (Sp.rRead 0 (rdown, rarmed, rafter, racut, rkeep, rbs, rws)).fst).fst.fst <
                            (Sp.readS (Sp.rRead 1 (rdown, rarmed, rafter, racut, rkeep, rbs, rws)).fst).fst.fst) then
                      R ((Sp.readS (Sp.rRead 1 (rdown, rarmed, rafter, racut, rkeep, rbs, rws)).fst).fst, 1, 0) rdown rarmed rafter racut rkeep rbs rws
                    else R ((Sp.readS (Sp.rRead 0 (rdown, rarmed, rafter, racut, rkeep, rbs, rws)).fst).fst, 0, 0) rdown rarmed rafter racut rkeep rbs rws
                  else R ((Sp.readS (Sp.rRead 0 (rdown, rarmed, rafter, racut, rkeep, rbs, rws)).fst).fst, 0, 0) rdown rarmed rafter racut rkeep rbs rws

def rectoref28_Put.vc (R : Int →
  Bool →
    Bool →
      Int →
        Bool →
          List Int →
            List (List UInt8) →
              List (Int × List UInt8) →
                Prop) (s : Int × Int × Int × Int) (rdown : Bool) (rarmed : Bool) (rafter : Int) (racut : Bool) (rkeep : List Int) (rbs : List Str) (rws : List (Int × Str)) : Prop :=
  Sp.rPre (rdown, rarmed, rafter, racut, rkeep, rbs, rws) ∧
    bif !decide ((Sp.rChoose (rdown, rarmed, rafter, racut, rkeep, rbs, rws)).snd.snd = 0) then
      R (Sp.rChoose (rdown, rarmed, rafter, racut, rkeep, rbs, rws)).snd.snd rdown rarmed rafter racut rkeep rbs rws
    else
      Rg IntKind.i64 ((Sp.rChoose (rdown, rarmed, rafter, racut, rkeep, rbs, rws)).fst.fst + 1) ∧
        bif !Sp.rightS ((Sp.rChoose (rdown, rarmed, rafter, racut, rkeep, rbs, rws)).fst.fst + 1, s.snd) then R 1 rdown rarmed rafter racut rkeep rbs rws
        else
          Rg IntKind.i64 (1 - (Sp.rChoose (rdown, rarmed, rafter, racut, rkeep, rbs, rws)).snd.fst) ∧
            Sp.plainS.pre ((Sp.rChoose (rdown, rarmed, rafter, racut, rkeep, rbs, rws)).fst.fst + 1, s.snd) ∧
              Sp.rWrite.pre (1 - (Sp.rChoose (rdown, rarmed, rafter, racut, rkeep, rbs, rws)).snd.fst)
                  (Sp.plainS ((Sp.rChoose (rdown, rarmed, rafter, racut, rkeep, rbs, rws)).fst.fst + 1, s.snd)) (rdown, rarmed, rafter, racut, rkeep, rbs, rws) ∧
                bif
                    !decide
                        ((Sp.rWrite (1 - (Sp.rChoose (rdown, rarmed, rafter, racut, rkeep, rbs, rws)).snd.fst)
                              (Sp.plainS ((Sp.rChoose (rdown, rarmed, rafter, racut, rkeep, rbs, rws)).fst.fst + 1, s.snd)) (rdown, rarmed, rafter, racut, rkeep, rbs, rws)).snd =
                          0) then
                  R
                    (Sp.rWrite (1 - (Sp.rChoose (rdown, rarmed, rafter, racut, rkeep, rbs, rws)).snd.fst)
                        (Sp.plainS ((Sp.rChoose (rdown, rarmed, rafter, racut, rkeep, rbs, rws)).fst.fst + 1, s.snd)) (rdown, rarmed, rafter, racut, rkeep, rbs, rws)).snd
                    (Sp.rWrite (1 - (Sp.rChoose (rdown, rarmed, rafter, racut, rkeep, rbs, rws)).snd.fst)
                          (Sp.plainS ((Sp.rChoose (rdown, rarmed, rafter, racut, rkeep, rbs, rws)).fst.fst + 1, s.snd)) (rdown, rarmed, rafter, racut, rkeep, rbs, rws)).fst.fst
                    (Sp.rWrite (1 - (Sp.rChoose (rdown, rarmed, rafter, racut, rkeep, rbs, rws)).snd.fst)
                            (Sp.plainS ((Sp.rChoose (rdown, rarmed, rafter, racut, rkeep, rbs, rws)).fst.fst + 1, s.snd)) (rdown, rarmed, rafter, racut, rkeep, rbs, rws)).fst.snd.fst
                    (Sp.rWrite (1 - (Sp.rChoose (rdown, rarmed, rafter, racut, rkeep, rbs, rws)).snd.fst)
                              (Sp.plainS ((Sp.rChoose (rdown, rarmed, rafter, racut, rkeep, rbs, rws)).fst.fst + 1, s.snd)) (rdown, rarmed, rafter, racut, rkeep, rbs, rws)).fst.snd.snd.fst
                    (Sp.rWrite (1 - (Sp.rChoose (rdown, rarmed, rafter, racut, rkeep, rbs, rws)).snd.fst)
                                (Sp.plainS ((Sp.rChoose (rdown, rarmed, rafter, racut, rkeep, rbs, rws)).fst.fst + 1, s.snd))
                                (rdown, rarmed, rafter, racut, rkeep, rbs, rws)).fst.snd.snd.snd.fst
                    (Sp.rWrite (1 - (Sp.rChoose (rdown, rarmed, rafter, racut, rkeep, rbs, rws)).snd.fst)
                                  (Sp.plainS ((Sp.rChoose (rdown, rarmed, rafter, racut, rkeep, rbs, rws)).fst.fst + 1, s.snd))
                                  (rdown, rarmed, rafter, racut, rkeep, rbs, rws)).fst.snd.snd.snd.snd.fst
                    (Sp.rWrite (1 - (Sp.rChoose (rdown, rarmed, rafter, racut, rkeep, rbs, rws)).snd.fst)
                                    (Sp.plainS ((Sp.rChoose (rdown, rarmed, rafter, racut, rkeep, rbs, rws)).fst.fst + 1, s.snd))
                                    (rdown, rarmed, rafter, racut, rkeep, rbs, rws)).fst.snd.snd.snd.snd.snd.fst
                    (Sp.rWrite (1 - (Sp.rChoose (rdown, rarmed, rafter, racut, rkeep, rbs, rws)).snd.fst)
                                    (Sp.plainS ((Sp.rChoose (rdown, rarmed, rafter, racut, rkeep, rbs, rws)).fst.fst + 1, s.snd))
                                    (rdown, rarmed, rafter, racut, rkeep, rbs, rws)).fst.snd.snd.snd.snd.snd.snd
                else
                  Sp.rPre
                      (Sp.rWrite (1 - (Sp.rChoose (rdown, rarmed, rafter, racut, rkeep, rbs, rws)).snd.fst)
                          (Sp.plainS ((Sp.rChoose (rdown, rarmed, rafter, racut, rkeep, rbs, rws)).fst.fst + 1, s.snd)) (rdown, rarmed, rafter, racut, rkeep, rbs, rws)).fst ∧
                    R
                      (Sp.rFlush
                          (Sp.rWrite (1 - (Sp.rChoose (rdown, rarmed, rafter, racut, rkeep, rbs, rws)).snd.fst)
                              (Sp.plainS ((Sp.rChoose (rdown, rarmed, rafter, racut, rkeep, rbs, rws)).fst.fst + 1, s.snd)) (rdown, rarmed, rafter, racut, rkeep, rbs, rws)).fst).snd
                      (Sp.rFlush
                            (Sp.rWrite (1 - (Sp.rChoose (rdown, rarmed, rafter, racut, rkeep, rbs, rws)).snd.fst)
                                (Sp.plainS ((Sp.rChoose (rdown, rarmed, rafter, racut, rkeep, rbs, rws)).fst.fst + 1, s.snd)) (rdown, rarmed, rafter, racut, rkeep, rbs, rws)).fst).fst.fst
                      (Sp.rFlush
                              (Sp.rWrite (1 - (Sp.rChoose (rdown, rarmed, rafter, racut, rkeep, rbs, rws)).snd.fst)
                                  (Sp.plainS ((Sp.rChoose (rdown, rarmed, rafter, racut, rkeep, rbs, rws)).fst.fst + 1, s.snd))
                                  (rdown, rarmed, rafter, racut, rkeep, rbs, rws)).fst).fst.snd.fst
                      (Sp.rFlush
                                (Sp.rWrite (1 - (Sp.rChoose (rdown, rarmed, rafter, racut, rkeep, rbs, rws)).snd.fst)
                                    (Sp.plainS ((Sp.rChoose (rdown, rarmed, rafter, racut, rkeep, rbs, rws)).fst.fst + 1, s.snd))
                                    (rdown, rarmed, rafter, racut, rkeep, rbs, rws)).fst).fst.snd.snd.fst
                      (Sp.rFlush
                                  (Sp.rWrite (1 - (Sp.rChoose (rdown, rarmed, rafter, racut, rkeep, rbs, rws)).snd.fst)
                                      (Sp.plainS ((Sp.rChoose (rdown, rarmed, rafter, racut, rkeep, rbs, rws)).fst.fst + 1, s.snd))
                                      (rdown, rarmed, rafter, racut, rkeep, rbs, rws)).fst).fst.snd.snd.snd.fst
                      (Sp.rFlush
                                    (Sp.rWrite (1 - (Sp.rChoose (rdown, rarmed, rafter, racut, rkeep, rbs, rws)).snd.fst)
                                        (Sp.plainS ((Sp.rChoose (rdown, rarmed, rafter, racut, rkeep, rbs, rws)).fst.fst + 1, s.snd))
                                        (rdown, rarmed, rafter, racut, rkeep, rbs, rws)).fst).fst.snd.snd.snd.snd.fst
                      (Sp.rFlush
                                      (Sp.rWrite (1 - (Sp.rChoose (rdown, rarmed, rafter, racut, rkeep, rbs, rws)).snd.fst)
                                          (Sp.plainS ((Sp.rChoose (rdown, rarmed, rafter, racut, rkeep, rbs, rws)).fst.fst + 1, s.snd))
                                          (rdown, rarmed, rafter, racut, rkeep, rbs, rws)).fst).fst.snd.snd.snd.snd.snd.fst
                      (Sp.rFlush
                                      (Sp.rWrite (1 - (Sp.rChoose (rdown, rarmed, rafter, racut, rkeep, rbs, rws)).snd.fst)
                                          (Sp.plainS ((Sp.rChoose (rdown, rarmed, rafter, racut, rkeep, rbs, rws)).fst.fst + 1, s.snd))
                                          (rdown, rarmed, rafter, racut, rkeep, rbs, rws)).fst).fst.snd.snd.snd.snd.snd.snd

def rectoref28_Format.L0 (R : Int →
  Bool →
    Bool →
      Int →
        Bool →
          List Int →
            List (List UInt8) →
              List (Int × List UInt8) →
                Prop) (zero : List
  UInt8) (rdown : Bool) (rarmed : Bool) (rafter : Int) (racut : Bool) (rkeep : List
  Int) (rbs : List
  (List UInt8)) (rws : List (Int × List UInt8)) (K0 : List UInt8 × Bool × Bool × Int × Bool × List Int × List (List UInt8) × List (Int × List UInt8) × Unit → Prop) : Prop :=
  bif decide ((↑zero.length : Int) < 256) then (↑zero.length : Int) + (↑1 : Int) ≤ 9223372036854775807 ∧ K0 (zero ++ [0], rdown, rarmed, rafter, racut, rkeep, rbs, rws, ())
  else
    Sp.rWrite.pre 1 zero (rdown, rarmed, rafter, racut, rkeep, rbs, rws) ∧
      bif !decide ((Sp.rWrite 1 zero (rdown, rarmed, rafter, racut, rkeep, rbs, rws)).snd = 0) then
        R (Sp.rWrite 1 zero (rdown, rarmed, rafter, racut, rkeep, rbs, rws)).snd (Sp.rWrite 1 zero (rdown, rarmed, rafter, racut, rkeep, rbs, rws)).fst.fst
          (Sp.rWrite 1 zero (rdown, rarmed, rafter, racut, rkeep, rbs, rws)).fst.snd.fst (Sp.rWrite 1 zero (rdown, rarmed, rafter, racut, rkeep, rbs, rws)).fst.snd.snd.fst
          (Sp.rWrite 1 zero (rdown, rarmed, rafter, racut, rkeep, rbs, rws)).fst.snd.snd.snd.fst (Sp.rWrite 1 zero (rdown, rarmed, rafter, racut, rkeep, rbs, rws)).fst.snd.snd.snd.snd.fst
          (Sp.rWrite 1 zero (rdown, rarmed, rafter, racut, rkeep, rbs, rws)).fst.snd.snd.snd.snd.snd.fst
          (Sp.rWrite 1 zero (rdown, rarmed, rafter, racut, rkeep, rbs, rws)).fst.snd.snd.snd.snd.snd.snd
      else
        Sp.rPre (Sp.rWrite 1 zero (rdown, rarmed, rafter, racut, rkeep, rbs, rws)).fst ∧
          R (Sp.rFlush (Sp.rWrite 1 zero (rdown, rarmed, rafter, racut, rkeep, rbs, rws)).fst).snd (Sp.rFlush (Sp.rWrite 1 zero (rdown, rarmed, rafter, racut, rkeep, rbs, rws)).fst).fst.fst
            (Sp.rFlush (Sp.rWrite 1 zero (rdown, rarmed, rafter, racut, rkeep, rbs, rws)).fst).fst.snd.fst
            (Sp.rFlush (Sp.rWrite 1 zero (rdown, rarmed, rafter, racut, rkeep, rbs, rws)).fst).fst.snd.snd.fst
            (Sp.rFlush (Sp.rWrite 1 zero (rdown, rarmed, rafter, racut, rkeep, rbs, rws)).fst).fst.snd.snd.snd.fst
            (Sp.rFlush (Sp.rWrite 1 zero (rdown, rarmed, rafter, racut, rkeep, rbs, rws)).fst).fst.snd.snd.snd.snd.fst
            (Sp.rFlush (Sp.rWrite 1 zero (rdown, rarmed, rafter, racut, rkeep, rbs, rws)).fst).fst.snd.snd.snd.snd.snd.fst
            (Sp.rFlush (Sp.rWrite 1 zero (rdown, rarmed, rafter, racut, rkeep, rbs, rws)).fst).fst.snd.snd.snd.snd.snd.snd
def rectoref28_Format.vc (R : Int →
  Bool →
    Bool →
      Int →
        Bool →
          List Int →
            List (List UInt8) →
              List (Int × List UInt8) → Prop) (rdown : Bool) (rarmed : Bool) (rafter : Int) (racut : Bool) (rkeep : List Int) (rbs : List Str) (rws : List (Int × Str)) : Prop :=
  Sp.plainS.pre (1, 0, 0, 0) ∧
    Sp.rWrite.pre 0 (Sp.plainS (1, 0, 0, 0)) (rdown, rarmed, rafter, racut, rkeep, rbs, rws) ∧
      bif !decide ((Sp.rWrite 0 (Sp.plainS (1, 0, 0, 0)) (rdown, rarmed, rafter, racut, rkeep, rbs, rws)).snd = 0) then
        R (Sp.rWrite 0 (Sp.plainS (1, 0, 0, 0)) (rdown, rarmed, rafter, racut, rkeep, rbs, rws)).snd
          (Sp.rWrite 0 (Sp.plainS (1, 0, 0, 0)) (rdown, rarmed, rafter, racut, rkeep, rbs, rws)).fst.fst
          (Sp.rWrite 0 (Sp.plainS (1, 0, 0, 0)) (rdown, rarmed, rafter, racut, rkeep, rbs, rws)).fst.snd.fst
          (Sp.rWrite 0 (Sp.plainS (1, 0, 0, 0)) (rdown, rarmed, rafter, racut, rkeep, rbs, rws)).fst.snd.snd.fst
          (Sp.rWrite 0 (Sp.plainS (1, 0, 0, 0)) (rdown, rarmed, rafter, racut, rkeep, rbs, rws)).fst.snd.snd.snd.fst
          (Sp.rWrite 0 (Sp.plainS (1, 0, 0, 0)) (rdown, rarmed, rafter, racut, rkeep, rbs, rws)).fst.snd.snd.snd.snd.fst
          (Sp.rWrite 0 (Sp.plainS (1, 0, 0, 0)) (rdown, rarmed, rafter, racut, rkeep, rbs, rws)).fst.snd.snd.snd.snd.snd.fst
          (Sp.rWrite 0 (Sp.plainS (1, 0, 0, 0)) (rdown, rarmed, rafter, racut, rkeep, rbs, rws)).fst.snd.snd.snd.snd.snd.snd
      else
        Lp
          (fun v K =>
            rectoref28_Format.L0 R v.fst v.snd.fst v.snd.snd.fst v.snd.snd.snd.fst v.snd.snd.snd.snd.fst v.snd.snd.snd.snd.snd.fst v.snd.snd.snd.snd.snd.snd.fst
              v.snd.snd.snd.snd.snd.snd.snd.fst K)
          ([], (Sp.rWrite 0 (Sp.plainS (1, 0, 0, 0)) (rdown, rarmed, rafter, racut, rkeep, rbs, rws)).fst.fst,
            (Sp.rWrite 0 (Sp.plainS (1, 0, 0, 0)) (rdown, rarmed, rafter, racut, rkeep, rbs, rws)).fst.snd.fst,
            (Sp.rWrite 0 (Sp.plainS (1, 0, 0, 0)) (rdown, rarmed, rafter, racut, rkeep, rbs, rws)).fst.snd.snd.fst,
            (Sp.rWrite 0 (Sp.plainS (1, 0, 0, 0)) (rdown, rarmed, rafter, racut, rkeep, rbs, rws)).fst.snd.snd.snd.fst,
            (Sp.rWrite 0 (Sp.plainS (1, 0, 0, 0)) (rdown, rarmed, rafter, racut, rkeep, rbs, rws)).fst.snd.snd.snd.snd.fst,
            (Sp.rWrite 0 (Sp.plainS (1, 0, 0, 0)) (rdown, rarmed, rafter, racut, rkeep, rbs, rws)).fst.snd.snd.snd.snd.snd.fst,
            (Sp.rWrite 0 (Sp.plainS (1, 0, 0, 0)) (rdown, rarmed, rafter, racut, rkeep, rbs, rws)).fst.snd.snd.snd.snd.snd.snd, ())

def rectolaw28_fill.L0 (R : List UInt8 → Prop) (b : Int) (t7 : Int) (t8 : Int) (l : List Int) (K0 : Int × Int × Int × List Int × Unit → Prop) : Prop :=
  bif decide (t8 < t7) then Ix t8 l.length ∧ Rg IntKind.i64 (t8 + 1) ∧ K0 (b, t7, t8 + 1, l.set t8.toNat b, ()) else R (bytesOf l)
def rectolaw28_fill.vc (R : List UInt8 → Prop) (b : Int) : Prop :=
  Mk 256 256 1 ∧ Lp (fun v K => rectolaw28_fill.L0 R v.fst v.snd.fst v.snd.snd.fst v.snd.snd.snd.fst K) (b, (↑256 : Int), 0, rep 256 0, ())

def rectolaw28_ref.vc (R : Int × Int × Int × Int → Prop) (s : Int × Int × Int × Int) : Prop :=
  R s

def rectolaw28_two.vc (R : Bool → Prop) : Prop :=
  Sp.dPre9 (false, false, (Sp.dNew 4).snd.snd.fst, false, (Sp.dNew 4).snd.snd.snd.snd) ∧
    Sp.putS.pre (0, 1, 5, 0)
        (false, false, (Sp.formatS (false, false, (Sp.dNew 4).snd.snd.fst, false, (Sp.dNew 4).snd.snd.snd.snd)).fst.snd.snd.fst, false,
          (Sp.formatS (false, false, (Sp.dNew 4).snd.snd.fst, false, (Sp.dNew 4).snd.snd.snd.snd)).fst.snd.snd.snd.snd) ∧
      Sp.dPre
          (false, false,
            (Sp.putS (0, 1, 5, 0)
                      (false, false, (Sp.formatS (false, false, (Sp.dNew 4).snd.snd.fst, false, (Sp.dNew 4).snd.snd.snd.snd)).fst.snd.snd.fst, false,
                        (Sp.formatS (false, false, (Sp.dNew 4).snd.snd.fst, false, (Sp.dNew 4).snd.snd.snd.snd)).fst.snd.snd.snd.snd)).fst.snd.snd.fst,
            false,
            (Sp.putS (0, 1, 5, 0)
                        (false, false, (Sp.formatS (false, false, (Sp.dNew 4).snd.snd.fst, false, (Sp.dNew 4).snd.snd.snd.snd)).fst.snd.snd.fst, false,
                          (Sp.formatS (false, false, (Sp.dNew 4).snd.snd.fst, false, (Sp.dNew 4).snd.snd.snd.snd)).fst.snd.snd.snd.snd)).fst.snd.snd.snd.snd) ∧
        R true

def rectolaw28_long.L0 (R : Bool →
  Prop) (t5 : List
  (Int ×
    Int ×
      (Int × Int × Int × Int) × Int × Bool × List Int)) (t6 : Int) (t7 : Int) (K0 : List (Int × Int × (Int × Int × Int × Int) × Int × Bool × List Int) × Int × Int × Unit → Prop) : Prop :=
  bif decide (t7 < t6) then
    Ix t7 t5.length ∧
      bif decide (40 < t7) then R true
      else bif decide (60 < (↑(List.length (nth t5 t7 (0, 0, (0, 0, 0, 0), 0, false, [])).snd.snd.snd.snd.snd) : Int)) then R true else Rg IntKind.i64 (t7 + 1) ∧ K0 (t5, t6, t7 + 1, ())
  else R false
def rectolaw28_long.vc (R : Bool → Prop) (l : List (Int × Int × (Int × Int × Int × Int) × Int × Bool × List Int)) : Prop :=
  Lp (fun v K => rectolaw28_long.L0 R v.fst v.snd.fst v.snd.snd.fst K) (l, (↑l.length : Int), 0, ())

def rectolaw28_does.vc (R : Bool →
  Bool →
    Bool →
      Int →
        Bool →
          List Int →
            Bool →
              Bool →
                Int →
                  Bool →
                    List Int →
                      List (List (List UInt8)) →
                        List (Int × List (List UInt8)) →
                          List (List UInt8) →
                            List (Int × List UInt8) →
                              Prop) (s : Int ×
  Int ×
    (Int × Int × Int × Int) ×
      Int ×
        Bool ×
          List
            Int) (down : Bool) (armed : Bool) (after : Int) (acut : Bool) (keep : List
  Int) (rdown : Bool) (rarmed : Bool) (rafter : Int) (racut : Bool) (rkeep : List Int) (bs : List (List Str)) (ws : List (Int × List Str)) (rbs : List Str) (rws : List (Int × Str)) : Prop :=
  bif decide (s.fst = 0) then
    bif decide (s.fst = 0) then
      Sp.putS.pre s.snd.snd.fst (down, armed, after, acut, keep, bs, ws) ∧
        Sp.rPut.pre (Sp.refS s.snd.snd.fst) (rdown, rarmed, rafter, racut, rkeep, rbs, rws) ∧
          R (decide ((Sp.putS s.snd.snd.fst (down, armed, after, acut, keep, bs, ws)).snd = (Sp.rPut (Sp.refS s.snd.snd.fst) (rdown, rarmed, rafter, racut, rkeep, rbs, rws)).snd))
            (Sp.putS s.snd.snd.fst (down, armed, after, acut, keep, bs, ws)).fst.fst (Sp.putS s.snd.snd.fst (down, armed, after, acut, keep, bs, ws)).fst.snd.fst
            (Sp.putS s.snd.snd.fst (down, armed, after, acut, keep, bs, ws)).fst.snd.snd.fst (Sp.putS s.snd.snd.fst (down, armed, after, acut, keep, bs, ws)).fst.snd.snd.snd.fst
            (Sp.putS s.snd.snd.fst (down, armed, after, acut, keep, bs, ws)).fst.snd.snd.snd.snd.fst (Sp.rPut (Sp.refS s.snd.snd.fst) (rdown, rarmed, rafter, racut, rkeep, rbs, rws)).fst.fst
            (Sp.rPut (Sp.refS s.snd.snd.fst) (rdown, rarmed, rafter, racut, rkeep, rbs, rws)).fst.snd.fst
            (Sp.rPut (Sp.refS s.snd.snd.fst) (rdown, rarmed, rafter, racut, rkeep, rbs, rws)).fst.snd.snd.fst
            (Sp.rPut (Sp.refS s.snd.snd.fst) (rdown, rarmed, rafter, racut, rkeep, rbs, rws)).fst.snd.snd.snd.fst
            (Sp.rPut (Sp.refS s.snd.snd.fst) (rdown, rarmed, rafter, racut, rkeep, rbs, rws)).fst.snd.snd.snd.snd.fst
            (Sp.putS s.snd.snd.fst (down, armed, after, acut, keep, bs, ws)).fst.snd.snd.snd.snd.snd.fst
            (Sp.putS s.snd.snd.fst (down, armed, after, acut, keep, bs, ws)).fst.snd.snd.snd.snd.snd.snd
            (Sp.rPut (Sp.refS s.snd.snd.fst) (rdown, rarmed, rafter, racut, rkeep, rbs, rws)).fst.snd.snd.snd.snd.snd.fst
            (Sp.rPut (Sp.refS s.snd.snd.fst) (rdown, rarmed, rafter, racut, rkeep, rbs, rws)).fst.snd.snd.snd.snd.snd.snd
    else
      bif decide (s.fst = 3) then
        Sp.dPre9 (down, armed, after, acut, keep, bs, ws) ∧
          Sp.rPre9 (rdown, rarmed, rafter, racut, rkeep, rbs, rws) ∧
            R (decide ((Sp.formatS (down, armed, after, acut, keep, bs, ws)).snd = (Sp.rFormat (rdown, rarmed, rafter, racut, rkeep, rbs, rws)).snd))
              (Sp.formatS (down, armed, after, acut, keep, bs, ws)).fst.fst (Sp.formatS (down, armed, after, acut, keep, bs, ws)).fst.snd.fst
              (Sp.formatS (down, armed, after, acut, keep, bs, ws)).fst.snd.snd.fst (Sp.formatS (down, armed, after, acut, keep, bs, ws)).fst.snd.snd.snd.fst
              (Sp.formatS (down, armed, after, acut, keep, bs, ws)).fst.snd.snd.snd.snd.fst (Sp.rFormat (rdown, rarmed, rafter, racut, rkeep, rbs, rws)).fst.fst
              (Sp.rFormat (rdown, rarmed, rafter, racut, rkeep, rbs, rws)).fst.snd.fst (Sp.rFormat (rdown, rarmed, rafter, racut, rkeep, rbs, rws)).fst.snd.snd.fst
              (Sp.rFormat (rdown, rarmed, rafter, racut, rkeep, rbs, rws)).fst.snd.snd.snd.fst (Sp.rFormat (rdown, rarmed, rafter, racut, rkeep, rbs, rws)).fst.snd.snd.snd.snd.fst
              (Sp.formatS (down, armed, after, acut, keep, bs, ws)).fst.snd.snd.snd.snd.snd.fst (Sp.formatS (down, armed, after, acut, keep, bs, ws)).fst.snd.snd.snd.snd.snd.snd
              (Sp.rFormat (rdown, rarmed, rafter, racut, rkeep, rbs, rws)).fst.snd.snd.snd.snd.snd.fst
              (Sp.rFormat (rdown, rarmed, rafter, racut, rkeep, rbs, rws)).fst.snd.snd.snd.snd.snd.snd
      else
        bif decide (s.fst = 4) then
          Sp.fillB.pre s.snd.snd.snd.fst ∧
            Sp.dWrite.pre s.snd.fst (Sp.fillB s.snd.snd.snd.fst) (down, armed, after, acut, keep, bs, ws) ∧
              Sp.fillB.pre s.snd.snd.snd.fst ∧
                Sp.rWrite.pre s.snd.fst (Sp.fillB s.snd.snd.snd.fst) (rdown, rarmed, rafter, racut, rkeep, rbs, rws) ∧
                  R
                    (decide
                      ((Sp.dWrite s.snd.fst (Sp.fillB s.snd.snd.snd.fst) (down, armed, after, acut, keep, bs, ws)).snd =
                        (Sp.rWrite s.snd.fst (Sp.fillB s.snd.snd.snd.fst) (rdown, rarmed, rafter, racut, rkeep, rbs, rws)).snd))
                    (Sp.dWrite s.snd.fst (Sp.fillB s.snd.snd.snd.fst) (down, armed, after, acut, keep, bs, ws)).fst.fst
                    (Sp.dWrite s.snd.fst (Sp.fillB s.snd.snd.snd.fst) (down, armed, after, acut, keep, bs, ws)).fst.snd.fst
                    (Sp.dWrite s.snd.fst (Sp.fillB s.snd.snd.snd.fst) (down, armed, after, acut, keep, bs, ws)).fst.snd.snd.fst
                    (Sp.dWrite s.snd.fst (Sp.fillB s.snd.snd.snd.fst) (down, armed, after, acut, keep, bs, ws)).fst.snd.snd.snd.fst
                    (Sp.dWrite s.snd.fst (Sp.fillB s.snd.snd.snd.fst) (down, armed, after, acut, keep, bs, ws)).fst.snd.snd.snd.snd.fst
                    (Sp.rWrite s.snd.fst (Sp.fillB s.snd.snd.snd.fst) (rdown, rarmed, rafter, racut, rkeep, rbs, rws)).fst.fst
                    (Sp.rWrite s.snd.fst (Sp.fillB s.snd.snd.snd.fst) (rdown, rarmed, rafter, racut, rkeep, rbs, rws)).fst.snd.fst
                    (Sp.rWrite s.snd.fst (Sp.fillB s.snd.snd.snd.fst) (rdown, rarmed, rafter, racut, rkeep, rbs, rws)).fst.snd.snd.fst
                    (Sp.rWrite s.snd.fst (Sp.fillB s.snd.snd.snd.fst) (rdown, rarmed, rafter, racut, rkeep, rbs, rws)).fst.snd.snd.snd.fst
                    (Sp.rWrite s.snd.fst (Sp.fillB s.snd.snd.snd.fst) (rdown, rarmed, rafter, racut, rkeep, rbs, rws)).fst.snd.snd.snd.snd.fst
                    (Sp.dWrite s.snd.fst (Sp.fillB s.snd.snd.snd.fst) (down, armed, after, acut, keep, bs, ws)).fst.snd.snd.snd.snd.snd.fst
                    (Sp.dWrite s.snd.fst (Sp.fillB s.snd.snd.snd.fst) (down, armed, after, acut, keep, bs, ws)).fst.snd.snd.snd.snd.snd.snd
                    (Sp.rWrite s.snd.fst (Sp.fillB s.snd.snd.snd.fst) (rdown, rarmed, rafter, racut, rkeep, rbs, rws)).fst.snd.snd.snd.snd.snd.fst
                    (Sp.rWrite s.snd.fst (Sp.fillB s.snd.snd.snd.fst) (rdown, rarmed, rafter, racut, rkeep, rbs, rws)).fst.snd.snd.snd.snd.snd.snd
        else
          bif decide (s.fst = 5) then
            Sp.dPre (down, armed, after, acut, keep, bs, ws) ∧
              Sp.rPre (rdown, rarmed, rafter, racut, rkeep, rbs, rws) ∧
                R (decide ((Sp.dFlush (down, armed, after, acut, keep, bs, ws)).snd = (Sp.rFlush (rdown, rarmed, rafter, racut, rkeep, rbs, rws)).snd))
                  (Sp.dFlush (down, armed, after, acut, keep, bs, ws)).fst.fst (Sp.dFlush (down, armed, after, acut, keep, bs, ws)).fst.snd.fst
                  (Sp.dFlush (down, armed, after, acut, keep, bs, ws)).fst.snd.snd.fst (Sp.dFlush (down, armed, after, acut, keep, bs, ws)).fst.snd.snd.snd.fst
                  (Sp.dFlush (down, armed, after, acut, keep, bs, ws)).fst.snd.snd.snd.snd.fst (Sp.rFlush (rdown, rarmed, rafter, racut, rkeep, rbs, rws)).fst.fst
                  (Sp.rFlush (rdown, rarmed, rafter, racut, rkeep, rbs, rws)).fst.snd.fst (Sp.rFlush (rdown, rarmed, rafter, racut, rkeep, rbs, rws)).fst.snd.snd.fst
                  (Sp.rFlush (rdown, rarmed, rafter, racut, rkeep, rbs, rws)).fst.snd.snd.snd.fst (Sp.rFlush (rdown, rarmed, rafter, racut, rkeep, rbs, rws)).fst.snd.snd.snd.snd.fst
                  (Sp.dFlush (down, armed, after, acut, keep, bs, ws)).fst.snd.snd.snd.snd.snd.fst (Sp.dFlush (down, armed, after, acut, keep, bs, ws)).fst.snd.snd.snd.snd.snd.snd
                  (Sp.rFlush (rdown, rarmed, rafter, racut, rkeep, rbs, rws)).fst.snd.snd.snd.snd.snd.fst
                  (Sp.rFlush (rdown, rarmed, rafter, racut, rkeep, rbs, rws)).fst.snd.snd.snd.snd.snd.snd
          else
            bif decide (s.fst = 6) then
              Sp.dFall.pre s.snd.snd.snd.snd.snd (down, armed, after, acut, keep, bs, ws) ∧
                Sp.rFall.pre s.snd.snd.snd.snd.snd (rdown, rarmed, rafter, racut, rkeep, rbs, rws) ∧
                  R
                    (decide
                      ((Sp.dCrash s.snd.snd.snd.snd.snd (down, armed, after, acut, keep, bs, ws)).snd =
                        (Sp.rCrash s.snd.snd.snd.snd.snd (rdown, rarmed, rafter, racut, rkeep, rbs, rws)).snd))
                    (Sp.dCrash s.snd.snd.snd.snd.snd (down, armed, after, acut, keep, bs, ws)).fst.fst (Sp.dCrash s.snd.snd.snd.snd.snd (down, armed, after, acut, keep, bs, ws)).fst.snd.fst
                    (Sp.dCrash s.snd.snd.snd.snd.snd (down, armed, after, acut, keep, bs, ws)).fst.snd.snd.fst
                    (Sp.dCrash s.snd.snd.snd.snd.snd (down, armed, after, acut, keep, bs, ws)).fst.snd.snd.snd.fst
                    (Sp.dCrash s.snd.snd.snd.snd.snd (down, armed, after, acut, keep, bs, ws)).fst.snd.snd.snd.snd.fst
                    (Sp.rCrash s.snd.snd.snd.snd.snd (rdown, rarmed, rafter, racut, rkeep, rbs, rws)).fst.fst
                    (Sp.rCrash s.snd.snd.snd.snd.snd (rdown, rarmed, rafter, racut, rkeep, rbs, rws)).fst.snd.fst
                    (Sp.rCrash s.snd.snd.snd.snd.snd (rdown, rarmed, rafter, racut, rkeep, rbs, rws)).fst.snd.snd.fst
                    (Sp.rCrash s.snd.snd.snd.snd.snd (rdown, rarmed, rafter, racut, rkeep, rbs, rws)).fst.snd.snd.snd.fst
                    (Sp.rCrash s.snd.snd.snd.snd.snd (rdown, rarmed, rafter, racut, rkeep, rbs, rws)).fst.snd.snd.snd.snd.fst
                    (Sp.dCrash s.snd.snd.snd.snd.snd (down, armed, after, acut, keep, bs, ws)).fst.snd.snd.snd.snd.snd.fst
                    (Sp.dCrash s.snd.snd.snd.snd.snd (down, armed, after, acut, keep, bs, ws)).fst.snd.snd.snd.snd.snd.snd
                    (Sp.rCrash s.snd.snd.snd.snd.snd (rdown, rarmed, rafter, racut, rkeep, rbs, rws)).fst.snd.snd.snd.snd.snd.fst
                    (Sp.rCrash s.snd.snd.snd.snd.snd (rdown, rarmed, rafter, racut, rkeep, rbs, rws)).fst.snd.snd.snd.snd.snd.snd
            else
              bif decide (s.fst = 7) then
                Sp.dPre (down, armed, after, acut, keep, bs, ws) ∧
                  Sp.rPre (rdown, rarmed, rafter, racut, rkeep, rbs, rws) ∧
                    R (decide ((Sp.dStart (down, armed, after, acut, keep, bs, ws)).snd = (Sp.rStart (rdown, rarmed, rafter, racut, rkeep, rbs, rws)).snd))
                      (Sp.dStart (down, armed, after, acut, keep, bs, ws)).fst.fst (Sp.dStart (down, armed, after, acut, keep, bs, ws)).fst.snd.fst
                      (Sp.dStart (down, armed, after, acut, keep, bs, ws)).fst.snd.snd.fst (Sp.dStart (down, armed, after, acut, keep, bs, ws)).fst.snd.snd.snd.fst
                      (Sp.dStart (down, armed, after, acut, keep, bs, ws)).fst.snd.snd.snd.snd.fst (Sp.rStart (rdown, rarmed, rafter, racut, rkeep, rbs, rws)).fst.fst
                      (Sp.rStart (rdown, rarmed, rafter, racut, rkeep, rbs, rws)).fst.snd.fst (Sp.rStart (rdown, rarmed, rafter, racut, rkeep, rbs, rws)).fst.snd.snd.fst
                      (Sp.rStart (rdown, rarmed, rafter, racut, rkeep, rbs, rws)).fst.snd.snd.snd.fst (Sp.rStart (rdown, rarmed, rafter, racut, rkeep, rbs, rws)).fst.snd.snd.snd.snd.fst
                      (Sp.dStart (down, armed, after, acut, keep, bs, ws)).fst.snd.snd.snd.snd.snd.fst (Sp.dStart (down, armed, after, acut, keep, bs, ws)).fst.snd.snd.snd.snd.snd.snd
                      (Sp.rStart (rdown, rarmed, rafter, racut, rkeep, rbs, rws)).fst.snd.snd.snd.snd.snd.fst
                      (Sp.rStart (rdown, rarmed, rafter, racut, rkeep, rbs, rws)).fst.snd.snd.snd.snd.snd.snd
              else
                bif decide (s.fst = 8) then
                  Sp.dSet.pre (s.snd.fst, s.snd.snd.snd.snd) (down, armed, after, acut, keep, bs, ws) ∧
                    Sp.rSet.pre (s.snd.fst, s.snd.snd.snd.snd) (rdown, rarmed, rafter, racut, rkeep, rbs, rws) ∧
                      R
                        (decide
                          ((Sp.dSet (s.snd.fst, s.snd.snd.snd.snd) (down, armed, after, acut, keep, bs, ws)).snd =
                            (Sp.rSet (s.snd.fst, s.snd.snd.snd.snd) (rdown, rarmed, rafter, racut, rkeep, rbs, rws)).snd))
                        (Sp.dSet (s.snd.fst, s.snd.snd.snd.snd) (down, armed, after, acut, keep, bs, ws)).fst.fst
                        (Sp.dSet (s.snd.fst, s.snd.snd.snd.snd) (down, armed, after, acut, keep, bs, ws)).fst.snd.fst
                        (Sp.dSet (s.snd.fst, s.snd.snd.snd.snd) (down, armed, after, acut, keep, bs, ws)).fst.snd.snd.fst
                        (Sp.dSet (s.snd.fst, s.snd.snd.snd.snd) (down, armed, after, acut, keep, bs, ws)).fst.snd.snd.snd.fst
                        (Sp.dSet (s.snd.fst, s.snd.snd.snd.snd) (down, armed, after, acut, keep, bs, ws)).fst.snd.snd.snd.snd.fst
                        (Sp.rSet (s.snd.fst, s.snd.snd.snd.snd) (rdown, rarmed, rafter, racut, rkeep, rbs, rws)).fst.fst
                        (Sp.rSet (s.snd.fst, s.snd.snd.snd.snd) (rdown, rarmed, rafter, racut, rkeep, rbs, rws)).fst.snd.fst
                        (Sp.rSet (s.snd.fst, s.snd.snd.snd.snd) (rdown, rarmed, rafter, racut, rkeep, rbs, rws)).fst.snd.snd.fst
                        (Sp.rSet (s.snd.fst, s.snd.snd.snd.snd) (rdown, rarmed, rafter, racut, rkeep, rbs, rws)).fst.snd.snd.snd.fst
                        (Sp.rSet (s.snd.fst, s.snd.snd.snd.snd) (rdown, rarmed, rafter, racut, rkeep, rbs, rws)).fst.snd.snd.snd.snd.fst
                        (Sp.dSet (s.snd.fst, s.snd.snd.snd.snd) (down, armed, after, acut, keep, bs, ws)).fst.snd.snd.snd.snd.snd.fst
                        (Sp.dSet (s.snd.fst, s.snd.snd.snd.snd) (down, armed, after, acut, keep, bs, ws)).fst.snd.snd.snd.snd.snd.snd
                        (Sp.rSet (s.snd.fst, s.snd.snd.snd.snd) (rdown, rarmed, rafter, racut, rkeep, rbs, rws)).fst.snd.snd.snd.snd.snd.fst
                        (Sp.rSet (s.snd.fst, s.snd.snd.snd.snd) (rdown, rarmed, rafter, racut, rkeep, rbs, rws)).fst.snd.snd.snd.snd.snd.snd
                else R true down armed after acut keep rdown rarmed rafter racut rkeep bs ws rbs rws
  else
    bif decide (s.fst = 1) then
      Sp.putS.pre s.snd.snd.fst (down, armed, after, acut, keep, bs, ws) ∧
        Sp.rPut.pre (Sp.refS s.snd.snd.fst) (rdown, rarmed, rafter, racut, rkeep, rbs, rws) ∧
          R (decide ((Sp.putS s.snd.snd.fst (down, armed, after, acut, keep, bs, ws)).snd = (Sp.rPut (Sp.refS s.snd.snd.fst) (rdown, rarmed, rafter, racut, rkeep, rbs, rws)).snd))
            (Sp.putS s.snd.snd.fst (down, armed, after, acut, keep, bs, ws)).fst.fst (Sp.putS s.snd.snd.fst (down, armed, after, acut, keep, bs, ws)).fst.snd.fst
            (Sp.putS s.snd.snd.fst (down, armed, after, acut, keep, bs, ws)).fst.snd.snd.fst (Sp.putS s.snd.snd.fst (down, armed, after, acut, keep, bs, ws)).fst.snd.snd.snd.fst
            (Sp.putS s.snd.snd.fst (down, armed, after, acut, keep, bs, ws)).fst.snd.snd.snd.snd.fst (Sp.rPut (Sp.refS s.snd.snd.fst) (rdown, rarmed, rafter, racut, rkeep, rbs, rws)).fst.fst
            (Sp.rPut (Sp.refS s.snd.snd.fst) (rdown, rarmed, rafter, racut, rkeep, rbs, rws)).fst.snd.fst
            (Sp.rPut (Sp.refS s.snd.snd.fst) (rdown, rarmed, rafter, racut, rkeep, rbs, rws)).fst.snd.snd.fst
            (Sp.rPut (Sp.refS s.snd.snd.fst) (rdown, rarmed, rafter, racut, rkeep, rbs, rws)).fst.snd.snd.snd.fst
            (Sp.rPut (Sp.refS s.snd.snd.fst) (rdown, rarmed, rafter, racut, rkeep, rbs, rws)).fst.snd.snd.snd.snd.fst
            (Sp.putS s.snd.snd.fst (down, armed, after, acut, keep, bs, ws)).fst.snd.snd.snd.snd.snd.fst
            (Sp.putS s.snd.snd.fst (down, armed, after, acut, keep, bs, ws)).fst.snd.snd.snd.snd.snd.snd
            (Sp.rPut (Sp.refS s.snd.snd.fst) (rdown, rarmed, rafter, racut, rkeep, rbs, rws)).fst.snd.snd.snd.snd.snd.fst
            (Sp.rPut (Sp.refS s.snd.snd.fst) (rdown, rarmed, rafter, racut, rkeep, rbs, rws)).fst.snd.snd.snd.snd.snd.snd
    else
      bif decide (s.fst = 3) then
        Sp.dPre9 (down, armed, after, acut, keep, bs, ws) ∧
          Sp.rPre9 (rdown, rarmed, rafter, racut, rkeep, rbs, rws) ∧
            R (decide ((Sp.formatS (down, armed, after, acut, keep, bs, ws)).snd = (Sp.rFormat (rdown, rarmed, rafter, racut, rkeep, rbs, rws)).snd))
              (Sp.formatS (down, armed, after, acut, keep, bs, ws)).fst.fst (Sp.formatS (down, armed, after, acut, keep, bs, ws)).fst.snd.fst
              (Sp.formatS (down, armed, after, acut, keep, bs, ws)).fst.snd.snd.fst (Sp.formatS (down, armed, after, acut, keep, bs, ws)).fst.snd.snd.snd.fst
              (Sp.formatS (down, armed, after, acut, keep, bs, ws)).fst.snd.snd.snd.snd.fst (Sp.rFormat (rdown, rarmed, rafter, racut, rkeep, rbs, rws)).fst.fst
              (Sp.rFormat (rdown, rarmed, rafter, racut, rkeep, rbs, rws)).fst.snd.fst (Sp.rFormat (rdown, rarmed, rafter, racut, rkeep, rbs, rws)).fst.snd.snd.fst
              (Sp.rFormat (rdown, rarmed, rafter, racut, rkeep, rbs, rws)).fst.snd.snd.snd.fst (Sp.rFormat (rdown, rarmed, rafter, racut, rkeep, rbs, rws)).fst.snd.snd.snd.snd.fst
              (Sp.formatS (down, armed, after, acut, keep, bs, ws)).fst.snd.snd.snd.snd.snd.fst (Sp.formatS (down, armed, after, acut, keep, bs, ws)).fst.snd.snd.snd.snd.snd.snd
              (Sp.rFormat (rdown, rarmed, rafter, racut, rkeep, rbs, rws)).fst.snd.snd.snd.snd.snd.fst
              (Sp.rFormat (rdown, rarmed, rafter, racut, rkeep, rbs, rws)).fst.snd.snd.snd.snd.snd.snd
      else
        bif decide (s.fst = 4) then
          Sp.fillB.pre s.snd.snd.snd.fst ∧
            Sp.dWrite.pre s.snd.fst (Sp.fillB s.snd.snd.snd.fst) (down, armed, after, acut, keep, bs, ws) ∧
              Sp.fillB.pre s.snd.snd.snd.fst ∧
                Sp.rWrite.pre s.snd.fst (Sp.fillB s.snd.snd.snd.fst) (rdown, rarmed, rafter, racut, rkeep, rbs, rws) ∧
                  R
                    (decide
                      ((Sp.dWrite s.snd.fst (Sp.fillB s.snd.snd.snd.fst) (down, armed, after, acut, keep, bs, ws)).snd =
                        (Sp.rWrite s.snd.fst (Sp.fillB s.snd.snd.snd.fst) (rdown, rarmed, rafter, racut, rkeep, rbs, rws)).snd))
                    (Sp.dWrite s.snd.fst (Sp.fillB s.snd.snd.snd.fst) (down, armed, after, acut, keep, bs, ws)).fst.fst
                    (Sp.dWrite s.snd.fst (Sp.fillB s.snd.snd.snd.fst) (down, armed, after, acut, keep, bs, ws)).fst.snd.fst
                    (Sp.dWrite s.snd.fst (Sp.fillB s.snd.snd.snd.fst) (down, armed, after, acut, keep, bs, ws)).fst.snd.snd.fst
                    (Sp.dWrite s.snd.fst (Sp.fillB s.snd.snd.snd.fst) (down, armed, after, acut, keep, bs, ws)).fst.snd.snd.snd.fst
                    (Sp.dWrite s.snd.fst (Sp.fillB s.snd.snd.snd.fst) (down, armed, after, acut, keep, bs, ws)).fst.snd.snd.snd.snd.fst
                    (Sp.rWrite s.snd.fst (Sp.fillB s.snd.snd.snd.fst) (rdown, rarmed, rafter, racut, rkeep, rbs, rws)).fst.fst
                    (Sp.rWrite s.snd.fst (Sp.fillB s.snd.snd.snd.fst) (rdown, rarmed, rafter, racut, rkeep, rbs, rws)).fst.snd.fst
                    (Sp.rWrite s.snd.fst (Sp.fillB s.snd.snd.snd.fst) (rdown, rarmed, rafter, racut, rkeep, rbs, rws)).fst.snd.snd.fst
                    (Sp.rWrite s.snd.fst (Sp.fillB s.snd.snd.snd.fst) (rdown, rarmed, rafter, racut, rkeep, rbs, rws)).fst.snd.snd.snd.fst
                    (Sp.rWrite s.snd.fst (Sp.fillB s.snd.snd.snd.fst) (rdown, rarmed, rafter, racut, rkeep, rbs, rws)).fst.snd.snd.snd.snd.fst
                    (Sp.dWrite s.snd.fst (Sp.fillB s.snd.snd.snd.fst) (down, armed, after, acut, keep, bs, ws)).fst.snd.snd.snd.snd.snd.fst
                    (Sp.dWrite s.snd.fst (Sp.fillB s.snd.snd.snd.fst) (down, armed, after, acut, keep, bs, ws)).fst.snd.snd.snd.snd.snd.snd
                    (Sp.rWrite s.snd.fst (Sp.fillB s.snd.snd.snd.fst) (rdown, rarmed, rafter, racut, rkeep, rbs, rws)).fst.snd.snd.snd.snd.snd.fst
                    (Sp.rWrite s.snd.fst (Sp.fillB s.snd.snd.snd.fst) (rdown, rarmed, rafter, racut, rkeep, rbs, rws)).fst.snd.snd.snd.snd.snd.snd
        else
          bif decide (s.fst = 5) then
            Sp.dPre (down, armed, after, acut, keep, bs, ws) ∧
              Sp.rPre (rdown, rarmed, rafter, racut, rkeep, rbs, rws) ∧
                R (decide ((Sp.dFlush (down, armed, after, acut, keep, bs, ws)).snd = (Sp.rFlush (rdown, rarmed, rafter, racut, rkeep, rbs, rws)).snd))
                  (Sp.dFlush (down, armed, after, acut, keep, bs, ws)).fst.fst (Sp.dFlush (down, armed, after, acut, keep, bs, ws)).fst.snd.fst
                  (Sp.dFlush (down, armed, after, acut, keep, bs, ws)).fst.snd.snd.fst (Sp.dFlush (down, armed, after, acut, keep, bs, ws)).fst.snd.snd.snd.fst
                  (Sp.dFlush (down, armed, after, acut, keep, bs, ws)).fst.snd.snd.snd.snd.fst (Sp.rFlush (rdown, rarmed, rafter, racut, rkeep, rbs, rws)).fst.fst
                  (Sp.rFlush (rdown, rarmed, rafter, racut, rkeep, rbs, rws)).fst.snd.fst (Sp.rFlush (rdown, rarmed, rafter, racut, rkeep, rbs, rws)).fst.snd.snd.fst
                  (Sp.rFlush (rdown, rarmed, rafter, racut, rkeep, rbs, rws)).fst.snd.snd.snd.fst (Sp.rFlush (rdown, rarmed, rafter, racut, rkeep, rbs, rws)).fst.snd.snd.snd.snd.fst
                  (Sp.dFlush (down, armed, after, acut, keep, bs, ws)).fst.snd.snd.snd.snd.snd.fst (Sp.dFlush (down, armed, after, acut, keep, bs, ws)).fst.snd.snd.snd.snd.snd.snd
                  (Sp.rFlush (rdown, rarmed, rafter, racut, rkeep, rbs, rws)).fst.snd.snd.snd.snd.snd.fst
                  (Sp.rFlush (rdown, rarmed, rafter, racut, rkeep, rbs, rws)).fst.snd.snd.snd.snd.snd.snd
          else
            bif decide (s.fst = 6) then
              Sp.dFall.pre s.snd.snd.snd.snd.snd (down, armed, after, acut, keep, bs, ws) ∧
                Sp.rFall.pre s.snd.snd.snd.snd.snd (rdown, rarmed, rafter, racut, rkeep, rbs, rws) ∧
                  R
                    (decide
                      ((Sp.dCrash s.snd.snd.snd.snd.snd (down, armed, after, acut, keep, bs, ws)).snd =
                        (Sp.rCrash s.snd.snd.snd.snd.snd (rdown, rarmed, rafter, racut, rkeep, rbs, rws)).snd))
                    (Sp.dCrash s.snd.snd.snd.snd.snd (down, armed, after, acut, keep, bs, ws)).fst.fst (Sp.dCrash s.snd.snd.snd.snd.snd (down, armed, after, acut, keep, bs, ws)).fst.snd.fst
                    (Sp.dCrash s.snd.snd.snd.snd.snd (down, armed, after, acut, keep, bs, ws)).fst.snd.snd.fst
                    (Sp.dCrash s.snd.snd.snd.snd.snd (down, armed, after, acut, keep, bs, ws)).fst.snd.snd.snd.fst
                    (Sp.dCrash s.snd.snd.snd.snd.snd (down, armed, after, acut, keep, bs, ws)).fst.snd.snd.snd.snd.fst
                    (Sp.rCrash s.snd.snd.snd.snd.snd (rdown, rarmed, rafter, racut, rkeep, rbs, rws)).fst.fst
                    (Sp.rCrash s.snd.snd.snd.snd.snd (rdown, rarmed, rafter, racut, rkeep, rbs, rws)).fst.snd.fst
                    (Sp.rCrash s.snd.snd.snd.snd.snd (rdown, rarmed, rafter, racut, rkeep, rbs, rws)).fst.snd.snd.fst
                    (Sp.rCrash s.snd.snd.snd.snd.snd (rdown, rarmed, rafter, racut, rkeep, rbs, rws)).fst.snd.snd.snd.fst
                    (Sp.rCrash s.snd.snd.snd.snd.snd (rdown, rarmed, rafter, racut, rkeep, rbs, rws)).fst.snd.snd.snd.snd.fst
                    (Sp.dCrash s.snd.snd.snd.snd.snd (down, armed, after, acut, keep, bs, ws)).fst.snd.snd.snd.snd.snd.fst
                    (Sp.dCrash s.snd.snd.snd.snd.snd (down, armed, after, acut, keep, bs, ws)).fst.snd.snd.snd.snd.snd.snd
                    (Sp.rCrash s.snd.snd.snd.snd.snd (rdown, rarmed, rafter, racut, rkeep, rbs, rws)).fst.snd.snd.snd.snd.snd.fst
                    (Sp.rCrash s.snd.snd.snd.snd.snd (rdown, rarmed, rafter, racut, rkeep, rbs, rws)).fst.snd.snd.snd.snd.snd.snd
            else
              bif decide (s.fst = 7) then
                Sp.dPre (down, armed, after, acut, keep, bs, ws) ∧
                  Sp.rPre (rdown, rarmed, rafter, racut, rkeep, rbs, rws) ∧
                    R (decide ((Sp.dStart (down, armed, after, acut, keep, bs, ws)).snd = (Sp.rStart (rdown, rarmed, rafter, racut, rkeep, rbs, rws)).snd))
                      (Sp.dStart (down, armed, after, acut, keep, bs, ws)).fst.fst (Sp.dStart (down, armed, after, acut, keep, bs, ws)).fst.snd.fst
                      (Sp.dStart (down, armed, after, acut, keep, bs, ws)).fst.snd.snd.fst (Sp.dStart (down, armed, after, acut, keep, bs, ws)).fst.snd.snd.snd.fst
                      (Sp.dStart (down, armed, after, acut, keep, bs, ws)).fst.snd.snd.snd.snd.fst (Sp.rStart (rdown, rarmed, rafter, racut, rkeep, rbs, rws)).fst.fst
                      (Sp.rStart (rdown, rarmed, rafter, racut, rkeep, rbs, rws)).fst.snd.fst (Sp.rStart (rdown, rarmed, rafter, racut, rkeep, rbs, rws)).fst.snd.snd.fst
                      (Sp.rStart (rdown, rarmed, rafter, racut, rkeep, rbs, rws)).fst.snd.snd.snd.fst (Sp.rStart (rdown, rarmed, rafter, racut, rkeep, rbs, rws)).fst.snd.snd.snd.snd.fst
                      (Sp.dStart (down, armed, after, acut, keep, bs, ws)).fst.snd.snd.snd.snd.snd.fst (Sp.dStart (down, armed, after, acut, keep, bs, ws)).fst.snd.snd.snd.snd.snd.snd
                      (Sp.rStart (rdown, rarmed, rafter, racut, rkeep, rbs, rws)).fst.snd.snd.snd.snd.snd.fst
                      (Sp.rStart (rdown, rarmed, rafter, racut, rkeep, rbs, rws)).fst.snd.snd.snd.snd.snd.snd
              else
                bif decide (s.fst = 8) then
                  Sp.dSet.pre (s.snd.fst, s.snd.snd.snd.snd) (down, armed, after, acut, keep, bs, ws) ∧
                    Sp.rSet.pre (s.snd.fst, s.snd.snd.snd.snd) (rdown, rarmed, rafter, racut, rkeep, rbs, rws) ∧
                      R
                        (decide
                          ((Sp.dSet (s.snd.fst, s.snd.snd.snd.snd) (down, armed, after, acut, keep, bs, ws)).snd =
                            (Sp.rSet (s.snd.fst, s.snd.snd.snd.snd) (rdown, rarmed, rafter, racut, rkeep, rbs, rws)).snd))
                        (Sp.dSet (s.snd.fst, s.snd.snd.snd.snd) (down, armed, after, acut, keep, bs, ws)).fst.fst
                        (Sp.dSet (s.snd.fst, s.snd.snd.snd.snd) (down, armed, after, acut, keep, bs, ws)).fst.snd.fst
                        (Sp.dSet (s.snd.fst, s.snd.snd.snd.snd) (down, armed, after, acut, keep, bs, ws)).fst.snd.snd.fst
                        (Sp.dSet (s.snd.fst, s.snd.snd.snd.snd) (down, armed, after, acut, keep, bs, ws)).fst.snd.snd.snd.fst
                        (Sp.dSet (s.snd.fst, s.snd.snd.snd.snd) (down, armed, after, acut, keep, bs, ws)).fst.snd.snd.snd.snd.fst
                        (Sp.rSet (s.snd.fst, s.snd.snd.snd.snd) (rdown, rarmed, rafter, racut, rkeep, rbs, rws)).fst.fst
                        (Sp.rSet (s.snd.fst, s.snd.snd.snd.snd) (rdown, rarmed, rafter, racut, rkeep, rbs, rws)).fst.snd.fst
                        (Sp.rSet (s.snd.fst, s.snd.snd.snd.snd) (rdown, rarmed, rafter, racut, rkeep, rbs, rws)).fst.snd.snd.fst
                        (Sp.rSet (s.snd.fst, s.snd.snd.snd.snd) (rdown, rarmed, rafter, racut, rkeep, rbs, rws)).fst.snd.snd.snd.fst
                        (Sp.rSet (s.snd.fst, s.snd.snd.snd.snd) (rdown, rarmed, rafter, racut, rkeep, rbs, rws)).fst.snd.snd.snd.snd.fst
                        (Sp.dSet (s.snd.fst, s.snd.snd.snd.snd) (down, armed, after, acut, keep, bs, ws)).fst.snd.snd.snd.snd.snd.fst
                        (Sp.dSet (s.snd.fst, s.snd.snd.snd.snd) (down, armed, after, acut, keep, bs, ws)).fst.snd.snd.snd.snd.snd.snd
                        (Sp.rSet (s.snd.fst, s.snd.snd.snd.snd) (rdown, rarmed, rafter, racut, rkeep, rbs, rws)).fst.snd.snd.snd.snd.snd.fst
                        (Sp.rSet (s.snd.fst, s.snd.snd.snd.snd) (rdown, rarmed, rafter, racut, rkeep, rbs, rws)).fst.snd.snd.snd.snd.snd.snd
                else R true down armed after acut keep rdown rarmed rafter racut rkeep bs ws rbs rws

def rectolaw28_SlotBack.L0 (R : Bool →
  Prop) (behind : Int) (i : Int) (s_Number : Int) (s_Region : Int) (s_Bytes : Int) (s_Records : Int) (l : List
  Int) (K0 : Int × Int × Int × Int × Int × Int × List Int × Unit → Prop) : Prop :=
  bif decide (i < 256) then
    Ix i l.length ∧
      bif !decide (nth l i 0 = 0) then R false else Ix i l.length ∧ Rg IntKind.i64 (i + 1) ∧ K0 (behind, i + 1, s_Number, s_Region, s_Bytes, s_Records, l.set i.toNat behind, ())
  else
    Sp.readS.pre (bytesOf l) ∧
      bif (Sp.readS (bytesOf l)).snd then
        bif
            eqI (Sp.readS (bytesOf l)).fst.fst s_Number &&
              (eqI (Sp.readS (bytesOf l)).fst.snd.fst s_Region && (eqI (Sp.readS (bytesOf l)).fst.snd.snd.fst s_Bytes && eqI (Sp.readS (bytesOf l)).fst.snd.snd.snd s_Records)) then
          R Sp.tt
        else R false
      else R false
def rectolaw28_SlotBack.vc (R : Bool → Prop) (s : Int × Int × Int × Int) (behind : Int) : Prop :=
  bif !decide ((Sp.blockS s).snd = 0) then bif decide ((Sp.blockS s).fst = []) then R Sp.tt else R false
  else
    bif !decide ((↑(List.length (Sp.blockS s).fst) : Int) = 256) then R false
    else
      Gr 0 (List.length (Sp.blockS s).fst) 1 ∧
        Lp (fun v K => rectolaw28_SlotBack.L0 R v.fst v.snd.fst v.snd.snd.fst v.snd.snd.snd.fst v.snd.snd.snd.snd.fst v.snd.snd.snd.snd.snd.fst v.snd.snd.snd.snd.snd.snd.fst K)
          (behind, 64, s.fst, s.snd.fst, s.snd.snd.fst, s.snd.snd.snd, ints (Sp.blockS s).fst, ())

def rectolaw28_SlotSteps.L0 (R : Bool →
  Prop) (t36 : List
  (Int ×
    Int ×
      (Int × Int × Int × Int) ×
        Int ×
          Bool ×
            List
              Int)) (t37 : Int) (t38 : Int) (d_down : Bool) (d_armed : Bool) (d_after : Int) (d_acut : Bool) (d_keep : List
  Int) (d_bs : List
  (List
    (List
      UInt8))) (d_ws : List
  (Int ×
    List
      (List
        UInt8))) (w_rdown : Bool) (w_rarmed : Bool) (w_rafter : Int) (w_racut : Bool) (w_rkeep : List
  Int) (w_rbs : List
  (List
    UInt8)) (w_rws : List
  (Int ×
    List
      UInt8)) (K0 : List (Int × Int × (Int × Int × Int × Int) × Int × Bool × List Int) ×
    Int ×
      Int ×
        Bool ×
          Bool ×
            Int × Bool × List Int × List (List (List UInt8)) × List (Int × List (List UInt8)) × Bool × Bool × Int × Bool × List Int × List (List UInt8) × List (Int × List UInt8) × Unit →
  Prop) : Prop :=
  bif decide (t38 < t37) then
    Ix t38 t36.length ∧
      Sp.does8.pre (nth t36 t38 (0, 0, (0, 0, 0, 0), 0, false, [])) (d_down, d_armed, d_after, d_acut, d_keep, d_bs, d_ws) (w_rdown, w_rarmed, w_rafter, w_racut, w_rkeep, w_rbs, w_rws) ∧
        bif
            !Sp.does8 (nth t36 t38 (0, 0, (0, 0, 0, 0), 0, false, [])) (d_down, d_armed, d_after, d_acut, d_keep, d_bs, d_ws)
                (w_rdown, w_rarmed, w_rafter, w_racut, w_rkeep, w_rbs, w_rws) then
          R false
        else
          Sp.dPre (Sp.sStep (nth t36 t38 (0, 0, (0, 0, 0, 0), 0, false, [])) (d_down, d_armed, d_after, d_acut, d_keep, d_bs, d_ws)).fst ∧
            Sp.rPre (Sp.tStep (nth t36 t38 (0, 0, (0, 0, 0, 0), 0, false, [])) (w_rdown, w_rarmed, w_rafter, w_racut, w_rkeep, w_rbs, w_rws)).fst ∧
              bif
                  !decide
                      ((Sp.chooseS (Sp.sStep (nth t36 t38 (0, 0, (0, 0, 0, 0), 0, false, [])) (d_down, d_armed, d_after, d_acut, d_keep, d_bs, d_ws)).fst).snd.snd =
                        (Sp.rChoose (Sp.tStep (nth t36 t38 (0, 0, (0, 0, 0, 0), 0, false, [])) (w_rdown, w_rarmed, w_rafter, w_racut, w_rkeep, w_rbs, w_rws)).fst).snd.snd) then
                R false
              else
                bif
                    !(eqI (Sp.refS (Sp.chooseS (Sp.sStep (nth t36 t38 (0, 0, (0, 0, 0, 0), 0, false, [])) (d_down, d_armed, d_after, d_acut, d_keep, d_bs, d_ws)).fst).fst).fst
                          (Sp.rChoose (Sp.tStep (nth t36 t38 (0, 0, (0, 0, 0, 0), 0, false, [])) (w_rdown, w_rarmed, w_rafter, w_racut, w_rkeep, w_rbs, w_rws)).fst).fst.fst &&
                        (eqI (Sp.refS (Sp.chooseS (Sp.sStep (nth t36 t38 (0, 0, (0, 0, 0, 0), 0, false, [])) (d_down, d_armed, d_after, d_acut, d_keep, d_bs, d_ws)).fst).fst).snd.fst
                            (Sp.rChoose (Sp.tStep (nth t36 t38 (0, 0, (0, 0, 0, 0), 0, false, [])) (w_rdown, w_rarmed, w_rafter, w_racut, w_rkeep, w_rbs, w_rws)).fst).fst.snd.fst &&
                          (eqI (Sp.refS (Sp.chooseS (Sp.sStep (nth t36 t38 (0, 0, (0, 0, 0, 0), 0, false, [])) (d_down, d_armed, d_after, d_acut, d_keep, d_bs, d_ws)).fst).fst).snd.snd.fst
                              (Sp.rChoose (Sp.tStep (nth t36 t38 (0, 0, (0, 0, 0, 0), 0, false, [])) (w_rdown, w_rarmed, w_rafter, w_racut, w_rkeep, w_rbs, w_rws)).fst).fst.snd.snd.fst &&
                            eqI (Sp.refS (Sp.chooseS (Sp.sStep (nth t36 t38 (0, 0, (0, 0, 0, 0), 0, false, [])) (d_down, d_armed, d_after, d_acut, d_keep, d_bs, d_ws)).fst).fst).snd.snd.snd
                              (Sp.rChoose
                                        (Sp.tStep (nth t36 t38 (0, 0, (0, 0, 0, 0), 0, false, [])) (w_rdown, w_rarmed, w_rafter, w_racut, w_rkeep, w_rbs, w_rws)).fst).fst.snd.snd.snd))) then
                  R false
                else
                  bif
                      !decide
                          ((Sp.chooseS (Sp.sStep (nth t36 t38 (0, 0, (0, 0, 0, 0), 0, false, [])) (d_down, d_armed, d_after, d_acut, d_keep, d_bs, d_ws)).fst).snd.fst =
                            (Sp.rChoose (Sp.tStep (nth t36 t38 (0, 0, (0, 0, 0, 0), 0, false, [])) (w_rdown, w_rarmed, w_rafter, w_racut, w_rkeep, w_rbs, w_rws)).fst).snd.fst) then
                    R false
                  else
                    Rg IntKind.i64 (t38 + 1) ∧
                      K0
                        (t36, t37, t38 + 1, (Sp.sStep (nth t36 t38 (0, 0, (0, 0, 0, 0), 0, false, [])) (d_down, d_armed, d_after, d_acut, d_keep, d_bs, d_ws)).fst.fst,
                          (Sp.sStep (nth t36 t38 (0, 0, (0, 0, 0, 0), 0, false, [])) (d_down, d_armed, d_after, d_acut, d_keep, d_bs, d_ws)).fst.snd.fst,
                          (Sp.sStep (nth t36 t38 (0, 0, (0, 0, 0, 0), 0, false, [])) (d_down, d_armed, d_after, d_acut, d_keep, d_bs, d_ws)).fst.snd.snd.fst,
                          (Sp.sStep (nth t36 t38 (0, 0, (0, 0, 0, 0), 0, false, [])) (d_down, d_armed, d_after, d_acut, d_keep, d_bs, d_ws)).fst.snd.snd.snd.fst,
                          (Sp.sStep (nth t36 t38 (0, 0, (0, 0, 0, 0), 0, false, [])) (d_down, d_armed, d_after, d_acut, d_keep, d_bs, d_ws)).fst.snd.snd.snd.snd.fst,
                          (Sp.sStep (nth t36 t38 (0, 0, (0, 0, 0, 0), 0, false, [])) (d_down, d_armed, d_after, d_acut, d_keep, d_bs, d_ws)).fst.snd.snd.snd.snd.snd.fst,
                          (Sp.sStep (nth t36 t38 (0, 0, (0, 0, 0, 0), 0, false, [])) (d_down, d_armed, d_after, d_acut, d_keep, d_bs, d_ws)).fst.snd.snd.snd.snd.snd.snd,
                          (Sp.tStep (nth t36 t38 (0, 0, (0, 0, 0, 0), 0, false, [])) (w_rdown, w_rarmed, w_rafter, w_racut, w_rkeep, w_rbs, w_rws)).fst.fst,
                          (Sp.tStep (nth t36 t38 (0, 0, (0, 0, 0, 0), 0, false, [])) (w_rdown, w_rarmed, w_rafter, w_racut, w_rkeep, w_rbs, w_rws)).fst.snd.fst,
                          (Sp.tStep (nth t36 t38 (0, 0, (0, 0, 0, 0), 0, false, [])) (w_rdown, w_rarmed, w_rafter, w_racut, w_rkeep, w_rbs, w_rws)).fst.snd.snd.fst,
                          (Sp.tStep (nth t36 t38 (0, 0, (0, 0, 0, 0), 0, false, [])) (w_rdown, w_rarmed, w_rafter, w_racut, w_rkeep, w_rbs, w_rws)).fst.snd.snd.snd.fst,
                          (Sp.tStep (nth t36 t38 (0, 0, (0, 0, 0, 0), 0, false, [])) (w_rdown, w_rarmed, w_rafter, w_racut, w_rkeep, w_rbs, w_rws)).fst.snd.snd.snd.snd.fst,
                          (Sp.tStep (nth t36 t38 (0, 0, (0, 0, 0, 0), 0, false, [])) (w_rdown, w_rarmed, w_rafter, w_racut, w_rkeep, w_rbs, w_rws)).fst.snd.snd.snd.snd.snd.fst,
                          (Sp.tStep (nth t36 t38 (0, 0, (0, 0, 0, 0), 0, false, [])) (w_rdown, w_rarmed, w_rafter, w_racut, w_rkeep, w_rbs, w_rws)).fst.snd.snd.snd.snd.snd.snd, ())
  else R Sp.tt
def rectolaw28_SlotSteps.vc (R : Bool → Prop) (l : List (Int × Int × (Int × Int × Int × Int) × Int × Bool × List Int)) : Prop :=
  Sp.longS8.pre l ∧
    bif Sp.longS8 l then R Sp.tt
    else
      Sp.rNew.pre 4 ∧
        Lp
          (fun v K =>
            rectolaw28_SlotSteps.L0 R v.fst v.snd.fst v.snd.snd.fst v.snd.snd.snd.fst v.snd.snd.snd.snd.fst v.snd.snd.snd.snd.snd.fst v.snd.snd.snd.snd.snd.snd.fst
              v.snd.snd.snd.snd.snd.snd.snd.fst v.snd.snd.snd.snd.snd.snd.snd.snd.fst v.snd.snd.snd.snd.snd.snd.snd.snd.snd.fst v.snd.snd.snd.snd.snd.snd.snd.snd.snd.snd.fst
              v.snd.snd.snd.snd.snd.snd.snd.snd.snd.snd.snd.fst v.snd.snd.snd.snd.snd.snd.snd.snd.snd.snd.snd.snd.fst v.snd.snd.snd.snd.snd.snd.snd.snd.snd.snd.snd.snd.snd.fst
              v.snd.snd.snd.snd.snd.snd.snd.snd.snd.snd.snd.snd.snd.snd.fst v.snd.snd.snd.snd.snd.snd.snd.snd.snd.snd.snd.snd.snd.snd.snd.fst
              v.snd.snd.snd.snd.snd.snd.snd.snd.snd.snd.snd.snd.snd.snd.snd.snd.fst K)
          (l, (↑l.length : Int), 0, false, false, (Sp.dNew 4).snd.snd.fst, false, (Sp.dNew 4).snd.snd.snd.snd.fst, (Sp.dNew 4).snd.snd.snd.snd.snd.fst, (Sp.dNew 4).snd.snd.snd.snd.snd.snd,
            false, false, (Sp.rNew 4).snd.snd.fst, false, (Sp.rNew 4).snd.snd.snd.snd.fst, (Sp.rNew 4).snd.snd.snd.snd.snd.fst, (Sp.rNew 4).snd.snd.snd.snd.snd.snd, ())

def rectolaw28_SlotLasts.L0 (R : Bool →
  Prop) (o : List
  (Int ×
    Bool ×
      List
        Int)) (A : List
  Int) (t58 : List
  (Int ×
    Int ×
      Int ×
        Int)) (t59 : Int) (t60 : Int) (t7_down : Bool) (t7_armed : Bool) (t7_after : Int) (t7_acut : Bool) (t7_keep : List
  Int) (t7_bs : List
  (List
    (List
      UInt8))) (t7_ws : List
  (Int ×
    List
      (List
        UInt8))) (K0 : List (Int × Bool × List Int) ×
    List Int × List (Int × Int × Int × Int) × Int × Int × Bool × Bool × Int × Bool × List Int × List (List (List UInt8)) × List (Int × List (List UInt8)) × Unit →
  Prop) : Prop :=
  bif decide (t60 < t59) then
    Ix t60 t58.length ∧
      Sp.dPre (t7_down, t7_armed, t7_after, t7_acut, t7_keep, t7_bs, t7_ws) ∧
        bif !decide ((Sp.chooseS (t7_down, t7_armed, t7_after, t7_acut, t7_keep, t7_bs, t7_ws)).snd.snd = 0) then R false
        else
          bif decide (t60 < (↑o.length : Int)) then
            Ix t60 o.length ∧
              bif decide (60 < (↑(List.length (nth o t60 (0, false, [])).snd.snd) : Int)) then R Sp.tt
              else
                Ix t60 o.length ∧
                  Sp.dSet.pre (nth o t60 (0, false, [])) (t7_down, t7_armed, t7_after, t7_acut, t7_keep, t7_bs, t7_ws) ∧
                    Sp.putS.pre (nth t58 t60 (0, 0, 0, 0)) (Sp.dSet (nth o t60 (0, false, [])) (t7_down, t7_armed, t7_after, t7_acut, t7_keep, t7_bs, t7_ws)).fst ∧
                      Sp.dPre (Sp.putS (nth t58 t60 (0, 0, 0, 0)) (Sp.dSet (nth o t60 (0, false, [])) (t7_down, t7_armed, t7_after, t7_acut, t7_keep, t7_bs, t7_ws)).fst).fst ∧
                        bif !Sp.upD (Sp.putS (nth t58 t60 (0, 0, 0, 0)) (Sp.dSet (nth o t60 (0, false, [])) (t7_down, t7_armed, t7_after, t7_acut, t7_keep, t7_bs, t7_ws)).fst).fst then
                          Sp.dPre (Sp.putS (nth t58 t60 (0, 0, 0, 0)) (Sp.dSet (nth o t60 (0, false, [])) (t7_down, t7_armed, t7_after, t7_acut, t7_keep, t7_bs, t7_ws)).fst).fst ∧
                            Sp.dFall.pre A
                                (Sp.dStart
                                    (Sp.putS (nth t58 t60 (0, 0, 0, 0)) (Sp.dSet (nth o t60 (0, false, [])) (t7_down, t7_armed, t7_after, t7_acut, t7_keep, t7_bs, t7_ws)).fst).fst).fst ∧
                              bif
                                  !decide
                                      ((Sp.dCrash A
                                            (Sp.dStart
                                                (Sp.putS (nth t58 t60 (0, 0, 0, 0))
                                                    (Sp.dSet (nth o t60 (0, false, [])) (t7_down, t7_armed, t7_after, t7_acut, t7_keep, t7_bs, t7_ws)).fst).fst).fst).snd =
                                        0) then
                                R false
                              else
                                Sp.dPre
                                    (Sp.dCrash A
                                        (Sp.dStart
                                            (Sp.putS (nth t58 t60 (0, 0, 0, 0))
                                                (Sp.dSet (nth o t60 (0, false, [])) (t7_down, t7_armed, t7_after, t7_acut, t7_keep, t7_bs, t7_ws)).fst).fst).fst).fst ∧
                                  bif
                                      !decide
                                          ((Sp.dStart
                                                (Sp.dCrash A
                                                    (Sp.dStart
                                                        (Sp.putS (nth t58 t60 (0, 0, 0, 0))
                                                            (Sp.dSet (nth o t60 (0, false, [])) (t7_down, t7_armed, t7_after, t7_acut, t7_keep, t7_bs, t7_ws)).fst).fst).fst).fst).snd =
                                            0) then
                                    R false
                                  else
                                    Sp.dPre
                                        (Sp.dStart
                                            (Sp.dCrash A
                                                (Sp.dStart
                                                    (Sp.putS (nth t58 t60 (0, 0, 0, 0))
                                                        (Sp.dSet (nth o t60 (0, false, [])) (t7_down, t7_armed, t7_after, t7_acut, t7_keep, t7_bs, t7_ws)).fst).fst).fst).fst).fst ∧
                                      Rg IntKind.i64 ((Sp.chooseS (t7_down, t7_armed, t7_after, t7_acut, t7_keep, t7_bs, t7_ws)).fst.fst + 1) ∧
                                        bif
                                            !decide
                                                ((Sp.chooseS
                                                        (Sp.dStart
                                                            (Sp.dCrash A
                                                                (Sp.dStart
                                                                    (Sp.putS (nth t58 t60 (0, 0, 0, 0))
                                                                        (Sp.dSet (nth o t60 (0, false, []))
                                                                            (t7_down, t7_armed, t7_after, t7_acut, t7_keep, t7_bs, t7_ws)).fst).fst).fst).fst).fst).snd.snd =
                                                  0) then
                                          R false
                                        else
                                          bif
                                              !(eqI
                                                    (Sp.chooseS
                                                          (Sp.dStart
                                                              (Sp.dCrash A
                                                                  (Sp.dStart
                                                                      (Sp.putS (nth t58 t60 (0, 0, 0, 0))
                                                                          (Sp.dSet (nth o t60 (0, false, []))
                                                                              (t7_down, t7_armed, t7_after, t7_acut, t7_keep, t7_bs, t7_ws)).fst).fst).fst).fst).fst).fst.fst
                                                    ((Sp.chooseS (t7_down, t7_armed, t7_after, t7_acut, t7_keep, t7_bs, t7_ws)).fst.fst + 1) &&
                                                  (eqI
                                                      (Sp.chooseS
                                                              (Sp.dStart
                                                                  (Sp.dCrash A
                                                                      (Sp.dStart
                                                                          (Sp.putS (nth t58 t60 (0, 0, 0, 0))
                                                                              (Sp.dSet (nth o t60 (0, false, []))
                                                                                  (t7_down, t7_armed, t7_after, t7_acut, t7_keep, t7_bs, t7_ws)).fst).fst).fst).fst).fst).fst.snd.fst
                                                      (nth t58 t60 (0, 0, 0, 0)).snd.fst &&
                                                    (eqI
                                                        (Sp.chooseS
                                                                  (Sp.dStart
                                                                      (Sp.dCrash A
                                                                          (Sp.dStart
                                                                              (Sp.putS (nth t58 t60 (0, 0, 0, 0))
                                                                                  (Sp.dSet (nth o t60 (0, false, []))
                                                                                      (t7_down, t7_armed, t7_after, t7_acut, t7_keep, t7_bs, t7_ws)).fst).fst).fst).fst).fst).fst.snd.snd.fst
                                                        (nth t58 t60 (0, 0, 0, 0)).snd.snd.fst &&
                                                      eqI
                                                        (Sp.chooseS
                                                                  (Sp.dStart
                                                                      (Sp.dCrash A
                                                                          (Sp.dStart
                                                                              (Sp.putS (nth t58 t60 (0, 0, 0, 0))
                                                                                  (Sp.dSet (nth o t60 (0, false, []))
                                                                                      (t7_down, t7_armed, t7_after, t7_acut, t7_keep, t7_bs, t7_ws)).fst).fst).fst).fst).fst).fst.snd.snd.snd
                                                        (nth t58 t60 (0, 0, 0, 0)).snd.snd.snd))) then
                                            bif
                                                !(eqI
                                                      (Sp.chooseS
                                                            (Sp.dStart
                                                                (Sp.dCrash A
                                                                    (Sp.dStart
                                                                        (Sp.putS (nth t58 t60 (0, 0, 0, 0))
                                                                            (Sp.dSet (nth o t60 (0, false, []))
                                                                                (t7_down, t7_armed, t7_after, t7_acut, t7_keep, t7_bs, t7_ws)).fst).fst).fst).fst).fst).fst.fst
                                                      (Sp.chooseS (t7_down, t7_armed, t7_after, t7_acut, t7_keep, t7_bs, t7_ws)).fst.fst &&
                                                    (eqI
                                                        (Sp.chooseS
                                                                (Sp.dStart
                                                                    (Sp.dCrash A
                                                                        (Sp.dStart
                                                                            (Sp.putS (nth t58 t60 (0, 0, 0, 0))
                                                                                (Sp.dSet (nth o t60 (0, false, []))
                                                                                    (t7_down, t7_armed, t7_after, t7_acut, t7_keep, t7_bs, t7_ws)).fst).fst).fst).fst).fst).fst.snd.fst
                                                        (Sp.chooseS (t7_down, t7_armed, t7_after, t7_acut, t7_keep, t7_bs, t7_ws)).fst.snd.fst &&
                                                      (eqI
                                                          (Sp.chooseS
                                                                    (Sp.dStart
                                                                        (Sp.dCrash A
                                                                            (Sp.dStart
                                                                                (Sp.putS (nth t58 t60 (0, 0, 0, 0))
                                                                                    (Sp.dSet (nth o t60 (0, false, []))
                                                                                        (t7_down, t7_armed, t7_after, t7_acut, t7_keep, t7_bs,
                                                                                          t7_ws)).fst).fst).fst).fst).fst).fst.snd.snd.fst
                                                          (Sp.chooseS (t7_down, t7_armed, t7_after, t7_acut, t7_keep, t7_bs, t7_ws)).fst.snd.snd.fst &&
                                                        eqI
                                                          (Sp.chooseS
                                                                    (Sp.dStart
                                                                        (Sp.dCrash A
                                                                            (Sp.dStart
                                                                                (Sp.putS (nth t58 t60 (0, 0, 0, 0))
                                                                                    (Sp.dSet (nth o t60 (0, false, []))
                                                                                        (t7_down, t7_armed, t7_after, t7_acut, t7_keep, t7_bs,
                                                                                          t7_ws)).fst).fst).fst).fst).fst).fst.snd.snd.snd
                                                          (Sp.chooseS (t7_down, t7_armed, t7_after, t7_acut, t7_keep, t7_bs, t7_ws)).fst.snd.snd.snd))) then
                                              R false
                                            else
                                              bif
                                                  decide
                                                    ((Sp.putS (nth t58 t60 (0, 0, 0, 0))
                                                          (Sp.dSet (nth o t60 (0, false, [])) (t7_down, t7_armed, t7_after, t7_acut, t7_keep, t7_bs, t7_ws)).fst).snd =
                                                      0) then
                                                R false
                                              else
                                                bif
                                                    eqI
                                                        (Sp.chooseS
                                                              (Sp.dStart
                                                                  (Sp.dCrash A
                                                                      (Sp.dStart
                                                                          (Sp.putS (nth t58 t60 (0, 0, 0, 0))
                                                                              (Sp.dSet (nth o t60 (0, false, []))
                                                                                  (t7_down, t7_armed, t7_after, t7_acut, t7_keep, t7_bs, t7_ws)).fst).fst).fst).fst).fst).fst.fst
                                                        ((Sp.chooseS (t7_down, t7_armed, t7_after, t7_acut, t7_keep, t7_bs, t7_ws)).fst.fst + 1) &&
                                                      (eqI
                                                          (Sp.chooseS
                                                                  (Sp.dStart
                                                                      (Sp.dCrash A
                                                                          (Sp.dStart
                                                                              (Sp.putS (nth t58 t60 (0, 0, 0, 0))
                                                                                  (Sp.dSet (nth o t60 (0, false, []))
                                                                                      (t7_down, t7_armed, t7_after, t7_acut, t7_keep, t7_bs, t7_ws)).fst).fst).fst).fst).fst).fst.snd.fst
                                                          (nth t58 t60 (0, 0, 0, 0)).snd.fst &&
                                                        (eqI
                                                            (Sp.chooseS
                                                                      (Sp.dStart
                                                                          (Sp.dCrash A
                                                                              (Sp.dStart
                                                                                  (Sp.putS (nth t58 t60 (0, 0, 0, 0))
                                                                                      (Sp.dSet (nth o t60 (0, false, []))
                                                                                          (t7_down, t7_armed, t7_after, t7_acut, t7_keep, t7_bs,
                                                                                            t7_ws)).fst).fst).fst).fst).fst).fst.snd.snd.fst
                                                            (nth t58 t60 (0, 0, 0, 0)).snd.snd.fst &&
                                                          eqI
                                                            (Sp.chooseS
                                                                      (Sp.dStart
                                                                          (Sp.dCrash A
                                                                              (Sp.dStart
                                                                                  (Sp.putS (nth t58 t60 (0, 0, 0, 0))
                                                                                      (Sp.dSet (nth o t60 (0, false, []))
                                                                                          (t7_down, t7_armed, t7_after, t7_acut, t7_keep, t7_bs,
                                                                                            t7_ws)).fst).fst).fst).fst).fst).fst.snd.snd.snd
                                                            (nth t58 t60 (0, 0, 0, 0)).snd.snd.snd)) then
                                                  Rg IntKind.i64 ((Sp.chooseS (t7_down, t7_armed, t7_after, t7_acut, t7_keep, t7_bs, t7_ws)).fst.fst + 1) ∧
                                                    bif
                                                        !decide
                                                            ((Sp.chooseS
                                                                    (Sp.dStart
                                                                        (Sp.dCrash A
                                                                            (Sp.dStart
                                                                                (Sp.putS (nth t58 t60 (0, 0, 0, 0))
                                                                                    (Sp.dSet (nth o t60 (0, false, []))
                                                                                        (t7_down, t7_armed, t7_after, t7_acut, t7_keep, t7_bs, t7_ws)).fst).fst).fst).fst).fst).fst.fst =
                                                              (Sp.chooseS (t7_down, t7_armed, t7_after, t7_acut, t7_keep, t7_bs, t7_ws)).fst.fst + 1) then
                                                      R false
                                                    else
                                                      Rg IntKind.i64 (t60 + 1) ∧
                                                        K0
                                                          (o, A, t58, t59, t60 + 1,
                                                            (Sp.dStart
                                                                  (Sp.dCrash A
                                                                      (Sp.dStart
                                                                          (Sp.putS (nth t58 t60 (0, 0, 0, 0))
                                                                              (Sp.dSet (nth o t60 (0, false, []))
                                                                                  (t7_down, t7_armed, t7_after, t7_acut, t7_keep, t7_bs, t7_ws)).fst).fst).fst).fst).fst.fst,
                                                            (Sp.dStart
                                                                    (Sp.dCrash A
                                                                        (Sp.dStart
                                                                            (Sp.putS (nth t58 t60 (0, 0, 0, 0))
                                                                                (Sp.dSet (nth o t60 (0, false, []))
                                                                                    (t7_down, t7_armed, t7_after, t7_acut, t7_keep, t7_bs, t7_ws)).fst).fst).fst).fst).fst.snd.fst,
                                                            (Sp.dStart
                                                                      (Sp.dCrash A
                                                                          (Sp.dStart
                                                                              (Sp.putS (nth t58 t60 (0, 0, 0, 0))
                                                                                  (Sp.dSet (nth o t60 (0, false, []))
                                                                                      (t7_down, t7_armed, t7_after, t7_acut, t7_keep, t7_bs, t7_ws)).fst).fst).fst).fst).fst.snd.snd.fst,
                                                            (Sp.dStart
                                                                        (Sp.dCrash A
                                                                            (Sp.dStart
                                                                                (Sp.putS (nth t58 t60 (0, 0, 0, 0))
                                                                                    (Sp.dSet (nth o t60 (0, false, []))
                                                                                        (t7_down, t7_armed, t7_after, t7_acut, t7_keep, t7_bs,
                                                                                          t7_ws)).fst).fst).fst).fst).fst.snd.snd.snd.fst,
                                                            (Sp.dStart
                                                                          (Sp.dCrash A
                                                                              (Sp.dStart
                                                                                  (Sp.putS (nth t58 t60 (0, 0, 0, 0))
                                                                                      (Sp.dSet (nth o t60 (0, false, []))
                                                                                          (t7_down, t7_armed, t7_after, t7_acut, t7_keep, t7_bs,
                                                                                            t7_ws)).fst).fst).fst).fst).fst.snd.snd.snd.snd.fst,
                                                            (Sp.dStart
                                                                            (Sp.dCrash A
                                                                                (Sp.dStart
                                                                                    (Sp.putS (nth t58 t60 (0, 0, 0, 0))
                                                                                        (Sp.dSet (nth o t60 (0, false, []))
                                                                                            (t7_down, t7_armed, t7_after, t7_acut, t7_keep, t7_bs,
                                                                                              t7_ws)).fst).fst).fst).fst).fst.snd.snd.snd.snd.snd.fst,
                                                            (Sp.dStart
                                                                            (Sp.dCrash A
                                                                                (Sp.dStart
                                                                                    (Sp.putS (nth t58 t60 (0, 0, 0, 0))
                                                                                        (Sp.dSet (nth o t60 (0, false, []))
                                                                                            (t7_down, t7_armed, t7_after, t7_acut, t7_keep, t7_bs,
                                                                                              t7_ws)).fst).fst).fst).fst).fst.snd.snd.snd.snd.snd.snd,
                                                            ())
                                                else
                                                  Rg IntKind.i64 (t60 + 1) ∧
                                                    K0
                                                      (o, A, t58, t59, t60 + 1,
                                                        (Sp.dStart
                                                              (Sp.dCrash A
                                                                  (Sp.dStart
                                                                      (Sp.putS (nth t58 t60 (0, 0, 0, 0))
                                                                          (Sp.dSet (nth o t60 (0, false, []))
                                                                              (t7_down, t7_armed, t7_after, t7_acut, t7_keep, t7_bs, t7_ws)).fst).fst).fst).fst).fst.fst,
                                                        (Sp.dStart
                                                                (Sp.dCrash A
                                                                    (Sp.dStart
                                                                        (Sp.putS (nth t58 t60 (0, 0, 0, 0))
                                                                            (Sp.dSet (nth o t60 (0, false, []))
                                                                                (t7_down, t7_armed, t7_after, t7_acut, t7_keep, t7_bs, t7_ws)).fst).fst).fst).fst).fst.snd.fst,
                                                        (Sp.dStart
                                                                  (Sp.dCrash A
                                                                      (Sp.dStart
                                                                          (Sp.putS (nth t58 t60 (0, 0, 0, 0))
                                                                              (Sp.dSet (nth o t60 (0, false, []))
                                                                                  (t7_down, t7_armed, t7_after, t7_acut, t7_keep, t7_bs, t7_ws)).fst).fst).fst).fst).fst.snd.snd.fst,
                                                        (Sp.dStart
                                                                    (Sp.dCrash A
                                                                        (Sp.dStart
                                                                            (Sp.putS (nth t58 t60 (0, 0, 0, 0))
                                                                                (Sp.dSet (nth o t60 (0, false, []))
                                                                                    (t7_down, t7_armed, t7_after, t7_acut, t7_keep, t7_bs, t7_ws)).fst).fst).fst).fst).fst.snd.snd.snd.fst,
                                                        (Sp.dStart
                                                                      (Sp.dCrash A
                                                                          (Sp.dStart
                                                                              (Sp.putS (nth t58 t60 (0, 0, 0, 0))
                                                                                  (Sp.dSet (nth o t60 (0, false, []))
                                                                                      (t7_down, t7_armed, t7_after, t7_acut, t7_keep, t7_bs,
                                                                                        t7_ws)).fst).fst).fst).fst).fst.snd.snd.snd.snd.fst,
                                                        (Sp.dStart
                                                                        (Sp.dCrash A
                                                                            (Sp.dStart
                                                                                (Sp.putS (nth t58 t60 (0, 0, 0, 0))
                                                                                    (Sp.dSet (nth o t60 (0, false, []))
                                                                                        (t7_down, t7_armed, t7_after, t7_acut, t7_keep, t7_bs,
                                                                                          t7_ws)).fst).fst).fst).fst).fst.snd.snd.snd.snd.snd.fst,
                                                        (Sp.dStart
                                                                        (Sp.dCrash A
                                                                            (Sp.dStart
                                                                                (Sp.putS (nth t58 t60 (0, 0, 0, 0))
                                                                                    (Sp.dSet (nth o t60 (0, false, []))
                                                                                        (t7_down, t7_armed, t7_after, t7_acut, t7_keep, t7_bs,
                                                                                          t7_ws)).fst).fst).fst).fst).fst.snd.snd.snd.snd.snd.snd,
                                                        ())
                                          else
                                            bif
                                                eqI
                                                    (Sp.chooseS
                                                          (Sp.dStart
                                                              (Sp.dCrash A
                                                                  (Sp.dStart
                                                                      (Sp.putS (nth t58 t60 (0, 0, 0, 0))
                                                                          (Sp.dSet (nth o t60 (0, false, []))
                                                                              (t7_down, t7_armed, t7_after, t7_acut, t7_keep, t7_bs, t7_ws)).fst).fst).fst).fst).fst).fst.fst
                                                    ((Sp.chooseS (t7_down, t7_armed, t7_after, t7_acut, t7_keep, t7_bs, t7_ws)).fst.fst + 1) &&
                                                  (eqI
                                                      (Sp.chooseS
                                                              (Sp.dStart
                                                                  (Sp.dCrash A
                                                                      (Sp.dStart
                                                                          (Sp.putS (nth t58 t60 (0, 0, 0, 0))
                                                                              (Sp.dSet (nth o t60 (0, false, []))
                                                                                  (t7_down, t7_armed, t7_after, t7_acut, t7_keep, t7_bs, t7_ws)).fst).fst).fst).fst).fst).fst.snd.fst
                                                      (nth t58 t60 (0, 0, 0, 0)).snd.fst &&
                                                    (eqI
                                                        (Sp.chooseS
                                                                  (Sp.dStart
                                                                      (Sp.dCrash A
                                                                          (Sp.dStart
                                                                              (Sp.putS (nth t58 t60 (0, 0, 0, 0))
                                                                                  (Sp.dSet (nth o t60 (0, false, []))
                                                                                      (t7_down, t7_armed, t7_after, t7_acut, t7_keep, t7_bs, t7_ws)).fst).fst).fst).fst).fst).fst.snd.snd.fst
                                                        (nth t58 t60 (0, 0, 0, 0)).snd.snd.fst &&
                                                      eqI
                                                        (Sp.chooseS
                                                                  (Sp.dStart
                                                                      (Sp.dCrash A
                                                                          (Sp.dStart
                                                                              (Sp.putS (nth t58 t60 (0, 0, 0, 0))
                                                                                  (Sp.dSet (nth o t60 (0, false, []))
                                                                                      (t7_down, t7_armed, t7_after, t7_acut, t7_keep, t7_bs, t7_ws)).fst).fst).fst).fst).fst).fst.snd.snd.snd
                                                        (nth t58 t60 (0, 0, 0, 0)).snd.snd.snd)) then
                                              Rg IntKind.i64 ((Sp.chooseS (t7_down, t7_armed, t7_after, t7_acut, t7_keep, t7_bs, t7_ws)).fst.fst + 1) ∧
                                                bif
                                                    !decide
                                                        ((Sp.chooseS
                                                                (Sp.dStart
                                                                    (Sp.dCrash A
                                                                        (Sp.dStart
                                                                            (Sp.putS (nth t58 t60 (0, 0, 0, 0))
                                                                                (Sp.dSet (nth o t60 (0, false, []))
                                                                                    (t7_down, t7_armed, t7_after, t7_acut, t7_keep, t7_bs, t7_ws)).fst).fst).fst).fst).fst).fst.fst =
                                                          (Sp.chooseS (t7_down, t7_armed, t7_after, t7_acut, t7_keep, t7_bs, t7_ws)).fst.fst + 1) then
                                                  R false
                                                else
                                                  Rg IntKind.i64 (t60 + 1) ∧
                                                    K0
                                                      (o, A, t58, t59, t60 + 1,
                                                        (Sp.dStart
                                                              (Sp.dCrash A
                                                                  (Sp.dStart
                                                                      (Sp.putS (nth t58 t60 (0, 0, 0, 0))
                                                                          (Sp.dSet (nth o t60 (0, false, []))
                                                                              (t7_down, t7_armed, t7_after, t7_acut, t7_keep, t7_bs, t7_ws)).fst).fst).fst).fst).fst.fst,
                                                        (Sp.dStart
                                                                (Sp.dCrash A
                                                                    (Sp.dStart
                                                                        (Sp.putS (nth t58 t60 (0, 0, 0, 0))
                                                                            (Sp.dSet (nth o t60 (0, false, []))
                                                                                (t7_down, t7_armed, t7_after, t7_acut, t7_keep, t7_bs, t7_ws)).fst).fst).fst).fst).fst.snd.fst,
                                                        (Sp.dStart
                                                                  (Sp.dCrash A
                                                                      (Sp.dStart
                                                                          (Sp.putS (nth t58 t60 (0, 0, 0, 0))
                                                                              (Sp.dSet (nth o t60 (0, false, []))
                                                                                  (t7_down, t7_armed, t7_after, t7_acut, t7_keep, t7_bs, t7_ws)).fst).fst).fst).fst).fst.snd.snd.fst,
                                                        (Sp.dStart
                                                                    (Sp.dCrash A
                                                                        (Sp.dStart
                                                                            (Sp.putS (nth t58 t60 (0, 0, 0, 0))
                                                                                (Sp.dSet (nth o t60 (0, false, []))
                                                                                    (t7_down, t7_armed, t7_after, t7_acut, t7_keep, t7_bs, t7_ws)).fst).fst).fst).fst).fst.snd.snd.snd.fst,
                                                        (Sp.dStart
                                                                      (Sp.dCrash A
                                                                          (Sp.dStart
                                                                              (Sp.putS (nth t58 t60 (0, 0, 0, 0))
                                                                                  (Sp.dSet (nth o t60 (0, false, []))
                                                                                      (t7_down, t7_armed, t7_after, t7_acut, t7_keep, t7_bs,
                                                                                        t7_ws)).fst).fst).fst).fst).fst.snd.snd.snd.snd.fst,
                                                        (Sp.dStart
                                                                        (Sp.dCrash A
                                                                            (Sp.dStart
                                                                                (Sp.putS (nth t58 t60 (0, 0, 0, 0))
                                                                                    (Sp.dSet (nth o t60 (0, false, []))
                                                                                        (t7_down, t7_armed, t7_after, t7_acut, t7_keep, t7_bs,
                                                                                          t7_ws)).fst).fst).fst).fst).fst.snd.snd.snd.snd.snd.fst,
                                                        (Sp.dStart
                                                                        (Sp.dCrash A
                                                                            (Sp.dStart
                                                                                (Sp.putS (nth t58 t60 (0, 0, 0, 0))
                                                                                    (Sp.dSet (nth o t60 (0, false, []))
                                                                                        (t7_down, t7_armed, t7_after, t7_acut, t7_keep, t7_bs,
                                                                                          t7_ws)).fst).fst).fst).fst).fst.snd.snd.snd.snd.snd.snd,
                                                        ())
                                            else
                                              Rg IntKind.i64 (t60 + 1) ∧
                                                K0
                                                  (o, A, t58, t59, t60 + 1,
                                                    (Sp.dStart
                                                          (Sp.dCrash A
                                                              (Sp.dStart
                                                                  (Sp.putS (nth t58 t60 (0, 0, 0, 0))
                                                                      (Sp.dSet (nth o t60 (0, false, []))
                                                                          (t7_down, t7_armed, t7_after, t7_acut, t7_keep, t7_bs, t7_ws)).fst).fst).fst).fst).fst.fst,
                                                    (Sp.dStart
                                                            (Sp.dCrash A
                                                                (Sp.dStart
                                                                    (Sp.putS (nth t58 t60 (0, 0, 0, 0))
                                                                        (Sp.dSet (nth o t60 (0, false, []))
                                                                            (t7_down, t7_armed, t7_after, t7_acut, t7_keep, t7_bs, t7_ws)).fst).fst).fst).fst).fst.snd.fst,
                                                    (Sp.dStart
                                                              (Sp.dCrash A
                                                                  (Sp.dStart
                                                                      (Sp.putS (nth t58 t60 (0, 0, 0, 0))
                                                                          (Sp.dSet (nth o t60 (0, false, []))
                                                                              (t7_down, t7_armed, t7_after, t7_acut, t7_keep, t7_bs, t7_ws)).fst).fst).fst).fst).fst.snd.snd.fst,
                                                    (Sp.dStart
                                                                (Sp.dCrash A
                                                                    (Sp.dStart
                                                                        (Sp.putS (nth t58 t60 (0, 0, 0, 0))
                                                                            (Sp.dSet (nth o t60 (0, false, []))
                                                                                (t7_down, t7_armed, t7_after, t7_acut, t7_keep, t7_bs, t7_ws)).fst).fst).fst).fst).fst.snd.snd.snd.fst,
                                                    (Sp.dStart
                                                                  (Sp.dCrash A
                                                                      (Sp.dStart
                                                                          (Sp.putS (nth t58 t60 (0, 0, 0, 0))
                                                                              (Sp.dSet (nth o t60 (0, false, []))
                                                                                  (t7_down, t7_armed, t7_after, t7_acut, t7_keep, t7_bs, t7_ws)).fst).fst).fst).fst).fst.snd.snd.snd.snd.fst,
                                                    (Sp.dStart
                                                                    (Sp.dCrash A
                                                                        (Sp.dStart
                                                                            (Sp.putS (nth t58 t60 (0, 0, 0, 0))
                                                                                (Sp.dSet (nth o t60 (0, false, []))
                                                                                    (t7_down, t7_armed, t7_after, t7_acut, t7_keep, t7_bs,
                                                                                      t7_ws)).fst).fst).fst).fst).fst.snd.snd.snd.snd.snd.fst,
                                                    (Sp.dStart
                                                                    (Sp.dCrash A
                                                                        (Sp.dStart
                                                                            (Sp.putS (nth t58 t60 (0, 0, 0, 0))
                                                                                (Sp.dSet (nth o t60 (0, false, []))
                                                                                    (t7_down, t7_armed, t7_after, t7_acut, t7_keep, t7_bs,
                                                                                      t7_ws)).fst).fst).fst).fst).fst.snd.snd.snd.snd.snd.snd,
                                                    ())
                        else
                          Sp.dFall.pre A (Sp.putS (nth t58 t60 (0, 0, 0, 0)) (Sp.dSet (nth o t60 (0, false, [])) (t7_down, t7_armed, t7_after, t7_acut, t7_keep, t7_bs, t7_ws)).fst).fst ∧
                            bif
                                !decide
                                    ((Sp.dCrash A
                                          (Sp.putS (nth t58 t60 (0, 0, 0, 0))
                                              (Sp.dSet (nth o t60 (0, false, [])) (t7_down, t7_armed, t7_after, t7_acut, t7_keep, t7_bs, t7_ws)).fst).fst).snd =
                                      0) then
                              R false
                            else
                              Sp.dPre
                                  (Sp.dCrash A
                                      (Sp.putS (nth t58 t60 (0, 0, 0, 0)) (Sp.dSet (nth o t60 (0, false, [])) (t7_down, t7_armed, t7_after, t7_acut, t7_keep, t7_bs, t7_ws)).fst).fst).fst ∧
                                bif
                                    !decide
                                        ((Sp.dStart
                                              (Sp.dCrash A
                                                  (Sp.putS (nth t58 t60 (0, 0, 0, 0))
                                                      (Sp.dSet (nth o t60 (0, false, [])) (t7_down, t7_armed, t7_after, t7_acut, t7_keep, t7_bs, t7_ws)).fst).fst).fst).snd =
                                          0) then
                                  R false
                                else
                                  Sp.dPre
                                      (Sp.dStart
                                          (Sp.dCrash A
                                              (Sp.putS (nth t58 t60 (0, 0, 0, 0))
                                                  (Sp.dSet (nth o t60 (0, false, [])) (t7_down, t7_armed, t7_after, t7_acut, t7_keep, t7_bs, t7_ws)).fst).fst).fst).fst ∧
                                    Rg IntKind.i64 ((Sp.chooseS (t7_down, t7_armed, t7_after, t7_acut, t7_keep, t7_bs, t7_ws)).fst.fst + 1) ∧
                                      bif
                                          !decide
                                              ((Sp.chooseS
                                                      (Sp.dStart
                                                          (Sp.dCrash A
                                                              (Sp.putS (nth t58 t60 (0, 0, 0, 0))
                                                                  (Sp.dSet (nth o t60 (0, false, []))
                                                                      (t7_down, t7_armed, t7_after, t7_acut, t7_keep, t7_bs, t7_ws)).fst).fst).fst).fst).snd.snd =
                                                0) then
                                        R false
                                      else
                                        bif
                                            !(eqI
                                                  (Sp.chooseS
                                                        (Sp.dStart
                                                            (Sp.dCrash A
                                                                (Sp.putS (nth t58 t60 (0, 0, 0, 0))
                                                                    (Sp.dSet (nth o t60 (0, false, []))
                                                                        (t7_down, t7_armed, t7_after, t7_acut, t7_keep, t7_bs, t7_ws)).fst).fst).fst).fst).fst.fst
                                                  ((Sp.chooseS (t7_down, t7_armed, t7_after, t7_acut, t7_keep, t7_bs, t7_ws)).fst.fst + 1) &&
                                                (eqI
                                                    (Sp.chooseS
                                                            (Sp.dStart
                                                                (Sp.dCrash A
                                                                    (Sp.putS (nth t58 t60 (0, 0, 0, 0))
                                                                        (Sp.dSet (nth o t60 (0, false, []))
                                                                            (t7_down, t7_armed, t7_after, t7_acut, t7_keep, t7_bs, t7_ws)).fst).fst).fst).fst).fst.snd.fst
                                                    (nth t58 t60 (0, 0, 0, 0)).snd.fst &&
                                                  (eqI
                                                      (Sp.chooseS
                                                                (Sp.dStart
                                                                    (Sp.dCrash A
                                                                        (Sp.putS (nth t58 t60 (0, 0, 0, 0))
                                                                            (Sp.dSet (nth o t60 (0, false, []))
                                                                                (t7_down, t7_armed, t7_after, t7_acut, t7_keep, t7_bs, t7_ws)).fst).fst).fst).fst).fst.snd.snd.fst
                                                      (nth t58 t60 (0, 0, 0, 0)).snd.snd.fst &&
                                                    eqI
                                                      (Sp.chooseS
                                                                (Sp.dStart
                                                                    (Sp.dCrash A
                                                                        (Sp.putS (nth t58 t60 (0, 0, 0, 0))
                                                                            (Sp.dSet (nth o t60 (0, false, []))
                                                                                (t7_down, t7_armed, t7_after, t7_acut, t7_keep, t7_bs, t7_ws)).fst).fst).fst).fst).fst.snd.snd.snd
                                                      (nth t58 t60 (0, 0, 0, 0)).snd.snd.snd))) then
                                          bif
                                              !(eqI
                                                    (Sp.chooseS
                                                          (Sp.dStart
                                                              (Sp.dCrash A
                                                                  (Sp.putS (nth t58 t60 (0, 0, 0, 0))
                                                                      (Sp.dSet (nth o t60 (0, false, []))
                                                                          (t7_down, t7_armed, t7_after, t7_acut, t7_keep, t7_bs, t7_ws)).fst).fst).fst).fst).fst.fst
                                                    (Sp.chooseS (t7_down, t7_armed, t7_after, t7_acut, t7_keep, t7_bs, t7_ws)).fst.fst &&
                                                  (eqI
                                                      (Sp.chooseS
                                                              (Sp.dStart
                                                                  (Sp.dCrash A
                                                                      (Sp.putS (nth t58 t60 (0, 0, 0, 0))
                                                                          (Sp.dSet (nth o t60 (0, false, []))
                                                                              (t7_down, t7_armed, t7_after, t7_acut, t7_keep, t7_bs, t7_ws)).fst).fst).fst).fst).fst.snd.fst
                                                      (Sp.chooseS (t7_down, t7_armed, t7_after, t7_acut, t7_keep, t7_bs, t7_ws)).fst.snd.fst &&
                                                    (eqI
                                                        (Sp.chooseS
                                                                  (Sp.dStart
                                                                      (Sp.dCrash A
                                                                          (Sp.putS (nth t58 t60 (0, 0, 0, 0))
                                                                              (Sp.dSet (nth o t60 (0, false, []))
                                                                                  (t7_down, t7_armed, t7_after, t7_acut, t7_keep, t7_bs, t7_ws)).fst).fst).fst).fst).fst.snd.snd.fst
                                                        (Sp.chooseS (t7_down, t7_armed, t7_after, t7_acut, t7_keep, t7_bs, t7_ws)).fst.snd.snd.fst &&
                                                      eqI
                                                        (Sp.chooseS
                                                                  (Sp.dStart
                                                                      (Sp.dCrash A
                                                                          (Sp.putS (nth t58 t60 (0, 0, 0, 0))
                                                                              (Sp.dSet (nth o t60 (0, false, []))
                                                                                  (t7_down, t7_armed, t7_after, t7_acut, t7_keep, t7_bs, t7_ws)).fst).fst).fst).fst).fst.snd.snd.snd
                                                        (Sp.chooseS (t7_down, t7_armed, t7_after, t7_acut, t7_keep, t7_bs, t7_ws)).fst.snd.snd.snd))) then
                                            R false
                                          else
                                            bif
                                                decide
                                                  ((Sp.putS (nth t58 t60 (0, 0, 0, 0))
                                                        (Sp.dSet (nth o t60 (0, false, [])) (t7_down, t7_armed, t7_after, t7_acut, t7_keep, t7_bs, t7_ws)).fst).snd =
                                                    0) then
                                              R false
                                            else
                                              bif
                                                  eqI
                                                      (Sp.chooseS
                                                            (Sp.dStart
                                                                (Sp.dCrash A
                                                                    (Sp.putS (nth t58 t60 (0, 0, 0, 0))
                                                                        (Sp.dSet (nth o t60 (0, false, []))
                                                                            (t7_down, t7_armed, t7_after, t7_acut, t7_keep, t7_bs, t7_ws)).fst).fst).fst).fst).fst.fst
                                                      ((Sp.chooseS (t7_down, t7_armed, t7_after, t7_acut, t7_keep, t7_bs, t7_ws)).fst.fst + 1) &&
                                                    (eqI
                                                        (Sp.chooseS
                                                                (Sp.dStart
                                                                    (Sp.dCrash A
                                                                        (Sp.putS (nth t58 t60 (0, 0, 0, 0))
                                                                            (Sp.dSet (nth o t60 (0, false, []))
                                                                                (t7_down, t7_armed, t7_after, t7_acut, t7_keep, t7_bs, t7_ws)).fst).fst).fst).fst).fst.snd.fst
                                                        (nth t58 t60 (0, 0, 0, 0)).snd.fst &&
                                                      (eqI
                                                          (Sp.chooseS
                                                                    (Sp.dStart
                                                                        (Sp.dCrash A
                                                                            (Sp.putS (nth t58 t60 (0, 0, 0, 0))
                                                                                (Sp.dSet (nth o t60 (0, false, []))
                                                                                    (t7_down, t7_armed, t7_after, t7_acut, t7_keep, t7_bs, t7_ws)).fst).fst).fst).fst).fst.snd.snd.fst
                                                          (nth t58 t60 (0, 0, 0, 0)).snd.snd.fst &&
                                                        eqI
                                                          (Sp.chooseS
                                                                    (Sp.dStart
                                                                        (Sp.dCrash A
                                                                            (Sp.putS (nth t58 t60 (0, 0, 0, 0))
                                                                                (Sp.dSet (nth o t60 (0, false, []))
                                                                                    (t7_down, t7_armed, t7_after, t7_acut, t7_keep, t7_bs, t7_ws)).fst).fst).fst).fst).fst.snd.snd.snd
                                                          (nth t58 t60 (0, 0, 0, 0)).snd.snd.snd)) then
                                                Rg IntKind.i64 ((Sp.chooseS (t7_down, t7_armed, t7_after, t7_acut, t7_keep, t7_bs, t7_ws)).fst.fst + 1) ∧
                                                  bif
                                                      !decide
                                                          ((Sp.chooseS
                                                                  (Sp.dStart
                                                                      (Sp.dCrash A
                                                                          (Sp.putS (nth t58 t60 (0, 0, 0, 0))
                                                                              (Sp.dSet (nth o t60 (0, false, []))
                                                                                  (t7_down, t7_armed, t7_after, t7_acut, t7_keep, t7_bs, t7_ws)).fst).fst).fst).fst).fst.fst =
                                                            (Sp.chooseS (t7_down, t7_armed, t7_after, t7_acut, t7_keep, t7_bs, t7_ws)).fst.fst + 1) then
                                                    R false
                                                  else
                                                    Rg IntKind.i64 (t60 + 1) ∧
                                                      K0
                                                        (o, A, t58, t59, t60 + 1,
                                                          (Sp.dStart
                                                                (Sp.dCrash A
                                                                    (Sp.putS (nth t58 t60 (0, 0, 0, 0))
                                                                        (Sp.dSet (nth o t60 (0, false, []))
                                                                            (t7_down, t7_armed, t7_after, t7_acut, t7_keep, t7_bs, t7_ws)).fst).fst).fst).fst.fst,
                                                          (Sp.dStart
                                                                  (Sp.dCrash A
                                                                      (Sp.putS (nth t58 t60 (0, 0, 0, 0))
                                                                          (Sp.dSet (nth o t60 (0, false, []))
                                                                              (t7_down, t7_armed, t7_after, t7_acut, t7_keep, t7_bs, t7_ws)).fst).fst).fst).fst.snd.fst,
                                                          (Sp.dStart
                                                                    (Sp.dCrash A
                                                                        (Sp.putS (nth t58 t60 (0, 0, 0, 0))
                                                                            (Sp.dSet (nth o t60 (0, false, []))
                                                                                (t7_down, t7_armed, t7_after, t7_acut, t7_keep, t7_bs, t7_ws)).fst).fst).fst).fst.snd.snd.fst,
                                                          (Sp.dStart
                                                                      (Sp.dCrash A
                                                                          (Sp.putS (nth t58 t60 (0, 0, 0, 0))
                                                                              (Sp.dSet (nth o t60 (0, false, []))
                                                                                  (t7_down, t7_armed, t7_after, t7_acut, t7_keep, t7_bs, t7_ws)).fst).fst).fst).fst.snd.snd.snd.fst,
                                                          (Sp.dStart
                                                                        (Sp.dCrash A
                                                                            (Sp.putS (nth t58 t60 (0, 0, 0, 0))
                                                                                (Sp.dSet (nth o t60 (0, false, []))
                                                                                    (t7_down, t7_armed, t7_after, t7_acut, t7_keep, t7_bs, t7_ws)).fst).fst).fst).fst.snd.snd.snd.snd.fst,
                                                          (Sp.dStart
                                                                          (Sp.dCrash A
                                                                              (Sp.putS (nth t58 t60 (0, 0, 0, 0))
                                                                                  (Sp.dSet (nth o t60 (0, false, []))
                                                                                      (t7_down, t7_armed, t7_after, t7_acut, t7_keep, t7_bs,
                                                                                        t7_ws)).fst).fst).fst).fst.snd.snd.snd.snd.snd.fst,
                                                          (Sp.dStart
                                                                          (Sp.dCrash A
                                                                              (Sp.putS (nth t58 t60 (0, 0, 0, 0))
                                                                                  (Sp.dSet (nth o t60 (0, false, []))
                                                                                      (t7_down, t7_armed, t7_after, t7_acut, t7_keep, t7_bs,
                                                                                        t7_ws)).fst).fst).fst).fst.snd.snd.snd.snd.snd.snd,
                                                          ())
                                              else
                                                Rg IntKind.i64 (t60 + 1) ∧
                                                  K0
                                                    (o, A, t58, t59, t60 + 1,
                                                      (Sp.dStart
                                                            (Sp.dCrash A
                                                                (Sp.putS (nth t58 t60 (0, 0, 0, 0))
                                                                    (Sp.dSet (nth o t60 (0, false, [])) (t7_down, t7_armed, t7_after, t7_acut, t7_keep, t7_bs, t7_ws)).fst).fst).fst).fst.fst,
                                                      (Sp.dStart
                                                              (Sp.dCrash A
                                                                  (Sp.putS (nth t58 t60 (0, 0, 0, 0))
                                                                      (Sp.dSet (nth o t60 (0, false, []))
                                                                          (t7_down, t7_armed, t7_after, t7_acut, t7_keep, t7_bs, t7_ws)).fst).fst).fst).fst.snd.fst,
                                                      (Sp.dStart
                                                                (Sp.dCrash A
                                                                    (Sp.putS (nth t58 t60 (0, 0, 0, 0))
                                                                        (Sp.dSet (nth o t60 (0, false, []))
                                                                            (t7_down, t7_armed, t7_after, t7_acut, t7_keep, t7_bs, t7_ws)).fst).fst).fst).fst.snd.snd.fst,
                                                      (Sp.dStart
                                                                  (Sp.dCrash A
                                                                      (Sp.putS (nth t58 t60 (0, 0, 0, 0))
                                                                          (Sp.dSet (nth o t60 (0, false, []))
                                                                              (t7_down, t7_armed, t7_after, t7_acut, t7_keep, t7_bs, t7_ws)).fst).fst).fst).fst.snd.snd.snd.fst,
                                                      (Sp.dStart
                                                                    (Sp.dCrash A
                                                                        (Sp.putS (nth t58 t60 (0, 0, 0, 0))
                                                                            (Sp.dSet (nth o t60 (0, false, []))
                                                                                (t7_down, t7_armed, t7_after, t7_acut, t7_keep, t7_bs, t7_ws)).fst).fst).fst).fst.snd.snd.snd.snd.fst,
                                                      (Sp.dStart
                                                                      (Sp.dCrash A
                                                                          (Sp.putS (nth t58 t60 (0, 0, 0, 0))
                                                                              (Sp.dSet (nth o t60 (0, false, []))
                                                                                  (t7_down, t7_armed, t7_after, t7_acut, t7_keep, t7_bs, t7_ws)).fst).fst).fst).fst.snd.snd.snd.snd.snd.fst,
                                                      (Sp.dStart
                                                                      (Sp.dCrash A
                                                                          (Sp.putS (nth t58 t60 (0, 0, 0, 0))
                                                                              (Sp.dSet (nth o t60 (0, false, []))
                                                                                  (t7_down, t7_armed, t7_after, t7_acut, t7_keep, t7_bs, t7_ws)).fst).fst).fst).fst.snd.snd.snd.snd.snd.snd,
                                                      ())
                                        else
                                          bif
                                              eqI
                                                  (Sp.chooseS
                                                        (Sp.dStart
                                                            (Sp.dCrash A
                                                                (Sp.putS (nth t58 t60 (0, 0, 0, 0))
                                                                    (Sp.dSet (nth o t60 (0, false, []))
                                                                        (t7_down, t7_armed, t7_after, t7_acut, t7_keep, t7_bs, t7_ws)).fst).fst).fst).fst).fst.fst
                                                  ((Sp.chooseS (t7_down, t7_armed, t7_after, t7_acut, t7_keep, t7_bs, t7_ws)).fst.fst + 1) &&
                                                (eqI
                                                    (Sp.chooseS
                                                            (Sp.dStart
                                                                (Sp.dCrash A
                                                                    (Sp.putS (nth t58 t60 (0, 0, 0, 0))
                                                                        (Sp.dSet (nth o t60 (0, false, []))
                                                                            (t7_down, t7_armed, t7_after, t7_acut, t7_keep, t7_bs, t7_ws)).fst).fst).fst).fst).fst.snd.fst
                                                    (nth t58 t60 (0, 0, 0, 0)).snd.fst &&
                                                  (eqI
                                                      (Sp.chooseS
                                                                (Sp.dStart
                                                                    (Sp.dCrash A
                                                                        (Sp.putS (nth t58 t60 (0, 0, 0, 0))
                                                                            (Sp.dSet (nth o t60 (0, false, []))
                                                                                (t7_down, t7_armed, t7_after, t7_acut, t7_keep, t7_bs, t7_ws)).fst).fst).fst).fst).fst.snd.snd.fst
                                                      (nth t58 t60 (0, 0, 0, 0)).snd.snd.fst &&
                                                    eqI
                                                      (Sp.chooseS
                                                                (Sp.dStart
                                                                    (Sp.dCrash A
                                                                        (Sp.putS (nth t58 t60 (0, 0, 0, 0))
                                                                            (Sp.dSet (nth o t60 (0, false, []))
                                                                                (t7_down, t7_armed, t7_after, t7_acut, t7_keep, t7_bs, t7_ws)).fst).fst).fst).fst).fst.snd.snd.snd
                                                      (nth t58 t60 (0, 0, 0, 0)).snd.snd.snd)) then
                                            Rg IntKind.i64 ((Sp.chooseS (t7_down, t7_armed, t7_after, t7_acut, t7_keep, t7_bs, t7_ws)).fst.fst + 1) ∧
                                              bif
                                                  !decide
                                                      ((Sp.chooseS
                                                              (Sp.dStart
                                                                  (Sp.dCrash A
                                                                      (Sp.putS (nth t58 t60 (0, 0, 0, 0))
                                                                          (Sp.dSet (nth o t60 (0, false, []))
                                                                              (t7_down, t7_armed, t7_after, t7_acut, t7_keep, t7_bs, t7_ws)).fst).fst).fst).fst).fst.fst =
                                                        (Sp.chooseS (t7_down, t7_armed, t7_after, t7_acut, t7_keep, t7_bs, t7_ws)).fst.fst + 1) then
                                                R false
                                              else
                                                Rg IntKind.i64 (t60 + 1) ∧
                                                  K0
                                                    (o, A, t58, t59, t60 + 1,
                                                      (Sp.dStart
                                                            (Sp.dCrash A
                                                                (Sp.putS (nth t58 t60 (0, 0, 0, 0))
                                                                    (Sp.dSet (nth o t60 (0, false, [])) (t7_down, t7_armed, t7_after, t7_acut, t7_keep, t7_bs, t7_ws)).fst).fst).fst).fst.fst,
                                                      (Sp.dStart
                                                              (Sp.dCrash A
                                                                  (Sp.putS (nth t58 t60 (0, 0, 0, 0))
                                                                      (Sp.dSet (nth o t60 (0, false, []))
                                                                          (t7_down, t7_armed, t7_after, t7_acut, t7_keep, t7_bs, t7_ws)).fst).fst).fst).fst.snd.fst,
                                                      (Sp.dStart
                                                                (Sp.dCrash A
                                                                    (Sp.putS (nth t58 t60 (0, 0, 0, 0))
                                                                        (Sp.dSet (nth o t60 (0, false, []))
                                                                            (t7_down, t7_armed, t7_after, t7_acut, t7_keep, t7_bs, t7_ws)).fst).fst).fst).fst.snd.snd.fst,
                                                      (Sp.dStart
                                                                  (Sp.dCrash A
                                                                      (Sp.putS (nth t58 t60 (0, 0, 0, 0))
                                                                          (Sp.dSet (nth o t60 (0, false, []))
                                                                              (t7_down, t7_armed, t7_after, t7_acut, t7_keep, t7_bs, t7_ws)).fst).fst).fst).fst.snd.snd.snd.fst,
                                                      (Sp.dStart
                                                                    (Sp.dCrash A
                                                                        (Sp.putS (nth t58 t60 (0, 0, 0, 0))
                                                                            (Sp.dSet (nth o t60 (0, false, []))
                                                                                (t7_down, t7_armed, t7_after, t7_acut, t7_keep, t7_bs, t7_ws)).fst).fst).fst).fst.snd.snd.snd.snd.fst,
                                                      (Sp.dStart
                                                                      (Sp.dCrash A
                                                                          (Sp.putS (nth t58 t60 (0, 0, 0, 0))
                                                                              (Sp.dSet (nth o t60 (0, false, []))
                                                                                  (t7_down, t7_armed, t7_after, t7_acut, t7_keep, t7_bs, t7_ws)).fst).fst).fst).fst.snd.snd.snd.snd.snd.fst,
                                                      (Sp.dStart
                                                                      (Sp.dCrash A
                                                                          (Sp.putS (nth t58 t60 (0, 0, 0, 0))
                                                                              (Sp.dSet (nth o t60 (0, false, []))
                                                                                  (t7_down, t7_armed, t7_after, t7_acut, t7_keep, t7_bs, t7_ws)).fst).fst).fst).fst.snd.snd.snd.snd.snd.snd,
                                                      ())
                                          else
                                            Rg IntKind.i64 (t60 + 1) ∧
                                              K0
                                                (o, A, t58, t59, t60 + 1,
                                                  (Sp.dStart
                                                        (Sp.dCrash A
                                                            (Sp.putS (nth t58 t60 (0, 0, 0, 0))
                                                                (Sp.dSet (nth o t60 (0, false, [])) (t7_down, t7_armed, t7_after, t7_acut, t7_keep, t7_bs, t7_ws)).fst).fst).fst).fst.fst,
                                                  (Sp.dStart
                                                          (Sp.dCrash A
                                                              (Sp.putS (nth t58 t60 (0, 0, 0, 0))
                                                                  (Sp.dSet (nth o t60 (0, false, []))
                                                                      (t7_down, t7_armed, t7_after, t7_acut, t7_keep, t7_bs, t7_ws)).fst).fst).fst).fst.snd.fst,
                                                  (Sp.dStart
                                                            (Sp.dCrash A
                                                                (Sp.putS (nth t58 t60 (0, 0, 0, 0))
                                                                    (Sp.dSet (nth o t60 (0, false, []))
                                                                        (t7_down, t7_armed, t7_after, t7_acut, t7_keep, t7_bs, t7_ws)).fst).fst).fst).fst.snd.snd.fst,
                                                  (Sp.dStart
                                                              (Sp.dCrash A
                                                                  (Sp.putS (nth t58 t60 (0, 0, 0, 0))
                                                                      (Sp.dSet (nth o t60 (0, false, []))
                                                                          (t7_down, t7_armed, t7_after, t7_acut, t7_keep, t7_bs, t7_ws)).fst).fst).fst).fst.snd.snd.snd.fst,
                                                  (Sp.dStart
                                                                (Sp.dCrash A
                                                                    (Sp.putS (nth t58 t60 (0, 0, 0, 0))
                                                                        (Sp.dSet (nth o t60 (0, false, []))
                                                                            (t7_down, t7_armed, t7_after, t7_acut, t7_keep, t7_bs, t7_ws)).fst).fst).fst).fst.snd.snd.snd.snd.fst,
                                                  (Sp.dStart
                                                                  (Sp.dCrash A
                                                                      (Sp.putS (nth t58 t60 (0, 0, 0, 0))
                                                                          (Sp.dSet (nth o t60 (0, false, []))
                                                                              (t7_down, t7_armed, t7_after, t7_acut, t7_keep, t7_bs, t7_ws)).fst).fst).fst).fst.snd.snd.snd.snd.snd.fst,
                                                  (Sp.dStart
                                                                  (Sp.dCrash A
                                                                      (Sp.putS (nth t58 t60 (0, 0, 0, 0))
                                                                          (Sp.dSet (nth o t60 (0, false, []))
                                                                              (t7_down, t7_armed, t7_after, t7_acut, t7_keep, t7_bs, t7_ws)).fst).fst).fst).fst.snd.snd.snd.snd.snd.snd,
                                                  ())
          else
            Sp.putS.pre (nth t58 t60 (0, 0, 0, 0)) (t7_down, t7_armed, t7_after, t7_acut, t7_keep, t7_bs, t7_ws) ∧
              Sp.dPre (Sp.putS (nth t58 t60 (0, 0, 0, 0)) (t7_down, t7_armed, t7_after, t7_acut, t7_keep, t7_bs, t7_ws)).fst ∧
                bif !Sp.upD (Sp.putS (nth t58 t60 (0, 0, 0, 0)) (t7_down, t7_armed, t7_after, t7_acut, t7_keep, t7_bs, t7_ws)).fst then
                  Sp.dPre (Sp.putS (nth t58 t60 (0, 0, 0, 0)) (t7_down, t7_armed, t7_after, t7_acut, t7_keep, t7_bs, t7_ws)).fst ∧
                    Sp.dFall.pre A (Sp.dStart (Sp.putS (nth t58 t60 (0, 0, 0, 0)) (t7_down, t7_armed, t7_after, t7_acut, t7_keep, t7_bs, t7_ws)).fst).fst ∧
                      bif !decide ((Sp.dCrash A (Sp.dStart (Sp.putS (nth t58 t60 (0, 0, 0, 0)) (t7_down, t7_armed, t7_after, t7_acut, t7_keep, t7_bs, t7_ws)).fst).fst).snd = 0) then R false
                      else
                        Sp.dPre (Sp.dCrash A (Sp.dStart (Sp.putS (nth t58 t60 (0, 0, 0, 0)) (t7_down, t7_armed, t7_after, t7_acut, t7_keep, t7_bs, t7_ws)).fst).fst).fst ∧
                          bif
                              !decide
                                  ((Sp.dStart (Sp.dCrash A (Sp.dStart (Sp.putS (nth t58 t60 (0, 0, 0, 0)) (t7_down, t7_armed, t7_after, t7_acut, t7_keep, t7_bs, t7_ws)).fst).fst).fst).snd =
                                    0) then
                            R false
                          else
                            Sp.dPre (Sp.dStart (Sp.dCrash A (Sp.dStart (Sp.putS (nth t58 t60 (0, 0, 0, 0)) (t7_down, t7_armed, t7_after, t7_acut, t7_keep, t7_bs, t7_ws)).fst).fst).fst).fst ∧
                              Rg IntKind.i64 ((Sp.chooseS (t7_down, t7_armed, t7_after, t7_acut, t7_keep, t7_bs, t7_ws)).fst.fst + 1) ∧
                                bif
                                    !decide
                                        ((Sp.chooseS
                                                (Sp.dStart
                                                    (Sp.dCrash A
                                                        (Sp.dStart
                                                            (Sp.putS (nth t58 t60 (0, 0, 0, 0)) (t7_down, t7_armed, t7_after, t7_acut, t7_keep, t7_bs, t7_ws)).fst).fst).fst).fst).snd.snd =
                                          0) then
                                  R false
                                else
                                  bif
                                      !(eqI
                                            (Sp.chooseS
                                                  (Sp.dStart
                                                      (Sp.dCrash A
                                                          (Sp.dStart
                                                              (Sp.putS (nth t58 t60 (0, 0, 0, 0)) (t7_down, t7_armed, t7_after, t7_acut, t7_keep, t7_bs, t7_ws)).fst).fst).fst).fst).fst.fst
                                            ((Sp.chooseS (t7_down, t7_armed, t7_after, t7_acut, t7_keep, t7_bs, t7_ws)).fst.fst + 1) &&
                                          (eqI
                                              (Sp.chooseS
                                                      (Sp.dStart
                                                          (Sp.dCrash A
                                                              (Sp.dStart
                                                                  (Sp.putS (nth t58 t60 (0, 0, 0, 0))
                                                                      (t7_down, t7_armed, t7_after, t7_acut, t7_keep, t7_bs, t7_ws)).fst).fst).fst).fst).fst.snd.fst
                                              (nth t58 t60 (0, 0, 0, 0)).snd.fst &&
                                            (eqI
                                                (Sp.chooseS
                                                          (Sp.dStart
                                                              (Sp.dCrash A
                                                                  (Sp.dStart
                                                                      (Sp.putS (nth t58 t60 (0, 0, 0, 0))
                                                                          (t7_down, t7_armed, t7_after, t7_acut, t7_keep, t7_bs, t7_ws)).fst).fst).fst).fst).fst.snd.snd.fst
                                                (nth t58 t60 (0, 0, 0, 0)).snd.snd.fst &&
                                              eqI
                                                (Sp.chooseS
                                                          (Sp.dStart
                                                              (Sp.dCrash A
                                                                  (Sp.dStart
                                                                      (Sp.putS (nth t58 t60 (0, 0, 0, 0))
                                                                          (t7_down, t7_armed, t7_after, t7_acut, t7_keep, t7_bs, t7_ws)).fst).fst).fst).fst).fst.snd.snd.snd
                                                (nth t58 t60 (0, 0, 0, 0)).snd.snd.snd))) then
                                    bif
                                        !(eqI
                                              (Sp.chooseS
                                                    (Sp.dStart
                                                        (Sp.dCrash A
                                                            (Sp.dStart
                                                                (Sp.putS (nth t58 t60 (0, 0, 0, 0)) (t7_down, t7_armed, t7_after, t7_acut, t7_keep, t7_bs, t7_ws)).fst).fst).fst).fst).fst.fst
                                              (Sp.chooseS (t7_down, t7_armed, t7_after, t7_acut, t7_keep, t7_bs, t7_ws)).fst.fst &&
                                            (eqI
                                                (Sp.chooseS
                                                        (Sp.dStart
                                                            (Sp.dCrash A
                                                                (Sp.dStart
                                                                    (Sp.putS (nth t58 t60 (0, 0, 0, 0))
                                                                        (t7_down, t7_armed, t7_after, t7_acut, t7_keep, t7_bs, t7_ws)).fst).fst).fst).fst).fst.snd.fst
                                                (Sp.chooseS (t7_down, t7_armed, t7_after, t7_acut, t7_keep, t7_bs, t7_ws)).fst.snd.fst &&
                                              (eqI
                                                  (Sp.chooseS
                                                            (Sp.dStart
                                                                (Sp.dCrash A
                                                                    (Sp.dStart
                                                                        (Sp.putS (nth t58 t60 (0, 0, 0, 0))
                                                                            (t7_down, t7_armed, t7_after, t7_acut, t7_keep, t7_bs, t7_ws)).fst).fst).fst).fst).fst.snd.snd.fst
                                                  (Sp.chooseS (t7_down, t7_armed, t7_after, t7_acut, t7_keep, t7_bs, t7_ws)).fst.snd.snd.fst &&
                                                eqI
                                                  (Sp.chooseS
                                                            (Sp.dStart
                                                                (Sp.dCrash A
                                                                    (Sp.dStart
                                                                        (Sp.putS (nth t58 t60 (0, 0, 0, 0))
                                                                            (t7_down, t7_armed, t7_after, t7_acut, t7_keep, t7_bs, t7_ws)).fst).fst).fst).fst).fst.snd.snd.snd
                                                  (Sp.chooseS (t7_down, t7_armed, t7_after, t7_acut, t7_keep, t7_bs, t7_ws)).fst.snd.snd.snd))) then
                                      R false
                                    else
                                      bif decide ((Sp.putS (nth t58 t60 (0, 0, 0, 0)) (t7_down, t7_armed, t7_after, t7_acut, t7_keep, t7_bs, t7_ws)).snd = 0) then R false
                                      else
                                        bif
                                            eqI
                                                (Sp.chooseS
                                                      (Sp.dStart
                                                          (Sp.dCrash A
                                                              (Sp.dStart
                                                                  (Sp.putS (nth t58 t60 (0, 0, 0, 0))
                                                                      (t7_down, t7_armed, t7_after, t7_acut, t7_keep, t7_bs, t7_ws)).fst).fst).fst).fst).fst.fst
                                                ((Sp.chooseS (t7_down, t7_armed, t7_after, t7_acut, t7_keep, t7_bs, t7_ws)).fst.fst + 1) &&
                                              (eqI
                                                  (Sp.chooseS
                                                          (Sp.dStart
                                                              (Sp.dCrash A
                                                                  (Sp.dStart
                                                                      (Sp.putS (nth t58 t60 (0, 0, 0, 0))
                                                                          (t7_down, t7_armed, t7_after, t7_acut, t7_keep, t7_bs, t7_ws)).fst).fst).fst).fst).fst.snd.fst
                                                  (nth t58 t60 (0, 0, 0, 0)).snd.fst &&
                                                (eqI
                                                    (Sp.chooseS
                                                              (Sp.dStart
                                                                  (Sp.dCrash A
                                                                      (Sp.dStart
                                                                          (Sp.putS (nth t58 t60 (0, 0, 0, 0))
                                                                              (t7_down, t7_armed, t7_after, t7_acut, t7_keep, t7_bs, t7_ws)).fst).fst).fst).fst).fst.snd.snd.fst
                                                    (nth t58 t60 (0, 0, 0, 0)).snd.snd.fst &&
                                                  eqI
                                                    (Sp.chooseS
                                                              (Sp.dStart
                                                                  (Sp.dCrash A
                                                                      (Sp.dStart
                                                                          (Sp.putS (nth t58 t60 (0, 0, 0, 0))
                                                                              (t7_down, t7_armed, t7_after, t7_acut, t7_keep, t7_bs, t7_ws)).fst).fst).fst).fst).fst.snd.snd.snd
                                                    (nth t58 t60 (0, 0, 0, 0)).snd.snd.snd)) then
                                          Rg IntKind.i64 ((Sp.chooseS (t7_down, t7_armed, t7_after, t7_acut, t7_keep, t7_bs, t7_ws)).fst.fst + 1) ∧
                                            bif
                                                !decide
                                                    ((Sp.chooseS
                                                            (Sp.dStart
                                                                (Sp.dCrash A
                                                                    (Sp.dStart
                                                                        (Sp.putS (nth t58 t60 (0, 0, 0, 0))
                                                                            (t7_down, t7_armed, t7_after, t7_acut, t7_keep, t7_bs, t7_ws)).fst).fst).fst).fst).fst.fst =
                                                      (Sp.chooseS (t7_down, t7_armed, t7_after, t7_acut, t7_keep, t7_bs, t7_ws)).fst.fst + 1) then
                                              R false
                                            else
                                              Rg IntKind.i64 (t60 + 1) ∧
                                                K0
                                                  (o, A, t58, t59, t60 + 1,
                                                    (Sp.dStart
                                                          (Sp.dCrash A
                                                              (Sp.dStart
                                                                  (Sp.putS (nth t58 t60 (0, 0, 0, 0)) (t7_down, t7_armed, t7_after, t7_acut, t7_keep, t7_bs, t7_ws)).fst).fst).fst).fst.fst,
                                                    (Sp.dStart
                                                            (Sp.dCrash A
                                                                (Sp.dStart
                                                                    (Sp.putS (nth t58 t60 (0, 0, 0, 0))
                                                                        (t7_down, t7_armed, t7_after, t7_acut, t7_keep, t7_bs, t7_ws)).fst).fst).fst).fst.snd.fst,
                                                    (Sp.dStart
                                                              (Sp.dCrash A
                                                                  (Sp.dStart
                                                                      (Sp.putS (nth t58 t60 (0, 0, 0, 0))
                                                                          (t7_down, t7_armed, t7_after, t7_acut, t7_keep, t7_bs, t7_ws)).fst).fst).fst).fst.snd.snd.fst,
                                                    (Sp.dStart
                                                                (Sp.dCrash A
                                                                    (Sp.dStart
                                                                        (Sp.putS (nth t58 t60 (0, 0, 0, 0))
                                                                            (t7_down, t7_armed, t7_after, t7_acut, t7_keep, t7_bs, t7_ws)).fst).fst).fst).fst.snd.snd.snd.fst,
                                                    (Sp.dStart
                                                                  (Sp.dCrash A
                                                                      (Sp.dStart
                                                                          (Sp.putS (nth t58 t60 (0, 0, 0, 0))
                                                                              (t7_down, t7_armed, t7_after, t7_acut, t7_keep, t7_bs, t7_ws)).fst).fst).fst).fst.snd.snd.snd.snd.fst,
                                                    (Sp.dStart
                                                                    (Sp.dCrash A
                                                                        (Sp.dStart
                                                                            (Sp.putS (nth t58 t60 (0, 0, 0, 0))
                                                                                (t7_down, t7_armed, t7_after, t7_acut, t7_keep, t7_bs, t7_ws)).fst).fst).fst).fst.snd.snd.snd.snd.snd.fst,
                                                    (Sp.dStart
                                                                    (Sp.dCrash A
                                                                        (Sp.dStart
                                                                            (Sp.putS (nth t58 t60 (0, 0, 0, 0))
                                                                                (t7_down, t7_armed, t7_after, t7_acut, t7_keep, t7_bs, t7_ws)).fst).fst).fst).fst.snd.snd.snd.snd.snd.snd,
                                                    ())
                                        else
                                          Rg IntKind.i64 (t60 + 1) ∧
                                            K0
                                              (o, A, t58, t59, t60 + 1,
                                                (Sp.dStart
                                                      (Sp.dCrash A
                                                          (Sp.dStart
                                                              (Sp.putS (nth t58 t60 (0, 0, 0, 0)) (t7_down, t7_armed, t7_after, t7_acut, t7_keep, t7_bs, t7_ws)).fst).fst).fst).fst.fst,
                                                (Sp.dStart
                                                        (Sp.dCrash A
                                                            (Sp.dStart
                                                                (Sp.putS (nth t58 t60 (0, 0, 0, 0)) (t7_down, t7_armed, t7_after, t7_acut, t7_keep, t7_bs, t7_ws)).fst).fst).fst).fst.snd.fst,
                                                (Sp.dStart
                                                          (Sp.dCrash A
                                                              (Sp.dStart
                                                                  (Sp.putS (nth t58 t60 (0, 0, 0, 0))
                                                                      (t7_down, t7_armed, t7_after, t7_acut, t7_keep, t7_bs, t7_ws)).fst).fst).fst).fst.snd.snd.fst,
                                                (Sp.dStart
                                                            (Sp.dCrash A
                                                                (Sp.dStart
                                                                    (Sp.putS (nth t58 t60 (0, 0, 0, 0))
                                                                        (t7_down, t7_armed, t7_after, t7_acut, t7_keep, t7_bs, t7_ws)).fst).fst).fst).fst.snd.snd.snd.fst,
                                                (Sp.dStart
                                                              (Sp.dCrash A
                                                                  (Sp.dStart
                                                                      (Sp.putS (nth t58 t60 (0, 0, 0, 0))
                                                                          (t7_down, t7_armed, t7_after, t7_acut, t7_keep, t7_bs, t7_ws)).fst).fst).fst).fst.snd.snd.snd.snd.fst,
                                                (Sp.dStart
                                                                (Sp.dCrash A
                                                                    (Sp.dStart
                                                                        (Sp.putS (nth t58 t60 (0, 0, 0, 0))
                                                                            (t7_down, t7_armed, t7_after, t7_acut, t7_keep, t7_bs, t7_ws)).fst).fst).fst).fst.snd.snd.snd.snd.snd.fst,
                                                (Sp.dStart
                                                                (Sp.dCrash A
                                                                    (Sp.dStart
                                                                        (Sp.putS (nth t58 t60 (0, 0, 0, 0))
                                                                            (t7_down, t7_armed, t7_after, t7_acut, t7_keep, t7_bs, t7_ws)).fst).fst).fst).fst.snd.snd.snd.snd.snd.snd,
                                                ())
                                  else
                                    bif
                                        eqI
                                            (Sp.chooseS
                                                  (Sp.dStart
                                                      (Sp.dCrash A
                                                          (Sp.dStart
                                                              (Sp.putS (nth t58 t60 (0, 0, 0, 0)) (t7_down, t7_armed, t7_after, t7_acut, t7_keep, t7_bs, t7_ws)).fst).fst).fst).fst).fst.fst
                                            ((Sp.chooseS (t7_down, t7_armed, t7_after, t7_acut, t7_keep, t7_bs, t7_ws)).fst.fst + 1) &&
                                          (eqI
                                              (Sp.chooseS
                                                      (Sp.dStart
                                                          (Sp.dCrash A
                                                              (Sp.dStart
                                                                  (Sp.putS (nth t58 t60 (0, 0, 0, 0))
                                                                      (t7_down, t7_armed, t7_after, t7_acut, t7_keep, t7_bs, t7_ws)).fst).fst).fst).fst).fst.snd.fst
                                              (nth t58 t60 (0, 0, 0, 0)).snd.fst &&
                                            (eqI
                                                (Sp.chooseS
                                                          (Sp.dStart
                                                              (Sp.dCrash A
                                                                  (Sp.dStart
                                                                      (Sp.putS (nth t58 t60 (0, 0, 0, 0))
                                                                          (t7_down, t7_armed, t7_after, t7_acut, t7_keep, t7_bs, t7_ws)).fst).fst).fst).fst).fst.snd.snd.fst
                                                (nth t58 t60 (0, 0, 0, 0)).snd.snd.fst &&
                                              eqI
                                                (Sp.chooseS
                                                          (Sp.dStart
                                                              (Sp.dCrash A
                                                                  (Sp.dStart
                                                                      (Sp.putS (nth t58 t60 (0, 0, 0, 0))
                                                                          (t7_down, t7_armed, t7_after, t7_acut, t7_keep, t7_bs, t7_ws)).fst).fst).fst).fst).fst.snd.snd.snd
                                                (nth t58 t60 (0, 0, 0, 0)).snd.snd.snd)) then
                                      Rg IntKind.i64 ((Sp.chooseS (t7_down, t7_armed, t7_after, t7_acut, t7_keep, t7_bs, t7_ws)).fst.fst + 1) ∧
                                        bif
                                            !decide
                                                ((Sp.chooseS
                                                        (Sp.dStart
                                                            (Sp.dCrash A
                                                                (Sp.dStart
                                                                    (Sp.putS (nth t58 t60 (0, 0, 0, 0))
                                                                        (t7_down, t7_armed, t7_after, t7_acut, t7_keep, t7_bs, t7_ws)).fst).fst).fst).fst).fst.fst =
                                                  (Sp.chooseS (t7_down, t7_armed, t7_after, t7_acut, t7_keep, t7_bs, t7_ws)).fst.fst + 1) then
                                          R false
                                        else
                                          Rg IntKind.i64 (t60 + 1) ∧
                                            K0
                                              (o, A, t58, t59, t60 + 1,
                                                (Sp.dStart
                                                      (Sp.dCrash A
                                                          (Sp.dStart
                                                              (Sp.putS (nth t58 t60 (0, 0, 0, 0)) (t7_down, t7_armed, t7_after, t7_acut, t7_keep, t7_bs, t7_ws)).fst).fst).fst).fst.fst,
                                                (Sp.dStart
                                                        (Sp.dCrash A
                                                            (Sp.dStart
                                                                (Sp.putS (nth t58 t60 (0, 0, 0, 0)) (t7_down, t7_armed, t7_after, t7_acut, t7_keep, t7_bs, t7_ws)).fst).fst).fst).fst.snd.fst,
                                                (Sp.dStart
                                                          (Sp.dCrash A
                                                              (Sp.dStart
                                                                  (Sp.putS (nth t58 t60 (0, 0, 0, 0))
                                                                      (t7_down, t7_armed, t7_after, t7_acut, t7_keep, t7_bs, t7_ws)).fst).fst).fst).fst.snd.snd.fst,
                                                (Sp.dStart
                                                            (Sp.dCrash A
                                                                (Sp.dStart
                                                                    (Sp.putS (nth t58 t60 (0, 0, 0, 0))
                                                                        (t7_down, t7_armed, t7_after, t7_acut, t7_keep, t7_bs, t7_ws)).fst).fst).fst).fst.snd.snd.snd.fst,
                                                (Sp.dStart
                                                              (Sp.dCrash A
                                                                  (Sp.dStart
                                                                      (Sp.putS (nth t58 t60 (0, 0, 0, 0))
                                                                          (t7_down, t7_armed, t7_after, t7_acut, t7_keep, t7_bs, t7_ws)).fst).fst).fst).fst.snd.snd.snd.snd.fst,
                                                (Sp.dStart
                                                                (Sp.dCrash A
                                                                    (Sp.dStart
                                                                        (Sp.putS (nth t58 t60 (0, 0, 0, 0))
                                                                            (t7_down, t7_armed, t7_after, t7_acut, t7_keep, t7_bs, t7_ws)).fst).fst).fst).fst.snd.snd.snd.snd.snd.fst,
                                                (Sp.dStart
                                                                (Sp.dCrash A
                                                                    (Sp.dStart
                                                                        (Sp.putS (nth t58 t60 (0, 0, 0, 0))
                                                                            (t7_down, t7_armed, t7_after, t7_acut, t7_keep, t7_bs, t7_ws)).fst).fst).fst).fst.snd.snd.snd.snd.snd.snd,
                                                ())
                                    else
                                      Rg IntKind.i64 (t60 + 1) ∧
                                        K0
                                          (o, A, t58, t59, t60 + 1,
                                            (Sp.dStart
                                                  (Sp.dCrash A
                                                      (Sp.dStart (Sp.putS (nth t58 t60 (0, 0, 0, 0)) (t7_down, t7_armed, t7_after, t7_acut, t7_keep, t7_bs, t7_ws)).fst).fst).fst).fst.fst,
                                            (Sp.dStart
                                                    (Sp.dCrash A
                                                        (Sp.dStart
                                                            (Sp.putS (nth t58 t60 (0, 0, 0, 0)) (t7_down, t7_armed, t7_after, t7_acut, t7_keep, t7_bs, t7_ws)).fst).fst).fst).fst.snd.fst,
                                            (Sp.dStart
                                                      (Sp.dCrash A
                                                          (Sp.dStart
                                                              (Sp.putS (nth t58 t60 (0, 0, 0, 0))
                                                                  (t7_down, t7_armed, t7_after, t7_acut, t7_keep, t7_bs, t7_ws)).fst).fst).fst).fst.snd.snd.fst,
                                            (Sp.dStart
                                                        (Sp.dCrash A
                                                            (Sp.dStart
                                                                (Sp.putS (nth t58 t60 (0, 0, 0, 0))
                                                                    (t7_down, t7_armed, t7_after, t7_acut, t7_keep, t7_bs, t7_ws)).fst).fst).fst).fst.snd.snd.snd.fst,
                                            (Sp.dStart
                                                          (Sp.dCrash A
                                                              (Sp.dStart
                                                                  (Sp.putS (nth t58 t60 (0, 0, 0, 0))
                                                                      (t7_down, t7_armed, t7_after, t7_acut, t7_keep, t7_bs, t7_ws)).fst).fst).fst).fst.snd.snd.snd.snd.fst,
                                            (Sp.dStart
                                                            (Sp.dCrash A
                                                                (Sp.dStart
                                                                    (Sp.putS (nth t58 t60 (0, 0, 0, 0))
                                                                        (t7_down, t7_armed, t7_after, t7_acut, t7_keep, t7_bs, t7_ws)).fst).fst).fst).fst.snd.snd.snd.snd.snd.fst,
                                            (Sp.dStart
                                                            (Sp.dCrash A
                                                                (Sp.dStart
                                                                    (Sp.putS (nth t58 t60 (0, 0, 0, 0))
                                                                        (t7_down, t7_armed, t7_after, t7_acut, t7_keep, t7_bs, t7_ws)).fst).fst).fst).fst.snd.snd.snd.snd.snd.snd,
                                            ())
                else
                  Sp.dFall.pre A (Sp.putS (nth t58 t60 (0, 0, 0, 0)) (t7_down, t7_armed, t7_after, t7_acut, t7_keep, t7_bs, t7_ws)).fst ∧
                    bif !decide ((Sp.dCrash A (Sp.putS (nth t58 t60 (0, 0, 0, 0)) (t7_down, t7_armed, t7_after, t7_acut, t7_keep, t7_bs, t7_ws)).fst).snd = 0) then R false
                    else
                      Sp.dPre (Sp.dCrash A (Sp.putS (nth t58 t60 (0, 0, 0, 0)) (t7_down, t7_armed, t7_after, t7_acut, t7_keep, t7_bs, t7_ws)).fst).fst ∧
                        bif !decide ((Sp.dStart (Sp.dCrash A (Sp.putS (nth t58 t60 (0, 0, 0, 0)) (t7_down, t7_armed, t7_after, t7_acut, t7_keep, t7_bs, t7_ws)).fst).fst).snd = 0) then
                          R false
                        else
                          Sp.dPre (Sp.dStart (Sp.dCrash A (Sp.putS (nth t58 t60 (0, 0, 0, 0)) (t7_down, t7_armed, t7_after, t7_acut, t7_keep, t7_bs, t7_ws)).fst).fst).fst ∧
                            Rg IntKind.i64 ((Sp.chooseS (t7_down, t7_armed, t7_after, t7_acut, t7_keep, t7_bs, t7_ws)).fst.fst + 1) ∧
                              bif
                                  !decide
                                      ((Sp.chooseS
                                              (Sp.dStart
                                                  (Sp.dCrash A (Sp.putS (nth t58 t60 (0, 0, 0, 0)) (t7_down, t7_armed, t7_after, t7_acut, t7_keep, t7_bs, t7_ws)).fst).fst).fst).snd.snd =
                                        0) then
                                R false
                              else
                                bif
                                    !(eqI
                                          (Sp.chooseS
                                                (Sp.dStart
                                                    (Sp.dCrash A (Sp.putS (nth t58 t60 (0, 0, 0, 0)) (t7_down, t7_armed, t7_after, t7_acut, t7_keep, t7_bs, t7_ws)).fst).fst).fst).fst.fst
                                          ((Sp.chooseS (t7_down, t7_armed, t7_after, t7_acut, t7_keep, t7_bs, t7_ws)).fst.fst + 1) &&
                                        (eqI
                                            (Sp.chooseS
                                                    (Sp.dStart
                                                        (Sp.dCrash A
                                                            (Sp.putS (nth t58 t60 (0, 0, 0, 0)) (t7_down, t7_armed, t7_after, t7_acut, t7_keep, t7_bs, t7_ws)).fst).fst).fst).fst.snd.fst
                                            (nth t58 t60 (0, 0, 0, 0)).snd.fst &&
                                          (eqI
                                              (Sp.chooseS
                                                        (Sp.dStart
                                                            (Sp.dCrash A
                                                                (Sp.putS (nth t58 t60 (0, 0, 0, 0))
                                                                    (t7_down, t7_armed, t7_after, t7_acut, t7_keep, t7_bs, t7_ws)).fst).fst).fst).fst.snd.snd.fst
                                              (nth t58 t60 (0, 0, 0, 0)).snd.snd.fst &&
                                            eqI
                                              (Sp.chooseS
                                                        (Sp.dStart
                                                            (Sp.dCrash A
                                                                (Sp.putS (nth t58 t60 (0, 0, 0, 0))
                                                                    (t7_down, t7_armed, t7_after, t7_acut, t7_keep, t7_bs, t7_ws)).fst).fst).fst).fst.snd.snd.snd
                                              (nth t58 t60 (0, 0, 0, 0)).snd.snd.snd))) then
                                  bif
                                      !(eqI
                                            (Sp.chooseS
                                                  (Sp.dStart
                                                      (Sp.dCrash A (Sp.putS (nth t58 t60 (0, 0, 0, 0)) (t7_down, t7_armed, t7_after, t7_acut, t7_keep, t7_bs, t7_ws)).fst).fst).fst).fst.fst
                                            (Sp.chooseS (t7_down, t7_armed, t7_after, t7_acut, t7_keep, t7_bs, t7_ws)).fst.fst &&
                                          (eqI
                                              (Sp.chooseS
                                                      (Sp.dStart
                                                          (Sp.dCrash A
                                                              (Sp.putS (nth t58 t60 (0, 0, 0, 0)) (t7_down, t7_armed, t7_after, t7_acut, t7_keep, t7_bs, t7_ws)).fst).fst).fst).fst.snd.fst
                                              (Sp.chooseS (t7_down, t7_armed, t7_after, t7_acut, t7_keep, t7_bs, t7_ws)).fst.snd.fst &&
                                            (eqI
                                                (Sp.chooseS
                                                          (Sp.dStart
                                                              (Sp.dCrash A
                                                                  (Sp.putS (nth t58 t60 (0, 0, 0, 0))
                                                                      (t7_down, t7_armed, t7_after, t7_acut, t7_keep, t7_bs, t7_ws)).fst).fst).fst).fst.snd.snd.fst
                                                (Sp.chooseS (t7_down, t7_armed, t7_after, t7_acut, t7_keep, t7_bs, t7_ws)).fst.snd.snd.fst &&
                                              eqI
                                                (Sp.chooseS
                                                          (Sp.dStart
                                                              (Sp.dCrash A
                                                                  (Sp.putS (nth t58 t60 (0, 0, 0, 0))
                                                                      (t7_down, t7_armed, t7_after, t7_acut, t7_keep, t7_bs, t7_ws)).fst).fst).fst).fst.snd.snd.snd
                                                (Sp.chooseS (t7_down, t7_armed, t7_after, t7_acut, t7_keep, t7_bs, t7_ws)).fst.snd.snd.snd))) then
                                    R false
                                  else
                                    bif decide ((Sp.putS (nth t58 t60 (0, 0, 0, 0)) (t7_down, t7_armed, t7_after, t7_acut, t7_keep, t7_bs, t7_ws)).snd = 0) then R false
                                    else
                                      bif
                                          eqI
                                              (Sp.chooseS
                                                    (Sp.dStart
                                                        (Sp.dCrash A (Sp.putS (nth t58 t60 (0, 0, 0, 0)) (t7_down, t7_armed, t7_after, t7_acut, t7_keep, t7_bs, t7_ws)).fst).fst).fst).fst.fst
                                              ((Sp.chooseS (t7_down, t7_armed, t7_after, t7_acut, t7_keep, t7_bs, t7_ws)).fst.fst + 1) &&
                                            (eqI
                                                (Sp.chooseS
                                                        (Sp.dStart
                                                            (Sp.dCrash A
                                                                (Sp.putS (nth t58 t60 (0, 0, 0, 0)) (t7_down, t7_armed, t7_after, t7_acut, t7_keep, t7_bs, t7_ws)).fst).fst).fst).fst.snd.fst
                                                (nth t58 t60 (0, 0, 0, 0)).snd.fst &&
                                              (eqI
                                                  (Sp.chooseS
                                                            (Sp.dStart
                                                                (Sp.dCrash A
                                                                    (Sp.putS (nth t58 t60 (0, 0, 0, 0))
                                                                        (t7_down, t7_armed, t7_after, t7_acut, t7_keep, t7_bs, t7_ws)).fst).fst).fst).fst.snd.snd.fst
                                                  (nth t58 t60 (0, 0, 0, 0)).snd.snd.fst &&
                                                eqI
                                                  (Sp.chooseS
                                                            (Sp.dStart
                                                                (Sp.dCrash A
                                                                    (Sp.putS (nth t58 t60 (0, 0, 0, 0))
                                                                        (t7_down, t7_armed, t7_after, t7_acut, t7_keep, t7_bs, t7_ws)).fst).fst).fst).fst.snd.snd.snd
                                                  (nth t58 t60 (0, 0, 0, 0)).snd.snd.snd)) then
                                        Rg IntKind.i64 ((Sp.chooseS (t7_down, t7_armed, t7_after, t7_acut, t7_keep, t7_bs, t7_ws)).fst.fst + 1) ∧
                                          bif
                                              !decide
                                                  ((Sp.chooseS
                                                          (Sp.dStart
                                                              (Sp.dCrash A
                                                                  (Sp.putS (nth t58 t60 (0, 0, 0, 0)) (t7_down, t7_armed, t7_after, t7_acut, t7_keep, t7_bs, t7_ws)).fst).fst).fst).fst.fst =
                                                    (Sp.chooseS (t7_down, t7_armed, t7_after, t7_acut, t7_keep, t7_bs, t7_ws)).fst.fst + 1) then
                                            R false
                                          else
                                            Rg IntKind.i64 (t60 + 1) ∧
                                              K0
                                                (o, A, t58, t59, t60 + 1,
                                                  (Sp.dStart
                                                        (Sp.dCrash A (Sp.putS (nth t58 t60 (0, 0, 0, 0)) (t7_down, t7_armed, t7_after, t7_acut, t7_keep, t7_bs, t7_ws)).fst).fst).fst.fst,
                                                  (Sp.dStart
                                                          (Sp.dCrash A
                                                              (Sp.putS (nth t58 t60 (0, 0, 0, 0)) (t7_down, t7_armed, t7_after, t7_acut, t7_keep, t7_bs, t7_ws)).fst).fst).fst.snd.fst,
                                                  (Sp.dStart
                                                            (Sp.dCrash A
                                                                (Sp.putS (nth t58 t60 (0, 0, 0, 0)) (t7_down, t7_armed, t7_after, t7_acut, t7_keep, t7_bs, t7_ws)).fst).fst).fst.snd.snd.fst,
                                                  (Sp.dStart
                                                              (Sp.dCrash A
                                                                  (Sp.putS (nth t58 t60 (0, 0, 0, 0))
                                                                      (t7_down, t7_armed, t7_after, t7_acut, t7_keep, t7_bs, t7_ws)).fst).fst).fst.snd.snd.snd.fst,
                                                  (Sp.dStart
                                                                (Sp.dCrash A
                                                                    (Sp.putS (nth t58 t60 (0, 0, 0, 0))
                                                                        (t7_down, t7_armed, t7_after, t7_acut, t7_keep, t7_bs, t7_ws)).fst).fst).fst.snd.snd.snd.snd.fst,
                                                  (Sp.dStart
                                                                  (Sp.dCrash A
                                                                      (Sp.putS (nth t58 t60 (0, 0, 0, 0))
                                                                          (t7_down, t7_armed, t7_after, t7_acut, t7_keep, t7_bs, t7_ws)).fst).fst).fst.snd.snd.snd.snd.snd.fst,
                                                  (Sp.dStart
                                                                  (Sp.dCrash A
                                                                      (Sp.putS (nth t58 t60 (0, 0, 0, 0))
                                                                          (t7_down, t7_armed, t7_after, t7_acut, t7_keep, t7_bs, t7_ws)).fst).fst).fst.snd.snd.snd.snd.snd.snd,
                                                  ())
                                      else
                                        Rg IntKind.i64 (t60 + 1) ∧
                                          K0
                                            (o, A, t58, t59, t60 + 1,
                                              (Sp.dStart (Sp.dCrash A (Sp.putS (nth t58 t60 (0, 0, 0, 0)) (t7_down, t7_armed, t7_after, t7_acut, t7_keep, t7_bs, t7_ws)).fst).fst).fst.fst,
                                              (Sp.dStart
                                                      (Sp.dCrash A (Sp.putS (nth t58 t60 (0, 0, 0, 0)) (t7_down, t7_armed, t7_after, t7_acut, t7_keep, t7_bs, t7_ws)).fst).fst).fst.snd.fst,
                                              (Sp.dStart
                                                        (Sp.dCrash A
                                                            (Sp.putS (nth t58 t60 (0, 0, 0, 0)) (t7_down, t7_armed, t7_after, t7_acut, t7_keep, t7_bs, t7_ws)).fst).fst).fst.snd.snd.fst,
                                              (Sp.dStart
                                                          (Sp.dCrash A
                                                              (Sp.putS (nth t58 t60 (0, 0, 0, 0))
                                                                  (t7_down, t7_armed, t7_after, t7_acut, t7_keep, t7_bs, t7_ws)).fst).fst).fst.snd.snd.snd.fst,
                                              (Sp.dStart
                                                            (Sp.dCrash A
                                                                (Sp.putS (nth t58 t60 (0, 0, 0, 0))
                                                                    (t7_down, t7_armed, t7_after, t7_acut, t7_keep, t7_bs, t7_ws)).fst).fst).fst.snd.snd.snd.snd.fst,
                                              (Sp.dStart
                                                              (Sp.dCrash A
                                                                  (Sp.putS (nth t58 t60 (0, 0, 0, 0))
                                                                      (t7_down, t7_armed, t7_after, t7_acut, t7_keep, t7_bs, t7_ws)).fst).fst).fst.snd.snd.snd.snd.snd.fst,
                                              (Sp.dStart
                                                              (Sp.dCrash A
                                                                  (Sp.putS (nth t58 t60 (0, 0, 0, 0))
                                                                      (t7_down, t7_armed, t7_after, t7_acut, t7_keep, t7_bs, t7_ws)).fst).fst).fst.snd.snd.snd.snd.snd.snd,
                                              ())
                                else
                                  bif
                                      eqI
                                          (Sp.chooseS
                                                (Sp.dStart
                                                    (Sp.dCrash A (Sp.putS (nth t58 t60 (0, 0, 0, 0)) (t7_down, t7_armed, t7_after, t7_acut, t7_keep, t7_bs, t7_ws)).fst).fst).fst).fst.fst
                                          ((Sp.chooseS (t7_down, t7_armed, t7_after, t7_acut, t7_keep, t7_bs, t7_ws)).fst.fst + 1) &&
                                        (eqI
                                            (Sp.chooseS
                                                    (Sp.dStart
                                                        (Sp.dCrash A
                                                            (Sp.putS (nth t58 t60 (0, 0, 0, 0)) (t7_down, t7_armed, t7_after, t7_acut, t7_keep, t7_bs, t7_ws)).fst).fst).fst).fst.snd.fst
                                            (nth t58 t60 (0, 0, 0, 0)).snd.fst &&
                                          (eqI
                                              (Sp.chooseS
                                                        (Sp.dStart
                                                            (Sp.dCrash A
                                                                (Sp.putS (nth t58 t60 (0, 0, 0, 0))
                                                                    (t7_down, t7_armed, t7_after, t7_acut, t7_keep, t7_bs, t7_ws)).fst).fst).fst).fst.snd.snd.fst
                                              (nth t58 t60 (0, 0, 0, 0)).snd.snd.fst &&
                                            eqI
                                              (Sp.chooseS
                                                        (Sp.dStart
                                                            (Sp.dCrash A
                                                                (Sp.putS (nth t58 t60 (0, 0, 0, 0))
                                                                    (t7_down, t7_armed, t7_after, t7_acut, t7_keep, t7_bs, t7_ws)).fst).fst).fst).fst.snd.snd.snd
                                              (nth t58 t60 (0, 0, 0, 0)).snd.snd.snd)) then
                                    Rg IntKind.i64 ((Sp.chooseS (t7_down, t7_armed, t7_after, t7_acut, t7_keep, t7_bs, t7_ws)).fst.fst + 1) ∧
                                      bif
                                          !decide
                                              ((Sp.chooseS
                                                      (Sp.dStart
                                                          (Sp.dCrash A
                                                              (Sp.putS (nth t58 t60 (0, 0, 0, 0)) (t7_down, t7_armed, t7_after, t7_acut, t7_keep, t7_bs, t7_ws)).fst).fst).fst).fst.fst =
                                                (Sp.chooseS (t7_down, t7_armed, t7_after, t7_acut, t7_keep, t7_bs, t7_ws)).fst.fst + 1) then
                                        R false
                                      else
                                        Rg IntKind.i64 (t60 + 1) ∧
                                          K0
                                            (o, A, t58, t59, t60 + 1,
                                              (Sp.dStart (Sp.dCrash A (Sp.putS (nth t58 t60 (0, 0, 0, 0)) (t7_down, t7_armed, t7_after, t7_acut, t7_keep, t7_bs, t7_ws)).fst).fst).fst.fst,
                                              (Sp.dStart
                                                      (Sp.dCrash A (Sp.putS (nth t58 t60 (0, 0, 0, 0)) (t7_down, t7_armed, t7_after, t7_acut, t7_keep, t7_bs, t7_ws)).fst).fst).fst.snd.fst,
                                              (Sp.dStart
                                                        (Sp.dCrash A
                                                            (Sp.putS (nth t58 t60 (0, 0, 0, 0)) (t7_down, t7_armed, t7_after, t7_acut, t7_keep, t7_bs, t7_ws)).fst).fst).fst.snd.snd.fst,
                                              (Sp.dStart
                                                          (Sp.dCrash A
                                                              (Sp.putS (nth t58 t60 (0, 0, 0, 0))
                                                                  (t7_down, t7_armed, t7_after, t7_acut, t7_keep, t7_bs, t7_ws)).fst).fst).fst.snd.snd.snd.fst,
                                              (Sp.dStart
                                                            (Sp.dCrash A
                                                                (Sp.putS (nth t58 t60 (0, 0, 0, 0))
                                                                    (t7_down, t7_armed, t7_after, t7_acut, t7_keep, t7_bs, t7_ws)).fst).fst).fst.snd.snd.snd.snd.fst,
                                              (Sp.dStart
                                                              (Sp.dCrash A
                                                                  (Sp.putS (nth t58 t60 (0, 0, 0, 0))
                                                                      (t7_down, t7_armed, t7_after, t7_acut, t7_keep, t7_bs, t7_ws)).fst).fst).fst.snd.snd.snd.snd.snd.fst,
                                              (Sp.dStart
                                                              (Sp.dCrash A
                                                                  (Sp.putS (nth t58 t60 (0, 0, 0, 0))
                                                                      (t7_down, t7_armed, t7_after, t7_acut, t7_keep, t7_bs, t7_ws)).fst).fst).fst.snd.snd.snd.snd.snd.snd,
                                              ())
                                  else
                                    Rg IntKind.i64 (t60 + 1) ∧
                                      K0
                                        (o, A, t58, t59, t60 + 1,
                                          (Sp.dStart (Sp.dCrash A (Sp.putS (nth t58 t60 (0, 0, 0, 0)) (t7_down, t7_armed, t7_after, t7_acut, t7_keep, t7_bs, t7_ws)).fst).fst).fst.fst,
                                          (Sp.dStart (Sp.dCrash A (Sp.putS (nth t58 t60 (0, 0, 0, 0)) (t7_down, t7_armed, t7_after, t7_acut, t7_keep, t7_bs, t7_ws)).fst).fst).fst.snd.fst,
                                          (Sp.dStart
                                                    (Sp.dCrash A (Sp.putS (nth t58 t60 (0, 0, 0, 0)) (t7_down, t7_armed, t7_after, t7_acut, t7_keep, t7_bs, t7_ws)).fst).fst).fst.snd.snd.fst,
                                          (Sp.dStart
                                                      (Sp.dCrash A
                                                          (Sp.putS (nth t58 t60 (0, 0, 0, 0)) (t7_down, t7_armed, t7_after, t7_acut, t7_keep, t7_bs, t7_ws)).fst).fst).fst.snd.snd.snd.fst,
                                          (Sp.dStart
                                                        (Sp.dCrash A
                                                            (Sp.putS (nth t58 t60 (0, 0, 0, 0))
                                                                (t7_down, t7_armed, t7_after, t7_acut, t7_keep, t7_bs, t7_ws)).fst).fst).fst.snd.snd.snd.snd.fst,
                                          (Sp.dStart
                                                          (Sp.dCrash A
                                                              (Sp.putS (nth t58 t60 (0, 0, 0, 0))
                                                                  (t7_down, t7_armed, t7_after, t7_acut, t7_keep, t7_bs, t7_ws)).fst).fst).fst.snd.snd.snd.snd.snd.fst,
                                          (Sp.dStart
                                                          (Sp.dCrash A
                                                              (Sp.putS (nth t58 t60 (0, 0, 0, 0))
                                                                  (t7_down, t7_armed, t7_after, t7_acut, t7_keep, t7_bs, t7_ws)).fst).fst).fst.snd.snd.snd.snd.snd.snd,
                                          ())
  else R Sp.tt
def rectolaw28_SlotLasts.vc (R : Bool → Prop) (t : List (Int × Int × Int × Int)) (o : List (Int × Bool × List Int)) (A : List Int) : Prop :=
  bif decide (40 < (↑t.length : Int)) then R Sp.tt
  else
    bif decide (40 < (↑o.length : Int)) then R Sp.tt
    else
      bif decide (60 < (↑A.length : Int)) then R Sp.tt
      else
        Sp.dPre9 (false, false, (Sp.dNew 4).snd.snd.fst, false, (Sp.dNew 4).snd.snd.snd.snd) ∧
          Lp
            (fun v K =>
              rectolaw28_SlotLasts.L0 R v.fst v.snd.fst v.snd.snd.fst v.snd.snd.snd.fst v.snd.snd.snd.snd.fst v.snd.snd.snd.snd.snd.fst v.snd.snd.snd.snd.snd.snd.fst
                v.snd.snd.snd.snd.snd.snd.snd.fst v.snd.snd.snd.snd.snd.snd.snd.snd.fst v.snd.snd.snd.snd.snd.snd.snd.snd.snd.fst v.snd.snd.snd.snd.snd.snd.snd.snd.snd.snd.fst
                v.snd.snd.snd.snd.snd.snd.snd.snd.snd.snd.snd.fst K)
            (o, A, t, (↑t.length : Int), 0, false, false, (Sp.formatS (false, false, (Sp.dNew 4).snd.snd.fst, false, (Sp.dNew 4).snd.snd.snd.snd)).fst.snd.snd.fst, false,
              (Sp.formatS (false, false, (Sp.dNew 4).snd.snd.fst, false, (Sp.dNew 4).snd.snd.snd.snd)).fst.snd.snd.snd.snd.fst,
              (Sp.formatS (false, false, (Sp.dNew 4).snd.snd.fst, false, (Sp.dNew 4).snd.snd.snd.snd)).fst.snd.snd.snd.snd.snd.fst,
              (Sp.formatS (false, false, (Sp.dNew 4).snd.snd.fst, false, (Sp.dNew 4).snd.snd.snd.snd)).fst.snd.snd.snd.snd.snd.snd, ())

