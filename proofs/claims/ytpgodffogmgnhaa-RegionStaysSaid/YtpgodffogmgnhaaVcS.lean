/- Conditions of functions. Written by a program of this session. -/
import Derived.Test.YtpgodffogmgnhaaSpS
set_option linter.unnecessarySimpa false
set_option linter.unusedVariables false
set_option linter.unusedSectionVars false
set_option linter.unusedSimpArgs false
set_option autoImplicit false
set_option linter.unusedVariables false
open Go Vi

def internal_stringslite_HasPrefix.vc (R : Bool → Prop) (s : Str) (prefix_ : Str) : Prop :=
  bif decide ((↑(List.length prefix_) : Int) ≤ (↑(List.length s) : Int)) then
    Sb 0 (↑(List.length prefix_) : Int) (List.length s) ∧ R (decide (sub s 0 (↑(List.length prefix_) : Int) = prefix_))
  else R false

def internal_stringslite_CutPrefix.vc (R : List UInt8 → Bool → Prop) (s : Str) (prefix_ : Str) : Prop :=
  Sp.preB.pre s prefix_ ∧
    bif !Sp.preB s prefix_ then R s false
    else Sb (↑(List.length prefix_) : Int) (↑(List.length s) : Int) (List.length s) ∧ R (sub s (↑(List.length prefix_) : Int) (↑(List.length s) : Int)) true

def strings_CutPrefix.vc (R : List UInt8 → Bool → Prop) (s : Str) (prefix_ : Str) : Prop :=
  Sp.preB.pre s prefix_ ∧ R (Sp.cutP s prefix_).fst (Sp.cutP s prefix_).snd

def slot_Slot_parts.vc (R : List Int → Prop) (s : Int × Int × Int × Int) : Prop :=
  Ln 4 4 ∧ Ln 4 4 ∧ R [s.fst, s.snd.fst, s.snd.snd.fst, s.snd.snd.snd]

def slot_Slot_right_1.vc (R : Bool → Prop) (n : Int) : Prop :=
  bif decide (0 ≤ n) then R (decide (n ≤ 65536)) else R false

def slot_Slot_right.vc (R : Bool → Prop) (s : Int × Int × Int × Int) : Prop :=
  bif decide (1 ≤ s.fst) then
    bif decide (s.fst ≤ 1099511627776) then
      bif decide (s.snd.fst = 0) then bif Sp.countS s.snd.snd.fst then R (Sp.countS s.snd.snd.snd) else R false
      else bif decide (s.snd.fst = 1) then bif Sp.countS s.snd.snd.fst then R (Sp.countS s.snd.snd.snd) else R false else R false
    else R false
  else R false

def slot_padded.vc (R : List UInt8 → Prop) (s : Str) : Prop :=
  Rg IntKind.i64 (256 - (↑(List.length s) : Int)) ∧
    Sp.repS.pre [0] (256 - (↑(List.length s) : Int)) ∧
      (↑(List.length s) : Int) + (↑(List.length (Sp.repS [0] (256 - (↑(List.length s) : Int)))) : Int) ≤ 9223372036854775807 ∧ R (s ++ Sp.repS [0] (256 - (↑(List.length s) : Int)))

def slot_Block.L0 (R : List UInt8 → Int → Prop) (out : List UInt8) (t13 : List Int) (t14 : Int) (K0 : List UInt8 × List Int × Int × Unit → Prop) : Prop :=
  bif decide (t14 < 4) then
    Ix t14 4 ∧
      (↑out.length : Int) + (↑(List.length (Sp.numP (nth t13 t14 0)).fst) : Int) ≤ 9223372036854775807 ∧
        Rg IntKind.i64 (t14 + 1) ∧ K0 (out ++ (Sp.numP (nth t13 t14 0)).fst, t13, t14 + 1, ())
  else Sp.padS.pre out ∧ R (Sp.padS out) 0
def slot_Block.vc (R : List UInt8 → Int → Prop) (s : Int × Int × Int × Int) : Prop :=
  bif !Sp.rightS s then R [] 1 else Lp (fun v K => slot_Block.L0 R v.fst v.snd.fst v.snd.snd.fst K) ([114, 99, 116, 111], Sp.partsS s, 0, ())

def slot_Read.L0 (R : Int × Int × Int × Int →
  Bool →
    Prop) (b : List
  UInt8) (rest : List
  UInt8) (t24 : Int) (t2_Number : Int) (t2_Region : Int) (t2_Bytes : Int) (t2_Records : Int) (l : List
  Int) (K0 : List UInt8 × List UInt8 × Int × Int × Int × Int × Int × List Int × Unit → Prop) : Prop :=
  bif decide (t24 < 4) then
    Sp.takeNum.pre rest ∧
      Ln 4 l.length ∧
        Ix t24 4 ∧
          Ix t24 l.length ∧
            bif !decide ((Sp.takeNum rest).snd.snd = 0) then R (0, 0, 0, 0) false
            else Rg IntKind.i64 (t24 + 1) ∧ K0 (b, (Sp.takeNum rest).snd.fst, t24 + 1, t2_Number, t2_Region, t2_Bytes, t2_Records, l.set t24.toNat (Sp.takeNum rest).fst, ())
  else
    Ln 4 l.length ∧
      Ix 0 4 ∧
        Ix 0 l.length ∧
          Ln 4 l.length ∧
            Ix 1 4 ∧
              Ix 1 l.length ∧
                Ln 4 l.length ∧
                  Ix 2 4 ∧
                    Ix 2 l.length ∧
                      Ln 4 l.length ∧
                        Ix 3 4 ∧
                          Ix 3 l.length ∧
                            bif !decide ((Sp.blockS (nth l 0 0, nth l 1 0, nth l 2 0, nth l 3 0)).snd = 0) then R (0, 0, 0, 0) false
                            else
                              Sb 0 64 (List.length (Sp.blockS (nth l 0 0, nth l 1 0, nth l 2 0, nth l 3 0)).fst) ∧
                                Sb 0 64 b.length ∧
                                  bif !decide (sub (Sp.blockS (nth l 0 0, nth l 1 0, nth l 2 0, nth l 3 0)).fst 0 64 = sub b 0 64) then R (0, 0, 0, 0) false
                                  else R (nth l 0 0, nth l 1 0, nth l 2 0, nth l 3 0) true
def slot_Read.vc (R : Int × Int × Int × Int → Bool → Prop) (b : Str) : Prop :=
  bif !decide ((↑(List.length b) : Int) = 256) then R (0, 0, 0, 0) false
  else
    Sp.preB.pre b [114, 99, 116, 111] ∧
      bif !(Sp.cutP b [114, 99, 116, 111]).snd then R (0, 0, 0, 0) false
      else
        Lp
          (fun v K =>
            slot_Read.L0 R v.fst v.snd.fst v.snd.snd.fst v.snd.snd.snd.fst v.snd.snd.snd.snd.fst v.snd.snd.snd.snd.snd.fst v.snd.snd.snd.snd.snd.snd.fst v.snd.snd.snd.snd.snd.snd.snd.fst K)
          (b, (Sp.cutP b [114, 99, 116, 111]).fst, 0, 0, 0, 0, 0, List.replicate 4 0, ())

def slot_Choose.L0 (R : Int × Int × Int × Int →
  Int →
    Int →
      Bool →
        Bool →
          Int →
            Bool →
              List Int →
                List (List (List UInt8)) →
                  List (Int × List (List UInt8)) →
                    Prop) (at_ : Int) (t13 : Int) (down : Bool) (armed : Bool) (after : Int) (acut : Bool) (keep : List
  Int) (bs : List
  (List
    (List
      UInt8))) (ws : List
  (Int ×
    List
      (List
        UInt8))) (t2_Number : Int) (t2_Region : Int) (t2_Bytes : Int) (t2_Records : Int) (best_Number : Int) (best_Region : Int) (best_Bytes : Int) (best_Records : Int) (K0 : Int ×
    Int × Bool × Bool × Int × Bool × List Int × List (List (List UInt8)) × List (Int × List (List UInt8)) × Int × Int × Int × Int × Int × Int × Int × Int × Unit →
  Prop) : Prop :=
  bif decide (t13 < 2) then
    Sp.dPre (down, armed, after, acut, keep, bs, ws) ∧
      bif !decide ((Sp.dRead t13 (down, armed, after, acut, keep, bs, ws)).snd = 0) then
        R (0, 0, 0, 0) 0 (Sp.dRead t13 (down, armed, after, acut, keep, bs, ws)).snd down armed after acut keep bs ws
      else
        Sp.readS.pre (Sp.dRead t13 (down, armed, after, acut, keep, bs, ws)).fst ∧
          bif (Sp.readS (Sp.dRead t13 (down, armed, after, acut, keep, bs, ws)).fst).snd then
            bif decide (best_Number < (Sp.readS (Sp.dRead t13 (down, armed, after, acut, keep, bs, ws)).fst).fst.fst) then
              Rg IntKind.i64 (t13 + 1) ∧
                K0
                  (t13, t13 + 1, down, armed, after, acut, keep, bs, ws, t2_Number, t2_Region, t2_Bytes, t2_Records,
                    (Sp.readS (Sp.dRead t13 (down, armed, after, acut, keep, bs, ws)).fst).fst.fst, (Sp.readS (Sp.dRead t13 (down, armed, after, acut, keep, bs, ws)).fst).fst.snd.fst,
                    (Sp.readS (Sp.dRead t13 (down, armed, after, acut, keep, bs, ws)).fst).fst.snd.snd.fst,
                    (Sp.readS (Sp.dRead t13 (down, armed, after, acut, keep, bs, ws)).fst).fst.snd.snd.snd, ())
            else
              Rg IntKind.i64 (t13 + 1) ∧
                K0 (at_, t13 + 1, down, armed, after, acut, keep, bs, ws, t2_Number, t2_Region, t2_Bytes, t2_Records, best_Number, best_Region, best_Bytes, best_Records, ())
          else
            Rg IntKind.i64 (t13 + 1) ∧
              K0 (at_, t13 + 1, down, armed, after, acut, keep, bs, ws, t2_Number, t2_Region, t2_Bytes, t2_Records, best_Number, best_Region, best_Bytes, best_Records, ())
  else bif decide (at_ < 0) then R (0, 0, 0, 0) 0 290 down armed after acut keep bs ws else R (best_Number, best_Region, best_Bytes, best_Records) at_ 0 down armed after acut keep bs ws
def slot_Choose.vc (R : Int × Int × Int × Int →
  Int →
    Int →
      Bool →
        Bool →
          Int →
            Bool →
              List Int →
                List (List (List UInt8)) →
                  List (Int × List (List UInt8)) →
                    Prop) (down : Bool) (armed : Bool) (after : Int) (acut : Bool) (keep : List Int) (bs : List (List Str)) (ws : List (Int × List Str)) : Prop :=
  Lp
    (fun v K =>
      slot_Choose.L0 R v.fst v.snd.fst v.snd.snd.fst v.snd.snd.snd.fst v.snd.snd.snd.snd.fst v.snd.snd.snd.snd.snd.fst v.snd.snd.snd.snd.snd.snd.fst v.snd.snd.snd.snd.snd.snd.snd.fst
        v.snd.snd.snd.snd.snd.snd.snd.snd.fst v.snd.snd.snd.snd.snd.snd.snd.snd.snd.fst v.snd.snd.snd.snd.snd.snd.snd.snd.snd.snd.fst v.snd.snd.snd.snd.snd.snd.snd.snd.snd.snd.snd.fst
        v.snd.snd.snd.snd.snd.snd.snd.snd.snd.snd.snd.snd.fst v.snd.snd.snd.snd.snd.snd.snd.snd.snd.snd.snd.snd.snd.fst v.snd.snd.snd.snd.snd.snd.snd.snd.snd.snd.snd.snd.snd.snd.fst
        v.snd.snd.snd.snd.snd.snd.snd.snd.snd.snd.snd.snd.snd.snd.snd.fst v.snd.snd.snd.snd.snd.snd.snd.snd.snd.snd.snd.snd.snd.snd.snd.snd.fst K)
    (-1, 0, down, armed, after, acut, keep, bs, ws, 0, 0, 0, 0, 0, 0, 0, 0, ())

def slot_Put.vc (R : Int →
  Bool →
    Bool →
      Int →
        Bool →
          List Int →
            List (List (List UInt8)) →
              List (Int × List (List UInt8)) →
                Prop) (s : Int × Int × Int × Int) (down : Bool) (armed : Bool) (after : Int) (acut : Bool) (keep : List Int) (bs : List (List Str)) (ws : List (Int × List Str)) : Prop :=
  Sp.dPre (down, armed, after, acut, keep, bs, ws) ∧
    bif !decide ((Sp.chooseS (down, armed, after, acut, keep, bs, ws)).snd.snd = 0) then R (Sp.chooseS (down, armed, after, acut, keep, bs, ws)).snd.snd down armed after acut keep bs ws
    else
      Rg IntKind.i64 ((Sp.chooseS (down, armed, after, acut, keep, bs, ws)).fst.fst + 1) ∧
        bif !decide ((Sp.blockS ((Sp.chooseS (down, armed, after, acut, keep, bs, ws)).fst.fst + 1, s.snd)).snd = 0) then
          R (Sp.blockS ((Sp.chooseS (down, armed, after, acut, keep, bs, ws)).fst.fst + 1, s.snd)).snd down armed after acut keep bs ws
        else
          Rg IntKind.i64 (1 - (Sp.chooseS (down, armed, after, acut, keep, bs, ws)).snd.fst) ∧
            Sp.dWrite.pre (1 - (Sp.chooseS (down, armed, after, acut, keep, bs, ws)).snd.fst) (Sp.blockS ((Sp.chooseS (down, armed, after, acut, keep, bs, ws)).fst.fst + 1, s.snd)).fst
                (down, armed, after, acut, keep, bs, ws) ∧
              bif
                  !decide
                      ((Sp.dWrite (1 - (Sp.chooseS (down, armed, after, acut, keep, bs, ws)).snd.fst)
                            (Sp.blockS ((Sp.chooseS (down, armed, after, acut, keep, bs, ws)).fst.fst + 1, s.snd)).fst (down, armed, after, acut, keep, bs, ws)).snd =
                        0) then
                R
                  (Sp.dWrite (1 - (Sp.chooseS (down, armed, after, acut, keep, bs, ws)).snd.fst) (Sp.blockS ((Sp.chooseS (down, armed, after, acut, keep, bs, ws)).fst.fst + 1, s.snd)).fst
                      (down, armed, after, acut, keep, bs, ws)).snd
                  (Sp.dWrite (1 - (Sp.chooseS (down, armed, after, acut, keep, bs, ws)).snd.fst) (Sp.blockS ((Sp.chooseS (down, armed, after, acut, keep, bs, ws)).fst.fst + 1, s.snd)).fst
                        (down, armed, after, acut, keep, bs, ws)).fst.fst
                  (Sp.dWrite (1 - (Sp.chooseS (down, armed, after, acut, keep, bs, ws)).snd.fst) (Sp.blockS ((Sp.chooseS (down, armed, after, acut, keep, bs, ws)).fst.fst + 1, s.snd)).fst
                          (down, armed, after, acut, keep, bs, ws)).fst.snd.fst
                  (Sp.dWrite (1 - (Sp.chooseS (down, armed, after, acut, keep, bs, ws)).snd.fst) (Sp.blockS ((Sp.chooseS (down, armed, after, acut, keep, bs, ws)).fst.fst + 1, s.snd)).fst
                            (down, armed, after, acut, keep, bs, ws)).fst.snd.snd.fst
                  (Sp.dWrite (1 - (Sp.chooseS (down, armed, after, acut, keep, bs, ws)).snd.fst) (Sp.blockS ((Sp.chooseS (down, armed, after, acut, keep, bs, ws)).fst.fst + 1, s.snd)).fst
                              (down, armed, after, acut, keep, bs, ws)).fst.snd.snd.snd.fst
                  (Sp.dWrite (1 - (Sp.chooseS (down, armed, after, acut, keep, bs, ws)).snd.fst) (Sp.blockS ((Sp.chooseS (down, armed, after, acut, keep, bs, ws)).fst.fst + 1, s.snd)).fst
                                (down, armed, after, acut, keep, bs, ws)).fst.snd.snd.snd.snd.fst
                  (Sp.dWrite (1 - (Sp.chooseS (down, armed, after, acut, keep, bs, ws)).snd.fst) (Sp.blockS ((Sp.chooseS (down, armed, after, acut, keep, bs, ws)).fst.fst + 1, s.snd)).fst
                                  (down, armed, after, acut, keep, bs, ws)).fst.snd.snd.snd.snd.snd.fst
                  (Sp.dWrite (1 - (Sp.chooseS (down, armed, after, acut, keep, bs, ws)).snd.fst) (Sp.blockS ((Sp.chooseS (down, armed, after, acut, keep, bs, ws)).fst.fst + 1, s.snd)).fst
                                  (down, armed, after, acut, keep, bs, ws)).fst.snd.snd.snd.snd.snd.snd
              else
                Sp.dPre
                    (Sp.dWrite (1 - (Sp.chooseS (down, armed, after, acut, keep, bs, ws)).snd.fst) (Sp.blockS ((Sp.chooseS (down, armed, after, acut, keep, bs, ws)).fst.fst + 1, s.snd)).fst
                        (down, armed, after, acut, keep, bs, ws)).fst ∧
                  R
                    (Sp.dFlush
                        (Sp.dWrite (1 - (Sp.chooseS (down, armed, after, acut, keep, bs, ws)).snd.fst)
                            (Sp.blockS ((Sp.chooseS (down, armed, after, acut, keep, bs, ws)).fst.fst + 1, s.snd)).fst (down, armed, after, acut, keep, bs, ws)).fst).snd
                    (Sp.dFlush
                          (Sp.dWrite (1 - (Sp.chooseS (down, armed, after, acut, keep, bs, ws)).snd.fst)
                              (Sp.blockS ((Sp.chooseS (down, armed, after, acut, keep, bs, ws)).fst.fst + 1, s.snd)).fst (down, armed, after, acut, keep, bs, ws)).fst).fst.fst
                    (Sp.dFlush
                            (Sp.dWrite (1 - (Sp.chooseS (down, armed, after, acut, keep, bs, ws)).snd.fst)
                                (Sp.blockS ((Sp.chooseS (down, armed, after, acut, keep, bs, ws)).fst.fst + 1, s.snd)).fst (down, armed, after, acut, keep, bs, ws)).fst).fst.snd.fst
                    (Sp.dFlush
                              (Sp.dWrite (1 - (Sp.chooseS (down, armed, after, acut, keep, bs, ws)).snd.fst)
                                  (Sp.blockS ((Sp.chooseS (down, armed, after, acut, keep, bs, ws)).fst.fst + 1, s.snd)).fst (down, armed, after, acut, keep, bs, ws)).fst).fst.snd.snd.fst
                    (Sp.dFlush
                                (Sp.dWrite (1 - (Sp.chooseS (down, armed, after, acut, keep, bs, ws)).snd.fst)
                                    (Sp.blockS ((Sp.chooseS (down, armed, after, acut, keep, bs, ws)).fst.fst + 1, s.snd)).fst
                                    (down, armed, after, acut, keep, bs, ws)).fst).fst.snd.snd.snd.fst
                    (Sp.dFlush
                                  (Sp.dWrite (1 - (Sp.chooseS (down, armed, after, acut, keep, bs, ws)).snd.fst)
                                      (Sp.blockS ((Sp.chooseS (down, armed, after, acut, keep, bs, ws)).fst.fst + 1, s.snd)).fst
                                      (down, armed, after, acut, keep, bs, ws)).fst).fst.snd.snd.snd.snd.fst
                    (Sp.dFlush
                                    (Sp.dWrite (1 - (Sp.chooseS (down, armed, after, acut, keep, bs, ws)).snd.fst)
                                        (Sp.blockS ((Sp.chooseS (down, armed, after, acut, keep, bs, ws)).fst.fst + 1, s.snd)).fst
                                        (down, armed, after, acut, keep, bs, ws)).fst).fst.snd.snd.snd.snd.snd.fst
                    (Sp.dFlush
                                    (Sp.dWrite (1 - (Sp.chooseS (down, armed, after, acut, keep, bs, ws)).snd.fst)
                                        (Sp.blockS ((Sp.chooseS (down, armed, after, acut, keep, bs, ws)).fst.fst + 1, s.snd)).fst
                                        (down, armed, after, acut, keep, bs, ws)).fst).fst.snd.snd.snd.snd.snd.snd

def slot_Format.L0 (R : Int →
  Bool →
    Bool →
      Int →
        Bool →
          List Int →
            List (List (List UInt8)) →
              List (Int × List (List UInt8)) →
                Prop) (t15 : List
  (List
    UInt8)) (t16 : Int) (down : Bool) (armed : Bool) (after : Int) (acut : Bool) (keep : List
  Int) (bs : List
  (List
    (List
      UInt8))) (ws : List
  (Int × List (List UInt8))) (K0 : List (List UInt8) × Int × Bool × Bool × Int × Bool × List Int × List (List (List UInt8)) × List (Int × List (List UInt8)) × Unit → Prop) : Prop :=
  bif decide (t16 < 2) then
    Ix t16 2 ∧
      Sp.dWrite.pre t16 (nth t15 t16 []) (down, armed, after, acut, keep, bs, ws) ∧
        bif !decide ((Sp.dWrite t16 (nth t15 t16 []) (down, armed, after, acut, keep, bs, ws)).snd = 0) then
          R (Sp.dWrite t16 (nth t15 t16 []) (down, armed, after, acut, keep, bs, ws)).snd (Sp.dWrite t16 (nth t15 t16 []) (down, armed, after, acut, keep, bs, ws)).fst.fst
            (Sp.dWrite t16 (nth t15 t16 []) (down, armed, after, acut, keep, bs, ws)).fst.snd.fst (Sp.dWrite t16 (nth t15 t16 []) (down, armed, after, acut, keep, bs, ws)).fst.snd.snd.fst
            (Sp.dWrite t16 (nth t15 t16 []) (down, armed, after, acut, keep, bs, ws)).fst.snd.snd.snd.fst
            (Sp.dWrite t16 (nth t15 t16 []) (down, armed, after, acut, keep, bs, ws)).fst.snd.snd.snd.snd.fst
            (Sp.dWrite t16 (nth t15 t16 []) (down, armed, after, acut, keep, bs, ws)).fst.snd.snd.snd.snd.snd.fst
            (Sp.dWrite t16 (nth t15 t16 []) (down, armed, after, acut, keep, bs, ws)).fst.snd.snd.snd.snd.snd.snd
        else
          Rg IntKind.i64 (t16 + 1) ∧
            K0
              (t15, t16 + 1, (Sp.dWrite t16 (nth t15 t16 []) (down, armed, after, acut, keep, bs, ws)).fst.fst,
                (Sp.dWrite t16 (nth t15 t16 []) (down, armed, after, acut, keep, bs, ws)).fst.snd.fst,
                (Sp.dWrite t16 (nth t15 t16 []) (down, armed, after, acut, keep, bs, ws)).fst.snd.snd.fst,
                (Sp.dWrite t16 (nth t15 t16 []) (down, armed, after, acut, keep, bs, ws)).fst.snd.snd.snd.fst,
                (Sp.dWrite t16 (nth t15 t16 []) (down, armed, after, acut, keep, bs, ws)).fst.snd.snd.snd.snd.fst,
                (Sp.dWrite t16 (nth t15 t16 []) (down, armed, after, acut, keep, bs, ws)).fst.snd.snd.snd.snd.snd.fst,
                (Sp.dWrite t16 (nth t15 t16 []) (down, armed, after, acut, keep, bs, ws)).fst.snd.snd.snd.snd.snd.snd, ())
  else
    Sp.dPre (down, armed, after, acut, keep, bs, ws) ∧
      R (Sp.dFlush (down, armed, after, acut, keep, bs, ws)).snd (Sp.dFlush (down, armed, after, acut, keep, bs, ws)).fst.fst (Sp.dFlush (down, armed, after, acut, keep, bs, ws)).fst.snd.fst
        (Sp.dFlush (down, armed, after, acut, keep, bs, ws)).fst.snd.snd.fst (Sp.dFlush (down, armed, after, acut, keep, bs, ws)).fst.snd.snd.snd.fst
        (Sp.dFlush (down, armed, after, acut, keep, bs, ws)).fst.snd.snd.snd.snd.fst (Sp.dFlush (down, armed, after, acut, keep, bs, ws)).fst.snd.snd.snd.snd.snd.fst
        (Sp.dFlush (down, armed, after, acut, keep, bs, ws)).fst.snd.snd.snd.snd.snd.snd
def slot_Format.vc (R : Int →
  Bool →
    Bool →
      Int →
        Bool →
          List Int →
            List (List (List UInt8)) →
              List (Int × List (List UInt8)) → Prop) (down : Bool) (armed : Bool) (after : Int) (acut : Bool) (keep : List Int) (bs : List (List Str)) (ws : List (Int × List Str)) : Prop :=
  Sp.padS.pre [] ∧
    Lp
      (fun v K =>
        slot_Format.L0 R v.fst v.snd.fst v.snd.snd.fst v.snd.snd.snd.fst v.snd.snd.snd.snd.fst v.snd.snd.snd.snd.snd.fst v.snd.snd.snd.snd.snd.snd.fst v.snd.snd.snd.snd.snd.snd.snd.fst
          v.snd.snd.snd.snd.snd.snd.snd.snd.fst K)
      ([(Sp.blockS (1, 0, 0, 0)).fst, Sp.padS []], 0, down, armed, after, acut, keep, bs, ws, ())
