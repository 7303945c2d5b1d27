/- Conditions of functions. Written by a program of this session. -/
import Derived.Test.YtpgodffogmgnhaaSpL
set_option linter.unnecessarySimpa false
set_option linter.unusedVariables false
set_option linter.unusedSectionVars false
set_option linter.unusedSimpArgs false
set_option autoImplicit false
set_option linter.unusedVariables false
open Go Vi

def log_blocksOf.vc (R : Int → Prop) (n : Int) : Prop :=
  Rg IntKind.i64 (n + 256) ∧ Rg IntKind.i64 (n + 256 - 1) ∧ Dv (n + 256 - 1) 256 ∧ R ((n + 256 - 1) / 256)

def log_Log_Bytes.vc (R : Int →
  Int →
    Int →
      List UInt8 →
        Int →
          Bool →
            Bool →
              Int →
                Bool →
                  List Int →
                    List (List (List UInt8)) →
                      List (Int × List (List UInt8)) →
                        Prop) (from_ : Int) (blocks : Int) (b : Str) (sealed : Int) (down : Bool) (armed : Bool) (after : Int) (acut : Bool) (keep : List
  Int) (bs : List (List Str)) (ws : List (Int × List Str)) : Prop :=
  R (↑(List.length b) : Int) from_ blocks b sealed down armed after acut keep bs ws

def log_Bytes_nil.vc (R : Int → Prop) : Prop :=
  R 0

def log_Log_Sealed.vc (R : Int →
  Int →
    Int →
      List UInt8 →
        Int →
          Bool →
            Bool →
              Int →
                Bool →
                  List Int →
                    List (List (List UInt8)) →
                      List (Int × List (List UInt8)) →
                        Prop) (from_ : Int) (blocks : Int) (b : Str) (sealed : Int) (down : Bool) (armed : Bool) (after : Int) (acut : Bool) (keep : List
  Int) (bs : List (List Str)) (ws : List (Int × List Str)) : Prop :=
  R sealed from_ blocks b sealed down armed after acut keep bs ws

def log_Sealed_nil.vc (R : Int → Prop) : Prop :=
  R 0

def log_Log_Room.vc (R : Int →
  Int →
    Int →
      List UInt8 →
        Int →
          Bool →
            Bool →
              Int →
                Bool →
                  List Int →
                    List (List (List UInt8)) →
                      List (Int × List (List UInt8)) →
                        Prop) (from_ : Int) (blocks : Int) (b : Str) (sealed : Int) (down : Bool) (armed : Bool) (after : Int) (acut : Bool) (keep : List
  Int) (bs : List (List Str)) (ws : List (Int × List Str)) : Prop :=
  Rg IntKind.i64 (blocks * 256) ∧
    Rg IntKind.i64 (blocks * 256 - (↑(List.length b) : Int)) ∧ R (blocks * 256 - (↑(List.length b) : Int)) from_ blocks b sealed down armed after acut keep bs ws

def log_Room_nil.vc (R : Int → Prop) : Prop :=
  R 0

def log_Log_Add.vc (R : Int →
  Int →
    Int →
      List UInt8 →
        Int →
          Bool →
            Bool →
              Int →
                Bool →
                  List Int →
                    List (List (List UInt8)) →
                      List (Int × List (List UInt8)) →
                        Prop) (s : Str) (from_ : Int) (blocks : Int) (b : Str) (sealed : Int) (down : Bool) (armed : Bool) (after : Int) (acut : Bool) (keep : List
  Int) (bs : List (List Str)) (ws : List (Int × List Str)) : Prop :=
  bif !decide ((Sp.textP s).snd = 0) then R (Sp.textP s).snd from_ blocks b sealed down armed after acut keep bs ws
  else
    Sp.lOk (from_, blocks, b, sealed) ∧
      bif decide (Sp.lRoom (from_, blocks, b, sealed) < (↑(List.length (Sp.textP s).fst) : Int)) then R 5 from_ blocks b sealed down armed after acut keep bs ws
      else (↑(List.length b) : Int) + (↑(List.length (Sp.textP s).fst) : Int) ≤ 9223372036854775807 ∧ R 0 from_ blocks (b ++ (Sp.textP s).fst) sealed down armed after acut keep bs ws

def log_Add_nil.vc (R : Int → Prop) (s : Str) : Prop :=
  R 7

def log_Log_Write.L0 (R : Int →
  Int →
    Int →
      List UInt8 →
        Int →
          Bool →
            Bool →
              Int →
                Bool →
                  List Int →
                    List (List (List UInt8)) →
                      List (Int × List (List UInt8)) →
                        Prop) (i : Int) (from_ : Int) (blocks : Int) (b : List
  UInt8) (sealed : Int) (down : Bool) (armed : Bool) (after : Int) (acut : Bool) (keep : List
  Int) (bs : List
  (List
    (List
      UInt8))) (ws : List
  (Int ×
    List (List UInt8))) (K0 : Int × Int × Int × List UInt8 × Int × Bool × Bool × Int × Bool × List Int × List (List (List UInt8)) × List (Int × List (List UInt8)) × Unit → Prop) : Prop :=
  Sp.blocksOf.pre (↑b.length : Int) ∧
    bif decide (i < Sp.blocksOf (↑b.length : Int)) then
      bif decide (sealed < (↑b.length : Int)) then
        Rg IntKind.i64 (i * 256) ∧
          Rg IntKind.i64 (i + 1) ∧
            Rg IntKind.i64 ((i + 1) * 256) ∧
              Sb (i * 256) (mn (↑b.length : Int) ((i + 1) * 256)) b.length ∧
                Rg IntKind.i64 (from_ + i) ∧
                  Rg IntKind.i64 (256 - (↑(sub b (i * 256) (mn (↑b.length : Int) ((i + 1) * 256))).length : Int)) ∧
                    Sp.repS.pre [0] (256 - (↑(sub b (i * 256) (mn (↑b.length : Int) ((i + 1) * 256))).length : Int)) ∧
                      (↑(sub b (i * 256) (mn (↑b.length : Int) ((i + 1) * 256))).length : Int) +
                            (↑(List.length (Sp.repS [0] (256 - (↑(sub b (i * 256) (mn (↑b.length : Int) ((i + 1) * 256))).length : Int)))) : Int) ≤
                          9223372036854775807 ∧
                        Sp.dWrite.pre (from_ + i)
                            (sub b (i * 256) (mn (↑b.length : Int) ((i + 1) * 256)) ++ Sp.repS [0] (256 - (↑(sub b (i * 256) (mn (↑b.length : Int) ((i + 1) * 256))).length : Int)))
                            (down, armed, after, acut, keep, bs, ws) ∧
                          bif
                              !decide
                                  ((Sp.dWrite (from_ + i)
                                        (sub b (i * 256) (mn (↑b.length : Int) ((i + 1) * 256)) ++
                                          Sp.repS [0] (256 - (↑(sub b (i * 256) (mn (↑b.length : Int) ((i + 1) * 256))).length : Int)))
                                        (down, armed, after, acut, keep, bs, ws)).snd =
                                    0) then
                            R
                              (Sp.dWrite (from_ + i)
                                  (sub b (i * 256) (mn (↑b.length : Int) ((i + 1) * 256)) ++ Sp.repS [0] (256 - (↑(sub b (i * 256) (mn (↑b.length : Int) ((i + 1) * 256))).length : Int)))
                                  (down, armed, after, acut, keep, bs, ws)).snd
                              from_ blocks b sealed
                              (Sp.dWrite (from_ + i)
                                    (sub b (i * 256) (mn (↑b.length : Int) ((i + 1) * 256)) ++ Sp.repS [0] (256 - (↑(sub b (i * 256) (mn (↑b.length : Int) ((i + 1) * 256))).length : Int)))
                                    (down, armed, after, acut, keep, bs, ws)).fst.fst
                              (Sp.dWrite (from_ + i)
                                      (sub b (i * 256) (mn (↑b.length : Int) ((i + 1) * 256)) ++ Sp.repS [0] (256 - (↑(sub b (i * 256) (mn (↑b.length : Int) ((i + 1) * 256))).length : Int)))
                                      (down, armed, after, acut, keep, bs, ws)).fst.snd.fst
                              (Sp.dWrite (from_ + i)
                                        (sub b (i * 256) (mn (↑b.length : Int) ((i + 1) * 256)) ++
                                          Sp.repS [0] (256 - (↑(sub b (i * 256) (mn (↑b.length : Int) ((i + 1) * 256))).length : Int)))
                                        (down, armed, after, acut, keep, bs, ws)).fst.snd.snd.fst
                              (Sp.dWrite (from_ + i)
                                          (sub b (i * 256) (mn (↑b.length : Int) ((i + 1) * 256)) ++
                                            Sp.repS [0] (256 - (↑(sub b (i * 256) (mn (↑b.length : Int) ((i + 1) * 256))).length : Int)))
                                          (down, armed, after, acut, keep, bs, ws)).fst.snd.snd.snd.fst
                              (Sp.dWrite (from_ + i)
                                            (sub b (i * 256) (mn (↑b.length : Int) ((i + 1) * 256)) ++
                                              Sp.repS [0] (256 - (↑(sub b (i * 256) (mn (↑b.length : Int) ((i + 1) * 256))).length : Int)))
                                            (down, armed, after, acut, keep, bs, ws)).fst.snd.snd.snd.snd.fst
                              (Sp.dWrite (from_ + i)
                                              (sub b (i * 256) (mn (↑b.length : Int) ((i + 1) * 256)) ++
                                                Sp.repS [0] (256 - (↑(sub b (i * 256) (mn (↑b.length : Int) ((i + 1) * 256))).length : Int)))
                                              (down, armed, after, acut, keep, bs, ws)).fst.snd.snd.snd.snd.snd.fst
                              (Sp.dWrite (from_ + i)
                                              (sub b (i * 256) (mn (↑b.length : Int) ((i + 1) * 256)) ++
                                                Sp.repS [0] (256 - (↑(sub b (i * 256) (mn (↑b.length : Int) ((i + 1) * 256))).length : Int)))
                                              (down, armed, after, acut, keep, bs, ws)).fst.snd.snd.snd.snd.snd.snd
                          else
                            Rg IntKind.i64 (i + 1) ∧
                              K0
                                (i + 1, from_, blocks, b, sealed,
                                  (Sp.dWrite (from_ + i)
                                        (sub b (i * 256) (mn (↑b.length : Int) ((i + 1) * 256)) ++
                                          Sp.repS [0] (256 - (↑(sub b (i * 256) (mn (↑b.length : Int) ((i + 1) * 256))).length : Int)))
                                        (down, armed, after, acut, keep, bs, ws)).fst.fst,
                                  (Sp.dWrite (from_ + i)
                                          (sub b (i * 256) (mn (↑b.length : Int) ((i + 1) * 256)) ++
                                            Sp.repS [0] (256 - (↑(sub b (i * 256) (mn (↑b.length : Int) ((i + 1) * 256))).length : Int)))
                                          (down, armed, after, acut, keep, bs, ws)).fst.snd.fst,
                                  (Sp.dWrite (from_ + i)
                                            (sub b (i * 256) (mn (↑b.length : Int) ((i + 1) * 256)) ++
                                              Sp.repS [0] (256 - (↑(sub b (i * 256) (mn (↑b.length : Int) ((i + 1) * 256))).length : Int)))
                                            (down, armed, after, acut, keep, bs, ws)).fst.snd.snd.fst,
                                  (Sp.dWrite (from_ + i)
                                              (sub b (i * 256) (mn (↑b.length : Int) ((i + 1) * 256)) ++
                                                Sp.repS [0] (256 - (↑(sub b (i * 256) (mn (↑b.length : Int) ((i + 1) * 256))).length : Int)))
                                              (down, armed, after, acut, keep, bs, ws)).fst.snd.snd.snd.fst,
                                  (Sp.dWrite (from_ + i)
                                                (sub b (i * 256) (mn (↑b.length : Int) ((i + 1) * 256)) ++
                                                  Sp.repS [0] (256 - (↑(sub b (i * 256) (mn (↑b.length : Int) ((i + 1) * 256))).length : Int)))
                                                (down, armed, after, acut, keep, bs, ws)).fst.snd.snd.snd.snd.fst,
                                  (Sp.dWrite (from_ + i)
                                                  (sub b (i * 256) (mn (↑b.length : Int) ((i + 1) * 256)) ++
                                                    Sp.repS [0] (256 - (↑(sub b (i * 256) (mn (↑b.length : Int) ((i + 1) * 256))).length : Int)))
                                                  (down, armed, after, acut, keep, bs, ws)).fst.snd.snd.snd.snd.snd.fst,
                                  (Sp.dWrite (from_ + i)
                                                  (sub b (i * 256) (mn (↑b.length : Int) ((i + 1) * 256)) ++
                                                    Sp.repS [0] (256 - (↑(sub b (i * 256) (mn (↑b.length : Int) ((i + 1) * 256))).length : Int)))
                                                  (down, armed, after, acut, keep, bs, ws)).fst.snd.snd.snd.snd.snd.snd,
                                  ())
      else R 0 from_ blocks b sealed down armed after acut keep bs ws
    else R 0 from_ blocks b sealed down armed after acut keep bs ws
def log_Log_Write.vc (R : Int →
  Int →
    Int →
      List UInt8 →
        Int →
          Bool →
            Bool →
              Int →
                Bool →
                  List Int →
                    List (List (List UInt8)) →
                      List (Int × List (List UInt8)) →
                        Prop) (from_ : Int) (blocks : Int) (b : Str) (sealed : Int) (down : Bool) (armed : Bool) (after : Int) (acut : Bool) (keep : List
  Int) (bs : List (List Str)) (ws : List (Int × List Str)) : Prop :=
  Dv sealed 256 ∧
    Lp
      (fun v K =>
        log_Log_Write.L0 R v.fst v.snd.fst v.snd.snd.fst v.snd.snd.snd.fst v.snd.snd.snd.snd.fst v.snd.snd.snd.snd.snd.fst v.snd.snd.snd.snd.snd.snd.fst v.snd.snd.snd.snd.snd.snd.snd.fst
          v.snd.snd.snd.snd.snd.snd.snd.snd.fst v.snd.snd.snd.snd.snd.snd.snd.snd.snd.fst v.snd.snd.snd.snd.snd.snd.snd.snd.snd.snd.fst v.snd.snd.snd.snd.snd.snd.snd.snd.snd.snd.snd.fst K)
      (sealed / 256, from_, blocks, b, sealed, down, armed, after, acut, keep, bs, ws, ())

def log_Write_nil.vc (R : Int → Prop) : Prop :=
  R 7

def log_Log_Seal.vc (R : Int →
  Int →
    List UInt8 →
      Int →
        Bool →
          Bool →
            Int →
              Bool →
                List Int →
                  List (List (List UInt8)) →
                    List (Int × List (List UInt8)) →
                      Prop) (from_ : Int) (blocks : Int) (b : Str) (sealed : Int) (down : Bool) (armed : Bool) (after : Int) (acut : Bool) (keep : List
  Int) (bs : List (List Str)) (ws : List (Int × List Str)) : Prop :=
  R from_ blocks b (↑(List.length b) : Int) down armed after acut keep bs ws

def log_Seal_nil.vc (R : Prop) : Prop :=
  R

def log_Log_Drop.vc (R : Int →
  Int →
    List UInt8 →
      Int →
        Bool →
          Bool →
            Int →
              Bool →
                List Int →
                  List (List (List UInt8)) →
                    List (Int × List (List UInt8)) →
                      Prop) (from_ : Int) (blocks : Int) (b : Str) (sealed : Int) (down : Bool) (armed : Bool) (after : Int) (acut : Bool) (keep : List
  Int) (bs : List (List Str)) (ws : List (Int × List Str)) : Prop :=
  Sb 0 sealed (List.length b) ∧ R from_ blocks (sub b 0 sealed) sealed down armed after acut keep bs ws

def log_Drop_nil.vc (R : Prop) : Prop :=
  R

def log_Records_nil.vc (R : List (List UInt8) → Prop) : Prop :=
  R []

def log_Open.L0 (R0 : Int →
  Bool →
    Bool →
      Int →
        Bool →
          List Int →
            List (List (List UInt8)) →
              List (Int × List (List UInt8)) →
                Prop) (R1 : Int →
  Bool →
    Bool →
      Int →
        Bool →
          List Int →
            List (List (List UInt8)) →
              List (Int × List (List UInt8)) →
                Int →
                  Int →
                    List UInt8 →
                      Int →
                        Prop) (from_ : Int) (blocks : Int) (sealed : Int) (t46 : Int) (t47 : Int) (down : Bool) (armed : Bool) (after : Int) (acut : Bool) (keep : List
  Int) (bs : List
  (List
    (List
      UInt8))) (ws : List
  (Int ×
    List
      (List
        UInt8))) (b_buf : List
  Int) (K0 : Int × Int × Int × Int × Int × Bool × Bool × Int × Bool × List Int × List (List (List UInt8)) × List (Int × List (List UInt8)) × List Int × Unit → Prop) : Prop :=
  bif decide (t47 < t46) then
    Rg IntKind.i64 (from_ + t47) ∧
      Sp.dPre (down, armed, after, acut, keep, bs, ws) ∧
        bif !decide ((Sp.dRead (from_ + t47) (down, armed, after, acut, keep, bs, ws)).snd = 0) then
          R0 (Sp.dRead (from_ + t47) (down, armed, after, acut, keep, bs, ws)).snd down armed after acut keep bs ws
        else
          Sp.wr.pre b_buf (Sp.dRead (from_ + t47) (down, armed, after, acut, keep, bs, ws)).fst ∧
            Rg IntKind.i64 (t47 + 1) ∧
              K0 (from_, blocks, sealed, t46, t47 + 1, down, armed, after, acut, keep, bs, ws, Sp.wr b_buf (Sp.dRead (from_ + t47) (down, armed, after, acut, keep, bs, ws)).fst, ())
  else
    Sb 0 sealed (List.length (bytesOf b_buf)) ∧
      Sp.wholeB.pre (sub (bytesOf b_buf) 0 sealed) ∧
        bif !Sp.wholeB (sub (bytesOf b_buf) 0 sealed) then R0 290 down armed after acut keep bs ws
        else R1 0 down armed after acut keep bs ws from_ blocks (sub (bytesOf b_buf) 0 sealed) sealed
def log_Open.vc (R0 : Int →
  Bool →
    Bool →
      Int →
        Bool →
          List Int →
            List (List (List UInt8)) →
              List (Int × List (List UInt8)) →
                Prop) (R1 : Int →
  Bool →
    Bool →
      Int →
        Bool →
          List Int →
            List (List (List UInt8)) →
              List (Int × List (List UInt8)) →
                Int →
                  Int →
                    List UInt8 →
                      Int →
                        Prop) (f : Int) (n : Int) (s : Int) (down : Bool) (armed : Bool) (after : Int) (acut : Bool) (keep : List
  Int) (bs : List (List Str)) (ws : List (Int × List Str)) : Prop :=
  bif decide (f < 0) then R0 1 down armed after acut keep bs ws
  else
    bif decide (n < 1) then R0 1 down armed after acut keep bs ws
    else
      Sp.dPre (down, armed, after, acut, keep, bs, ws) ∧
        bif decide ((↑(Sp.DSt.bs (down, armed, after, acut, keep, bs, ws)).length : Int) < n) then R0 1 down armed after acut keep bs ws
        else
          Sp.dPre (down, armed, after, acut, keep, bs, ws) ∧
            Rg IntKind.i64 ((↑(Sp.DSt.bs (down, armed, after, acut, keep, bs, ws)).length : Int) - n) ∧
              bif decide ((↑(Sp.DSt.bs (down, armed, after, acut, keep, bs, ws)).length : Int) - n < f) then R0 1 down armed after acut keep bs ws
              else
                bif decide (s < 0) then R0 1 down armed after acut keep bs ws
                else
                  Rg IntKind.i64 (n * 256) ∧
                    bif decide (n * 256 < s) then R0 1 down armed after acut keep bs ws
                    else
                      Sp.blocksOf.pre s ∧
                        Lp
                          (fun v K =>
                            log_Open.L0 R0 R1 v.fst v.snd.fst v.snd.snd.fst v.snd.snd.snd.fst v.snd.snd.snd.snd.fst v.snd.snd.snd.snd.snd.fst v.snd.snd.snd.snd.snd.snd.fst
                              v.snd.snd.snd.snd.snd.snd.snd.fst v.snd.snd.snd.snd.snd.snd.snd.snd.fst v.snd.snd.snd.snd.snd.snd.snd.snd.snd.fst v.snd.snd.snd.snd.snd.snd.snd.snd.snd.snd.fst
                              v.snd.snd.snd.snd.snd.snd.snd.snd.snd.snd.snd.fst v.snd.snd.snd.snd.snd.snd.snd.snd.snd.snd.snd.snd.fst K)
                          (f, n, s, Sp.blocksOf s, 0, down, armed, after, acut, keep, bs, ws, [], ())

def log_Open_nil.L0 (R : Int →
  Prop) (from_ : Int) (blocks : Int) (sealed : Int) (t46 : Int) (t47 : Int) (b_buf : List Int) (K0 : Int × Int × Int × Int × Int × List Int × Unit → Prop) : Prop :=
  bif decide (t47 < t46) then Rg IntKind.i64 (from_ + t47) ∧ R 1
  else Sb 0 sealed (List.length (bytesOf b_buf)) ∧ Sp.wholeB.pre (sub (bytesOf b_buf) 0 sealed) ∧ bif !Sp.wholeB (sub (bytesOf b_buf) 0 sealed) then R 290 else False
def log_Open_nil.vc (R : Int → Prop) (f : Int) (n : Int) (s : Int) : Prop :=
  bif decide (f < 0) then R 1
  else
    bif decide (n < 1) then R 1
    else
      bif decide (0 < n) then R 1
      else
        Rg IntKind.i64 (0 - n) ∧
          bif decide (0 - n < f) then R 1
          else
            bif decide (s < 0) then R 1
            else
              Rg IntKind.i64 (n * 256) ∧
                bif decide (n * 256 < s) then R 1
                else
                  Sp.blocksOf.pre s ∧
                    Lp (fun v K => log_Open_nil.L0 R v.fst v.snd.fst v.snd.snd.fst v.snd.snd.snd.fst v.snd.snd.snd.snd.fst v.snd.snd.snd.snd.snd.fst K) (f, n, s, Sp.blocksOf s, 0, [], ())

def rectolaw29_ab.vc (R : Bool → Prop) : Prop :=
  Sp.dPre9 (false, false, (Sp.dNew 4).snd.snd.fst, false, (Sp.dNew 4).snd.snd.snd.snd) ∧
    Sp.lOk (2, 2, Sp.opS 2 0 (false, false, (Sp.dNew 4).snd.snd.fst, false, (Sp.dNew 4).snd.snd.snd.snd), 0) ∧
      Sp.lPre (Sp.lAdd [97, 98] (2, 2, Sp.opS 2 0 (false, false, (Sp.dNew 4).snd.snd.fst, false, (Sp.dNew 4).snd.snd.snd.snd), 0)).fst
          (false, false, (Sp.dNew 4).snd.snd.fst, false, (Sp.dNew 4).snd.snd.snd.snd) ∧
        Sp.dPre
            (false, false,
              (Sp.lWrite (Sp.lAdd [97, 98] (2, 2, Sp.opS 2 0 (false, false, (Sp.dNew 4).snd.snd.fst, false, (Sp.dNew 4).snd.snd.snd.snd), 0)).fst
                        (false, false, (Sp.dNew 4).snd.snd.fst, false, (Sp.dNew 4).snd.snd.snd.snd)).fst.snd.snd.fst,
              false,
              (Sp.lWrite (Sp.lAdd [97, 98] (2, 2, Sp.opS 2 0 (false, false, (Sp.dNew 4).snd.snd.fst, false, (Sp.dNew 4).snd.snd.snd.snd), 0)).fst
                          (false, false, (Sp.dNew 4).snd.snd.fst, false, (Sp.dNew 4).snd.snd.snd.snd)).fst.snd.snd.snd.snd) ∧
          Sp.dPre9
              (false, false,
                (Sp.dFlush
                          (false, false,
                            (Sp.lWrite (Sp.lAdd [97, 98] (2, 2, Sp.opS 2 0 (false, false, (Sp.dNew 4).snd.snd.fst, false, (Sp.dNew 4).snd.snd.snd.snd), 0)).fst
                                      (false, false, (Sp.dNew 4).snd.snd.fst, false, (Sp.dNew 4).snd.snd.snd.snd)).fst.snd.snd.fst,
                            false,
                            (Sp.lWrite (Sp.lAdd [97, 98] (2, 2, Sp.opS 2 0 (false, false, (Sp.dNew 4).snd.snd.fst, false, (Sp.dNew 4).snd.snd.snd.snd), 0)).fst
                                        (false, false, (Sp.dNew 4).snd.snd.fst, false, (Sp.dNew 4).snd.snd.snd.snd)).fst.snd.snd.snd.snd)).fst.snd.snd.fst,
                false,
                (Sp.dFlush
                            (false, false,
                              (Sp.lWrite (Sp.lAdd [97, 98] (2, 2, Sp.opS 2 0 (false, false, (Sp.dNew 4).snd.snd.fst, false, (Sp.dNew 4).snd.snd.snd.snd), 0)).fst
                                        (false, false, (Sp.dNew 4).snd.snd.fst, false, (Sp.dNew 4).snd.snd.snd.snd)).fst.snd.snd.fst,
                              false,
                              (Sp.lWrite (Sp.lAdd [97, 98] (2, 2, Sp.opS 2 0 (false, false, (Sp.dNew 4).snd.snd.fst, false, (Sp.dNew 4).snd.snd.snd.snd), 0)).fst
                                          (false, false, (Sp.dNew 4).snd.snd.fst, false, (Sp.dNew 4).snd.snd.snd.snd)).fst.snd.snd.snd.snd)).fst.snd.snd.snd.snd) ∧
            Sp.lOk (Sp.lSeal (Sp.lAdd [97, 98] (2, 2, Sp.opS 2 0 (false, false, (Sp.dNew 4).snd.snd.fst, false, (Sp.dNew 4).snd.snd.snd.snd), 0)).fst) ∧
              Sp.lOk
                  (2, 2,
                    Sp.opS 2 4
                      (false, false,
                        (Sp.dFlush
                                  (false, false,
                                    (Sp.lWrite (Sp.lAdd [97, 98] (2, 2, Sp.opS 2 0 (false, false, (Sp.dNew 4).snd.snd.fst, false, (Sp.dNew 4).snd.snd.snd.snd), 0)).fst
                                              (false, false, (Sp.dNew 4).snd.snd.fst, false, (Sp.dNew 4).snd.snd.snd.snd)).fst.snd.snd.fst,
                                    false,
                                    (Sp.lWrite (Sp.lAdd [97, 98] (2, 2, Sp.opS 2 0 (false, false, (Sp.dNew 4).snd.snd.fst, false, (Sp.dNew 4).snd.snd.snd.snd), 0)).fst
                                                (false, false, (Sp.dNew 4).snd.snd.fst, false, (Sp.dNew 4).snd.snd.snd.snd)).fst.snd.snd.snd.snd)).fst.snd.snd.fst,
                        false,
                        (Sp.dFlush
                                    (false, false,
                                      (Sp.lWrite (Sp.lAdd [97, 98] (2, 2, Sp.opS 2 0 (false, false, (Sp.dNew 4).snd.snd.fst, false, (Sp.dNew 4).snd.snd.snd.snd), 0)).fst
                                                (false, false, (Sp.dNew 4).snd.snd.fst, false, (Sp.dNew 4).snd.snd.snd.snd)).fst.snd.snd.fst,
                                      false,
                                      (Sp.lWrite (Sp.lAdd [97, 98] (2, 2, Sp.opS 2 0 (false, false, (Sp.dNew 4).snd.snd.fst, false, (Sp.dNew 4).snd.snd.snd.snd), 0)).fst
                                                  (false, false, (Sp.dNew 4).snd.snd.fst, false, (Sp.dNew 4).snd.snd.snd.snd)).fst.snd.snd.snd.snd)).fst.snd.snd.snd.snd),
                    4) ∧
                Sp.eqL.pre
                    (Sp.lRecs
                      (2, 2,
                        Sp.opS 2 4
                          (false, false,
                            (Sp.dFlush
                                      (false, false,
                                        (Sp.lWrite (Sp.lAdd [97, 98] (2, 2, Sp.opS 2 0 (false, false, (Sp.dNew 4).snd.snd.fst, false, (Sp.dNew 4).snd.snd.snd.snd), 0)).fst
                                                  (false, false, (Sp.dNew 4).snd.snd.fst, false, (Sp.dNew 4).snd.snd.snd.snd)).fst.snd.snd.fst,
                                        false,
                                        (Sp.lWrite (Sp.lAdd [97, 98] (2, 2, Sp.opS 2 0 (false, false, (Sp.dNew 4).snd.snd.fst, false, (Sp.dNew 4).snd.snd.snd.snd), 0)).fst
                                                    (false, false, (Sp.dNew 4).snd.snd.fst, false, (Sp.dNew 4).snd.snd.snd.snd)).fst.snd.snd.snd.snd)).fst.snd.snd.fst,
                            false,
                            (Sp.dFlush
                                        (false, false,
                                          (Sp.lWrite (Sp.lAdd [97, 98] (2, 2, Sp.opS 2 0 (false, false, (Sp.dNew 4).snd.snd.fst, false, (Sp.dNew 4).snd.snd.snd.snd), 0)).fst
                                                    (false, false, (Sp.dNew 4).snd.snd.fst, false, (Sp.dNew 4).snd.snd.snd.snd)).fst.snd.snd.fst,
                                          false,
                                          (Sp.lWrite (Sp.lAdd [97, 98] (2, 2, Sp.opS 2 0 (false, false, (Sp.dNew 4).snd.snd.fst, false, (Sp.dNew 4).snd.snd.snd.snd), 0)).fst
                                                      (false, false, (Sp.dNew 4).snd.snd.fst, false, (Sp.dNew 4).snd.snd.snd.snd)).fst.snd.snd.snd.snd)).fst.snd.snd.snd.snd),
                        4))
                    [[97, 98]] ∧
                  R true
