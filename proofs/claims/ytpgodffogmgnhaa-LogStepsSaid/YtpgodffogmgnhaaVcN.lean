/- Conditions of functions. Written by a program of this session. -/
import Derived.Test.YtpgodffogmgnhaaSpN
set_option linter.unnecessarySimpa false
set_option linter.unusedVariables false
set_option linter.unusedSectionVars false
set_option linter.unusedSimpArgs false
set_option autoImplicit false
set_option linter.unusedVariables false
open Go Vi

def strings_Builder_WriteString.vc (R : Int → List Int → Prop) (s : Str) (x : List Int) : Prop :=
  Gr x.length (ints s).length 1 ∧ R (↑(List.length s) : Int) (x ++ ints s)

def strings_Builder_String.vc (R : List UInt8 → Prop) (x : List Int) : Prop :=
  Mt (↑x.length : Int) x.length ∧ R (bytesOf x)

def quill_digits.vc (R : List UInt8 → Prop) (nn : Nat) (n : Int) : Prop :=
  bif decide (n = 0) then R []
  else
    Shf 8 IntKind.i64 ∧
      (Sp.digs.pre (n / 2 ^ 8) ∧ Sp.digm (n / 2 ^ 8) < nn) ∧
        (↑(List.length (Sp.digs (n / 2 ^ 8))) : Int) + (↑(List.length (bytesOf [IntKind.u8.wrap n])) : Int) ≤ 9223372036854775807 ∧ R (Sp.digs (n / 2 ^ 8) ++ bytesOf [IntKind.u8.wrap n])

def quill_Num.vc (R : List UInt8 → Int → Prop) (n : Int) : Prop :=
  bif decide (n < 0) then R [] 1
  else
    bif decide (1099511627776 < n) then R [] 1
    else
      (Sp.digs.pre n ∧ Sp.digm n < 1099511627778) ∧
        (↑(List.length (bytesOf [IntKind.u8.wrap (↑(List.length (Sp.digs n)) : Int)])) : Int) + (↑(List.length (Sp.digs n)) : Int) ≤ 9223372036854775807 ∧
          R (bytesOf [IntKind.u8.wrap (↑(List.length (Sp.digs n)) : Int)] ++ Sp.digs n) 0

def quill_joined.L0 (R : List UInt8 →
  Int → Prop) (t9 : List (List UInt8)) (t10 : Int) (t11 : Int) (out_buf : List Int) (K0 : List (List UInt8) × Int × Int × List Int × Unit → Prop) : Prop :=
  bif decide (t11 < t10) then
    Ix t11 t9.length ∧
      bif decide (65536 < (↑(List.length (nth t9 t11 [])) : Int)) then R [] 2
      else
        (↑(List.length (Sp.numP (↑(List.length (nth t9 t11 [])) : Int)).fst) : Int) + (↑(List.length (nth t9 t11 [])) : Int) ≤ 9223372036854775807 ∧
          Sp.wr.pre out_buf ((Sp.numP (↑(List.length (nth t9 t11 [])) : Int)).fst ++ nth t9 t11 []) ∧
            Rg IntKind.i64 (t11 + 1) ∧ K0 (t9, t10, t11 + 1, Sp.wr out_buf ((Sp.numP (↑(List.length (nth t9 t11 [])) : Int)).fst ++ nth t9 t11 []), ())
  else R (bytesOf out_buf) 0
def quill_joined.vc (R : List UInt8 → Int → Prop) (l : List Str) : Prop :=
  Lp (fun v K => quill_joined.L0 R v.fst v.snd.fst v.snd.snd.fst v.snd.snd.snd.fst K) (l, (↑l.length : Int), 0, [], ())

def quill_Text.vc (R : List UInt8 → Int → Prop) (s : Str) : Prop :=
  Sp.joinedP.pre [s] ∧ R (Sp.joinedP [s]).fst (Sp.joinedP [s]).snd

def quill_TakeNum.L0 (R : Int →
  List UInt8 → Int → Prop) (d : List UInt8) (rest : List UInt8) (n : Int) (t39 : Int) (t40 : Int) (K0 : List UInt8 × List UInt8 × Int × Int × Int × Unit → Prop) : Prop :=
  bif decide (t40 < t39) then
    bif decide (t40 = 0) then
      Ix t40 d.length ∧
        bif decide ((↑(nth d t40 0).toNat : Int) = 0) then R 0 [] 4
        else
          Shf 8 IntKind.i64 ∧
            Rg IntKind.i64 (n * 2 ^ 8) ∧ Ix t40 d.length ∧ Rg IntKind.i64 (t40 + 1) ∧ K0 (d, rest, bitsO BinOp.or IntKind.i64 (n * 2 ^ 8) (↑(nth d t40 0).toNat : Int), t39, t40 + 1, ())
    else
      Shf 8 IntKind.i64 ∧
        Rg IntKind.i64 (n * 2 ^ 8) ∧ Ix t40 d.length ∧ Rg IntKind.i64 (t40 + 1) ∧ K0 (d, rest, bitsO BinOp.or IntKind.i64 (n * 2 ^ 8) (↑(nth d t40 0).toNat : Int), t39, t40 + 1, ())
  else bif decide (1099511627776 < n) then R 0 [] 4 else R n rest 0
def quill_TakeNum.vc (R : Int → List UInt8 → Int → Prop) (b : Str) : Prop :=
  bif decide (b = []) then R 0 [] 4
  else
    Ix 0 (List.length b) ∧
      bif decide (6 < (↑(nth b 0 0).toNat : Int)) then R 0 [] 4
      else
        Rg IntKind.i64 ((↑(List.length b) : Int) - 1) ∧
          Ix 0 (List.length b) ∧
            bif decide ((↑(List.length b) : Int) - 1 < (↑(nth b 0 0).toNat : Int)) then R 0 [] 4
            else
              Ix 0 (List.length b) ∧
                Rg IntKind.i64 (1 + (↑(nth b 0 0).toNat : Int)) ∧
                  Sb 1 (1 + (↑(nth b 0 0).toNat : Int)) (List.length b) ∧
                    Ix 0 (List.length b) ∧
                      Rg IntKind.i64 (1 + (↑(nth b 0 0).toNat : Int)) ∧
                        Sb (1 + (↑(nth b 0 0).toNat : Int)) (↑(List.length b) : Int) (List.length b) ∧
                          Lp (fun v K => quill_TakeNum.L0 R v.fst v.snd.fst v.snd.snd.fst v.snd.snd.snd.fst v.snd.snd.snd.snd.fst K)
                            (sub b 1 (1 + (↑(nth b 0 0).toNat : Int)), sub b (1 + (↑(nth b 0 0).toNat : Int)) (↑(List.length b) : Int), 0,
                              (↑(sub b 1 (1 + (↑(nth b 0 0).toNat : Int))).length : Int), 0, ())

def quill_TakeText.vc (R : List UInt8 → List UInt8 → Int → Prop) (b : Str) : Prop :=
  Sp.takeNum.pre b ∧
    bif !decide ((Sp.takeNum b).snd.snd = 0) then R [] [] 4
    else
      bif decide (65536 < (Sp.takeNum b).fst) then R [] [] 4
      else
        bif decide ((↑(List.length (Sp.takeNum b).snd.fst) : Int) < (Sp.takeNum b).fst) then R [] [] 4
        else
          Sb 0 (Sp.takeNum b).fst (List.length (Sp.takeNum b).snd.fst) ∧
            Sb (Sp.takeNum b).fst (↑(List.length (Sp.takeNum b).snd.fst) : Int) (List.length (Sp.takeNum b).snd.fst) ∧
              R (sub (Sp.takeNum b).snd.fst 0 (Sp.takeNum b).fst) (sub (Sp.takeNum b).snd.fst (Sp.takeNum b).fst (↑(List.length (Sp.takeNum b).snd.fst) : Int)) 0

def rectoref01_Size.L0 (R : Int → Prop) (k : Int) (x : Int) (K0 : Int × Int × Unit → Prop) : Prop :=
  bif decide (0 < x) then Rg IntKind.i64 (k + 1) ∧ Dv x 256 ∧ K0 (k + 1, x / 256, ()) else R k
def rectoref01_Size.vc (R : Int → Prop) (n : Int) : Prop :=
  Lp (fun v K => rectoref01_Size.L0 R v.fst v.snd.fst K) (0, n, ())

def rectoref01_Plain.L0 (R : List UInt8 → Prop) (n : Int) (out : List UInt8) (x : Int) (K0 : Int × List UInt8 × Int × Unit → Prop) : Prop :=
  bif decide (0 < x) then
    Dv x 256 ∧
      (↑(List.length (bytesOf [IntKind.u8.wrap (x % 256)])) : Int) + (↑out.length : Int) ≤ 9223372036854775807 ∧ Dv x 256 ∧ K0 (n, bytesOf [IntKind.u8.wrap (x % 256)] ++ out, x / 256, ())
  else Sp.sizeN.pre n ∧ (↑(List.length (bytesOf [IntKind.u8.wrap (Sp.sizeN n)])) : Int) + (↑out.length : Int) ≤ 9223372036854775807 ∧ R (bytesOf [IntKind.u8.wrap (Sp.sizeN n)] ++ out)
def rectoref01_Plain.vc (R : List UInt8 → Prop) (n : Int) : Prop :=
  Lp (fun v K => rectoref01_Plain.L0 R v.fst v.snd.fst v.snd.snd.fst K) (n, [], n, ())

def rectoref01_Text.vc (R : List UInt8 → Int → Prop) (s : Str) : Prop :=
  bif decide (65536 < (↑(List.length s) : Int)) then R [] 2
  else
    Sp.plain.pre (↑(List.length s) : Int) ∧
      (↑(List.length (Sp.plain (↑(List.length s) : Int))) : Int) + (↑(List.length s) : Int) ≤ 9223372036854775807 ∧ R (Sp.plain (↑(List.length s) : Int) ++ s) 0

def rectoref01_num.L0 (R : Int × Int →
  Prop) (b : List UInt8) (i : Int) (k : Int) (n : Int) (j : Int) (t4_N : Int) (t4_End : Int) (K0 : List UInt8 × Int × Int × Int × Int × Int × Int × Unit → Prop) : Prop :=
  bif decide (j < k) then
    Rg IntKind.i64 (n * 256) ∧
      Rg IntKind.i64 (i + 1) ∧
        Rg IntKind.i64 (i + 1 + j) ∧
          Ix (i + 1 + j) b.length ∧
            Rg IntKind.i64 (n * 256 + (↑(nth b (i + 1 + j) 0).toNat : Int)) ∧ Rg IntKind.i64 (j + 1) ∧ K0 (b, i, k, n * 256 + (↑(nth b (i + 1 + j) 0).toNat : Int), j + 1, t4_N, t4_End, ())
  else bif decide (1099511627776 < n) then R (0, -1) else Rg IntKind.i64 (i + 1) ∧ Rg IntKind.i64 (i + 1 + k) ∧ R (n, i + 1 + k)
def rectoref01_num.L1 (R : Int × Int →
  Prop) (x10 : List UInt8) (x11 : Int) (x12 : Int) (x13 : Int) (x14 : Int) (x15 : Int) (x16 : Int) (K1 : List UInt8 × Int × Int × Int × Int × Int × Int × Unit → Prop) : Prop :=
  bif decide (x14 < x12) then
    Rg IntKind.i64 (x13 * 256) ∧
      Rg IntKind.i64 (x11 + 1) ∧
        Rg IntKind.i64 (x11 + 1 + x14) ∧
          Ix (x11 + 1 + x14) x10.length ∧
            Rg IntKind.i64 (x13 * 256 + (↑(nth x10 (x11 + 1 + x14) 0).toNat : Int)) ∧
              Rg IntKind.i64 (x14 + 1) ∧ K1 (x10, x11, x12, x13 * 256 + (↑(nth x10 (x11 + 1 + x14) 0).toNat : Int), x14 + 1, x15, x16, ())
  else bif decide (1099511627776 < x13) then R (0, -1) else Rg IntKind.i64 (x11 + 1) ∧ Rg IntKind.i64 (x11 + 1 + x12) ∧ R (x13, x11 + 1 + x12)
def rectoref01_num.vc (R : Int × Int → Prop) (b : Str) (i : Int) : Prop :=
  bif decide ((↑(List.length b) : Int) ≤ i) then R (0, -1)
  else
    Ix i (List.length b) ∧
      bif decide (6 < (↑(nth b i 0).toNat : Int)) then R (0, -1)
      else
        Ix i (List.length b) ∧
          Rg IntKind.i64 ((↑(List.length b) : Int) - i) ∧
            Rg IntKind.i64 ((↑(List.length b) : Int) - i - 1) ∧
              bif decide ((↑(List.length b) : Int) - i - 1 < (↑(nth b i 0).toNat : Int)) then R (0, -1)
              else
                bif decide (0 < (↑(nth b i 0).toNat : Int)) then
                  Rg IntKind.i64 (i + 1) ∧
                    Ix (i + 1) (List.length b) ∧
                      bif decide ((↑(nth b (i + 1) 0).toNat : Int) = 0) then R (0, -1)
                      else
                        Lp (fun v K => rectoref01_num.L0 R v.fst v.snd.fst v.snd.snd.fst v.snd.snd.snd.fst v.snd.snd.snd.snd.fst v.snd.snd.snd.snd.snd.fst v.snd.snd.snd.snd.snd.snd.fst K)
                          (b, i, (↑(nth b i 0).toNat : Int), 0, 0, 0, 0, ())
                else
                  Lp (fun v K => rectoref01_num.L1 R v.fst v.snd.fst v.snd.snd.fst v.snd.snd.snd.fst v.snd.snd.snd.snd.fst v.snd.snd.snd.snd.snd.fst v.snd.snd.snd.snd.snd.snd.fst K)
                    (b, i, (↑(nth b i 0).toNat : Int), 0, 0, 0, 0, ())

def rectoref01_TakeText.vc (R : Int × List UInt8 × List (List UInt8) × List UInt8 × Int → Prop) (b : Str) : Prop :=
  Sp.numAt.pre b 0 ∧
    bif decide ((Sp.numAt b 0).snd < 0) then R (0, [], [], [], 4)
    else
      bif decide (65536 < (Sp.numAt b 0).fst) then R (0, [], [], [], 4)
      else
        Rg IntKind.i64 ((↑(List.length b) : Int) - (Sp.numAt b 0).snd) ∧
          bif decide ((↑(List.length b) : Int) - (Sp.numAt b 0).snd < (Sp.numAt b 0).fst) then R (0, [], [], [], 4)
          else
            Rg IntKind.i64 ((Sp.numAt b 0).snd + (Sp.numAt b 0).fst) ∧
              Sb (Sp.numAt b 0).snd ((Sp.numAt b 0).snd + (Sp.numAt b 0).fst) (List.length b) ∧
                Rg IntKind.i64 ((Sp.numAt b 0).snd + (Sp.numAt b 0).fst) ∧
                  Sb ((Sp.numAt b 0).snd + (Sp.numAt b 0).fst) (↑(List.length b) : Int) (List.length b) ∧
                    R (0, sub b (Sp.numAt b 0).snd ((Sp.numAt b 0).snd + (Sp.numAt b 0).fst), [], sub b ((Sp.numAt b 0).snd + (Sp.numAt b 0).fst) (↑(List.length b) : Int), 0)

def rectoplain_Texts.L0 (R : Bool →
  Prop) (a : List (List UInt8)) (b : List (List UInt8)) (t7 : Int) (t8 : Int) (K0 : List (List UInt8) × List (List UInt8) × Int × Int × Unit → Prop) : Prop :=
  bif decide (t8 < t7) then
    bif decide ((↑b.length : Int) ≤ t8) then R false
    else Ix t8 a.length ∧ Ix t8 b.length ∧ bif !decide (nth a t8 [] = nth b t8 []) then R false else Rg IntKind.i64 (t8 + 1) ∧ K0 (a, b, t7, t8 + 1, ())
  else R (decide ((↑a.length : Int) = (↑b.length : Int)))
def rectoplain_Texts.vc (R : Bool → Prop) (a : List Str) (b : List Str) : Prop :=
  Lp (fun v K => rectoplain_Texts.L0 R v.fst v.snd.fst v.snd.snd.fst v.snd.snd.snd.fst K) (a, b, (↑a.length : Int), 0, ())

