/- Conditions of functions. Written by a program of this session. -/
import Derived.Test.YtdfkbjfohffniaaSpQ
set_option linter.unnecessarySimpa false
set_option linter.unusedVariables false
set_option linter.unusedSectionVars false
set_option linter.unusedSimpArgs false
set_option autoImplicit false
set_option linter.unusedVariables false
open Go Vi

def strings_Builder_WriteString.vc (R : Int → List Int → Prop) (s : Str) (x : List Int) : Prop :=
  Gr x.length (ints s).length 1 ∧ R (↑(List.length s) : Int) (x ++ ints s)

def strings_Builder_String.vc (R : List UInt8 → Prop) (x : List Int) : Prop :=
  Mt (↑x.length : Int) x.length ∧ R (bytesOf x)

def quill_digits.vc (R : List UInt8 → Prop) (nn : Nat) (n : Int) : Prop :=
  bif decide (n = 0) then R []
  else
    Shf 8 IntKind.i64 ∧
      (Sp.digs.pre (n / 2 ^ 8) ∧ Sp.digm (n / 2 ^ 8) < nn) ∧
        (↑(List.length (Sp.digs (n / 2 ^ 8))) : Int) + (↑(List.length (bytesOf [IntKind.u8.wrap n])) : Int) ≤ 9223372036854775807 ∧ R (Sp.digs (n / 2 ^ 8) ++ bytesOf [IntKind.u8.wrap n])

def quill_Num.vc (R : List UInt8 → Int → Prop) (n : Int) : Prop :=
  bif decide (n < 0) then R [] 1
  else
    bif decide (1099511627776 < n) then R [] 1
    else
      (Sp.digs.pre n ∧ Sp.digm n < 1099511627778) ∧
        (↑(List.length (bytesOf [IntKind.u8.wrap (↑(List.length (Sp.digs n)) : Int)])) : Int) + (↑(List.length (Sp.digs n)) : Int) ≤ 9223372036854775807 ∧
          R (bytesOf [IntKind.u8.wrap (↑(List.length (Sp.digs n)) : Int)] ++ Sp.digs n) 0

def quill_joined.L0 (R : List UInt8 →
  Int → Prop) (t9 : List (List UInt8)) (t10 : Int) (t11 : Int) (out_buf : List Int) (K0 : List (List UInt8) × Int × Int × List Int × Unit → Prop) : Prop :=
  bif decide (t11 < t10) then
    Ix t11 t9.length ∧
      bif decide (65536 < (↑(List.length (nth t9 t11 [])) : Int)) then R [] 2
      else
        (↑(List.length (Sp.numP (↑(List.length (nth t9 t11 [])) : Int)).fst) : Int) + (↑(List.length (nth t9 t11 [])) : Int) ≤ 9223372036854775807 ∧
          Sp.wr.pre out_buf ((Sp.numP (↑(List.length (nth t9 t11 [])) : Int)).fst ++ nth t9 t11 []) ∧
            Rg IntKind.i64 (t11 + 1) ∧ K0 (t9, t10, t11 + 1, Sp.wr out_buf ((Sp.numP (↑(List.length (nth t9 t11 [])) : Int)).fst ++ nth t9 t11 []), ())
  else R (bytesOf out_buf) 0
def quill_joined.vc (R : List UInt8 → Int → Prop) (l : List Str) : Prop :=
  Lp (fun v K => quill_joined.L0 R v.fst v.snd.fst v.snd.snd.fst v.snd.snd.snd.fst K) (l, (↑l.length : Int), 0, [], ())

def quill_Text.vc (R : List UInt8 → Int → Prop) (s : Str) : Prop :=
  Sp.joinedP.pre [s] ∧ R (Sp.joinedP [s]).fst (Sp.joinedP [s]).snd

def quill_List.vc (R : List UInt8 → Int → Prop) (l : List Str) : Prop :=
  bif decide (1000 < (↑l.length : Int)) then R [] 2
  else
    Sp.joinedP.pre l ∧
      bif !decide ((Sp.joinedP l).snd = 0) then R [] (Sp.joinedP l).snd
      else
        (↑(List.length (Sp.numP (↑l.length : Int)).fst) : Int) + (↑(List.length (Sp.joinedP l).fst) : Int) ≤ 9223372036854775807 ∧ R ((Sp.numP (↑l.length : Int)).fst ++ (Sp.joinedP l).fst) 0

def quill_TakeNum.L0 (R : Int →
  List UInt8 → Int → Prop) (d : List UInt8) (rest : List UInt8) (n : Int) (t39 : Int) (t40 : Int) (K0 : List UInt8 × List UInt8 × Int × Int × Int × Unit → Prop) : Prop :=
  bif decide (t40 < t39) then
    bif decide (t40 = 0) then
      Ix t40 d.length ∧
        bif decide ((↑(nth d t40 0).toNat : Int) = 0) then R 0 [] 4
        else
          Shf 8 IntKind.i64 ∧
            Rg IntKind.i64 (n * 2 ^ 8) ∧ Ix t40 d.length ∧ Rg IntKind.i64 (t40 + 1) ∧ K0 (d, rest, bitsO BinOp.or IntKind.i64 (n * 2 ^ 8) (↑(nth d t40 0).toNat : Int), t39, t40 + 1, ())
    else
      Shf 8 IntKind.i64 ∧
        Rg IntKind.i64 (n * 2 ^ 8) ∧ Ix t40 d.length ∧ Rg IntKind.i64 (t40 + 1) ∧ K0 (d, rest, bitsO BinOp.or IntKind.i64 (n * 2 ^ 8) (↑(nth d t40 0).toNat : Int), t39, t40 + 1, ())
  else bif decide (1099511627776 < n) then R 0 [] 4 else R n rest 0
def quill_TakeNum.vc (R : Int → List UInt8 → Int → Prop) (b : Str) : Prop :=
  bif decide (b = []) then R 0 [] 4
  else
    Ix 0 (List.length b) ∧
      bif decide (6 < (↑(nth b 0 0).toNat : Int)) then R 0 [] 4
      else
        Rg IntKind.i64 ((↑(List.length b) : Int) - 1) ∧
          Ix 0 (List.length b) ∧
            bif decide ((↑(List.length b) : Int) - 1 < (↑(nth b 0 0).toNat : Int)) then R 0 [] 4
            else
              Ix 0 (List.length b) ∧
                Rg IntKind.i64 (1 + (↑(nth b 0 0).toNat : Int)) ∧
                  Sb 1 (1 + (↑(nth b 0 0).toNat : Int)) (List.length b) ∧
                    Ix 0 (List.length b) ∧
                      Rg IntKind.i64 (1 + (↑(nth b 0 0).toNat : Int)) ∧
                        Sb (1 + (↑(nth b 0 0).toNat : Int)) (↑(List.length b) : Int) (List.length b) ∧
                          Lp (fun v K => quill_TakeNum.L0 R v.fst v.snd.fst v.snd.snd.fst v.snd.snd.snd.fst v.snd.snd.snd.snd.fst K)
                            (sub b 1 (1 + (↑(nth b 0 0).toNat : Int)), sub b (1 + (↑(nth b 0 0).toNat : Int)) (↑(List.length b) : Int), 0,
                              (↑(sub b 1 (1 + (↑(nth b 0 0).toNat : Int))).length : Int), 0, ())

def quill_TakeText.vc (R : List UInt8 → List UInt8 → Int → Prop) (b : Str) : Prop :=
  Sp.takeNum.pre b ∧
    bif !decide ((Sp.takeNum b).snd.snd = 0) then R [] [] 4
    else
      bif decide (65536 < (Sp.takeNum b).fst) then R [] [] 4
      else
        bif decide ((↑(List.length (Sp.takeNum b).snd.fst) : Int) < (Sp.takeNum b).fst) then R [] [] 4
        else
          Sb 0 (Sp.takeNum b).fst (List.length (Sp.takeNum b).snd.fst) ∧
            Sb (Sp.takeNum b).fst (↑(List.length (Sp.takeNum b).snd.fst) : Int) (List.length (Sp.takeNum b).snd.fst) ∧
              R (sub (Sp.takeNum b).snd.fst 0 (Sp.takeNum b).fst) (sub (Sp.takeNum b).snd.fst (Sp.takeNum b).fst (↑(List.length (Sp.takeNum b).snd.fst) : Int)) 0

def quill_TakeList.L0 (R : List (List UInt8) →
  List UInt8 → Int → Prop) (rest : List UInt8) (t22 : Int) (t23 : Int) (out : List (List UInt8)) (K0 : List UInt8 × Int × Int × List (List UInt8) × Unit → Prop) : Prop :=
  bif decide (t23 < t22) then
    Sp.takeText.pre rest ∧
      bif !decide ((Sp.takeText rest).snd.snd = 0) then R [] [] 4
      else Gr out.length 1 16 ∧ Rg IntKind.i64 (t23 + 1) ∧ K0 ((Sp.takeText rest).snd.fst, t22, t23 + 1, out ++ [(Sp.takeText rest).fst], ())
  else R out rest 0
def quill_TakeList.vc (R : List (List UInt8) → List UInt8 → Int → Prop) (b : Str) : Prop :=
  Sp.takeNum.pre b ∧
    bif !decide ((Sp.takeNum b).snd.snd = 0) then R [] [] 4
    else
      bif decide (1000 < (Sp.takeNum b).fst) then R [] [] 4
      else Lp (fun v K => quill_TakeList.L0 R v.fst v.snd.fst v.snd.snd.fst v.snd.snd.snd.fst K) ((Sp.takeNum b).snd.fst, (Sp.takeNum b).fst, 0, [], ())

def rectoref01_Size.L0 (R : Int → Prop) (k : Int) (x : Int) (K0 : Int × Int × Unit → Prop) : Prop :=
  bif decide (0 < x) then Rg IntKind.i64 (k + 1) ∧ Dv x 256 ∧ K0 (k + 1, x / 256, ()) else R k
def rectoref01_Size.vc (R : Int → Prop) (n : Int) : Prop :=
  Lp (fun v K => rectoref01_Size.L0 R v.fst v.snd.fst K) (0, n, ())

def rectoref01_Plain.L0 (R : List UInt8 → Prop) (n : Int) (out : List UInt8) (x : Int) (K0 : Int × List UInt8 × Int × Unit → Prop) : Prop :=
  bif decide (0 < x) then
    Dv x 256 ∧
      (↑(List.length (bytesOf [IntKind.u8.wrap (x % 256)])) : Int) + (↑out.length : Int) ≤ 9223372036854775807 ∧ Dv x 256 ∧ K0 (n, bytesOf [IntKind.u8.wrap (x % 256)] ++ out, x / 256, ())
  else Sp.sizeN.pre n ∧ (↑(List.length (bytesOf [IntKind.u8.wrap (Sp.sizeN n)])) : Int) + (↑out.length : Int) ≤ 9223372036854775807 ∧ R (bytesOf [IntKind.u8.wrap (Sp.sizeN n)] ++ out)
def rectoref01_Plain.vc (R : List UInt8 → Prop) (n : Int) : Prop :=
  Lp (fun v K => rectoref01_Plain.L0 R v.fst v.snd.fst v.snd.snd.fst K) (n, [], n, ())

def rectoref01_Num.vc (R : List UInt8 → Int → Prop) (n : Int) : Prop :=
  bif decide (n < 0) then R [] 1 else bif decide (1099511627776 < n) then R [] 1 else Sp.plain.pre n ∧ R (Sp.plain n) 0

def rectoref01_Text.vc (R : List UInt8 → Int → Prop) (s : Str) : Prop :=
  bif decide (65536 < (↑(List.length s) : Int)) then R [] 2
  else
    Sp.plain.pre (↑(List.length s) : Int) ∧
      (↑(List.length (Sp.plain (↑(List.length s) : Int))) : Int) + (↑(List.length s) : Int) ≤ 9223372036854775807 ∧ R (Sp.plain (↑(List.length s) : Int) ++ s) 0

def rectoref01_List.L0 (R : List UInt8 →
  Int → Prop) (out : List UInt8) (t15 : List (List UInt8)) (t16 : Int) (t17 : Int) (K0 : List UInt8 × List (List UInt8) × Int × Int × Unit → Prop) : Prop :=
  bif decide (t17 < t16) then
    Ix t17 t15.length ∧
      bif !decide ((Sp.textP (nth t15 t17 [])).snd = 0) then R [] (Sp.textP (nth t15 t17 [])).snd
      else
        (↑out.length : Int) + (↑(List.length (Sp.textP (nth t15 t17 [])).fst) : Int) ≤ 9223372036854775807 ∧
          Rg IntKind.i64 (t17 + 1) ∧ K0 (out ++ (Sp.textP (nth t15 t17 [])).fst, t15, t16, t17 + 1, ())
  else R out 0
def rectoref01_List.vc (R : List UInt8 → Int → Prop) (l : List Str) : Prop :=
  bif decide (1000 < (↑l.length : Int)) then R [] 2
  else Sp.plain.pre (↑l.length : Int) ∧ Lp (fun v K => rectoref01_List.L0 R v.fst v.snd.fst v.snd.snd.fst v.snd.snd.snd.fst K) (Sp.plain (↑l.length : Int), l, (↑l.length : Int), 0, ())

def rectoref01_num.L0 (R : Int × Int →
  Prop) (b : List UInt8) (i : Int) (k : Int) (n : Int) (j : Int) (t4_N : Int) (t4_End : Int) (K0 : List UInt8 × Int × Int × Int × Int × Int × Int × Unit → Prop) : Prop :=
  bif decide (j < k) then
    Rg IntKind.i64 (n * 256) ∧
      Rg IntKind.i64 (i + 1) ∧
        Rg IntKind.i64 (i + 1 + j) ∧
          Ix (i + 1 + j) b.length ∧
            Rg IntKind.i64 (n * 256 + (↑(nth b (i + 1 + j) 0).toNat : Int)) ∧ Rg IntKind.i64 (j + 1) ∧ K0 (b, i, k, n * 256 + (↑(nth b (i + 1 + j) 0).toNat : Int), j + 1, t4_N, t4_End, ())
  else bif decide (1099511627776 < n) then R (0, -1) else Rg IntKind.i64 (i + 1) ∧ Rg IntKind.i64 (i + 1 + k) ∧ R (n, i + 1 + k)
def rectoref01_num.L1 (R : Int × Int →
  Prop) (x10 : List UInt8) (x11 : Int) (x12 : Int) (x13 : Int) (x14 : Int) (x15 : Int) (x16 : Int) (K1 : List UInt8 × Int × Int × Int × Int × Int × Int × Unit → Prop) : Prop :=
  bif decide (x14 < x12) then
    Rg IntKind.i64 (x13 * 256) ∧
      Rg IntKind.i64 (x11 + 1) ∧
        Rg IntKind.i64 (x11 + 1 + x14) ∧
          Ix (x11 + 1 + x14) x10.length ∧
            Rg IntKind.i64 (x13 * 256 + (↑(nth x10 (x11 + 1 + x14) 0).toNat : Int)) ∧
              Rg IntKind.i64 (x14 + 1) ∧ K1 (x10, x11, x12, x13 * 256 + (↑(nth x10 (x11 + 1 + x14) 0).toNat : Int), x14 + 1, x15, x16, ())
  else bif decide (1099511627776 < x13) then R (0, -1) else Rg IntKind.i64 (x11 + 1) ∧ Rg IntKind.i64 (x11 + 1 + x12) ∧ R (x13, x11 + 1 + x12)
def rectoref01_num.vc (R : Int × Int → Prop) (b : Str) (i : Int) : Prop :=
  bif decide ((↑(List.length b) : Int) ≤ i) then R (0, -1)
  else
    Ix i (List.length b) ∧
      bif decide (6 < (↑(nth b i 0).toNat : Int)) then R (0, -1)
      else
        Ix i (List.length b) ∧
          Rg IntKind.i64 ((↑(List.length b) : Int) - i) ∧
            Rg IntKind.i64 ((↑(List.length b) : Int) - i - 1) ∧
              bif decide ((↑(List.length b) : Int) - i - 1 < (↑(nth b i 0).toNat : Int)) then R (0, -1)
              else
                bif decide (0 < (↑(nth b i 0).toNat : Int)) then
                  Rg IntKind.i64 (i + 1) ∧
                    Ix (i + 1) (List.length b) ∧
                      bif decide ((↑(nth b (i + 1) 0).toNat : Int) = 0) then R (0, -1)
                      else
                        Lp (fun v K => rectoref01_num.L0 R v.fst v.snd.fst v.snd.snd.fst v.snd.snd.snd.fst v.snd.snd.snd.snd.fst v.snd.snd.snd.snd.snd.fst v.snd.snd.snd.snd.snd.snd.fst K)
                          (b, i, (↑(nth b i 0).toNat : Int), 0, 0, 0, 0, ())
                else
                  Lp (fun v K => rectoref01_num.L1 R v.fst v.snd.fst v.snd.snd.fst v.snd.snd.snd.fst v.snd.snd.snd.snd.fst v.snd.snd.snd.snd.snd.fst v.snd.snd.snd.snd.snd.snd.fst K)
                    (b, i, (↑(nth b i 0).toNat : Int), 0, 0, 0, 0, ())

def rectoref01_TakeNum.vc (R : Int × List UInt8 × List (List UInt8) × List UInt8 × Int → Prop) (b : Str) : Prop :=
  Sp.numAt.pre b 0 ∧
    bif decide ((Sp.numAt b 0).snd < 0) then R (0, [], [], [], 4)
    else Sb (Sp.numAt b 0).snd (↑(List.length b) : Int) (List.length b) ∧ R ((Sp.numAt b 0).fst, [], [], sub b (Sp.numAt b 0).snd (↑(List.length b) : Int), 0)

def rectoref01_TakeText.vc (R : Int × List UInt8 × List (List UInt8) × List UInt8 × Int → Prop) (b : Str) : Prop :=
  Sp.numAt.pre b 0 ∧
    bif decide ((Sp.numAt b 0).snd < 0) then R (0, [], [], [], 4)
    else
      bif decide (65536 < (Sp.numAt b 0).fst) then R (0, [], [], [], 4)
      else
        Rg IntKind.i64 ((↑(List.length b) : Int) - (Sp.numAt b 0).snd) ∧
          bif decide ((↑(List.length b) : Int) - (Sp.numAt b 0).snd < (Sp.numAt b 0).fst) then R (0, [], [], [], 4)
          else
            Rg IntKind.i64 ((Sp.numAt b 0).snd + (Sp.numAt b 0).fst) ∧
              Sb (Sp.numAt b 0).snd ((Sp.numAt b 0).snd + (Sp.numAt b 0).fst) (List.length b) ∧
                Rg IntKind.i64 ((Sp.numAt b 0).snd + (Sp.numAt b 0).fst) ∧
                  Sb ((Sp.numAt b 0).snd + (Sp.numAt b 0).fst) (↑(List.length b) : Int) (List.length b) ∧
                    R (0, sub b (Sp.numAt b 0).snd ((Sp.numAt b 0).snd + (Sp.numAt b 0).fst), [], sub b ((Sp.numAt b 0).snd + (Sp.numAt b 0).fst) (↑(List.length b) : Int), 0)

def rectoref01_TakeList.L0 (R : Int × List UInt8 × List (List UInt8) × List UInt8 × Int →
  Prop) (i : Int) (t2_N : Int) (t2_S : List
  UInt8) (t2_Rest : List
  UInt8) (t2_Err : Int) (t2_L : List
  (List
    UInt8)) (g_N : Int) (g_End : Int) (out_N : Int) (out_S : List
  UInt8) (out_Rest : List
  UInt8) (out_Err : Int) (out_L : List
  (List UInt8)) (K0 : Int × Int × List UInt8 × List UInt8 × Int × List (List UInt8) × Int × Int × Int × List UInt8 × List UInt8 × Int × List (List UInt8) × Unit → Prop) : Prop :=
  bif decide (i < g_N) then
    Sp.takenT.pre out_Rest ∧
      bif !decide ((Sp.takenT out_Rest).snd.snd.snd.snd = 0) then R (0, [], [], [], 4)
      else
        Gr out_L.length 1 16 ∧
          Rg IntKind.i64 (i + 1) ∧
            K0 (i + 1, t2_N, t2_S, t2_Rest, t2_Err, t2_L, g_N, g_End, out_N, out_S, (Sp.takenT out_Rest).snd.snd.snd.fst, out_Err, out_L ++ [(Sp.takenT out_Rest).snd.fst], ())
  else R (out_N, out_S, out_L, out_Rest, out_Err)
def rectoref01_TakeList.vc (R : Int × List UInt8 × List (List UInt8) × List UInt8 × Int → Prop) (b : Str) : Prop :=
  Sp.numAt.pre b 0 ∧
    bif decide ((Sp.numAt b 0).snd < 0) then R (0, [], [], [], 4)
    else
      bif decide (1000 < (Sp.numAt b 0).fst) then R (0, [], [], [], 4)
      else
        Sb (Sp.numAt b 0).snd (↑(List.length b) : Int) (List.length b) ∧
          Lp
            (fun v K =>
              rectoref01_TakeList.L0 R v.fst v.snd.fst v.snd.snd.fst v.snd.snd.snd.fst v.snd.snd.snd.snd.fst v.snd.snd.snd.snd.snd.fst v.snd.snd.snd.snd.snd.snd.fst
                v.snd.snd.snd.snd.snd.snd.snd.fst v.snd.snd.snd.snd.snd.snd.snd.snd.fst v.snd.snd.snd.snd.snd.snd.snd.snd.snd.fst v.snd.snd.snd.snd.snd.snd.snd.snd.snd.snd.fst
                v.snd.snd.snd.snd.snd.snd.snd.snd.snd.snd.snd.fst v.snd.snd.snd.snd.snd.snd.snd.snd.snd.snd.snd.snd.fst K)
            (0, 0, [], [], 0, [], (Sp.numAt b 0).fst, (Sp.numAt b 0).snd, 0, [], sub b (Sp.numAt b 0).snd (↑(List.length b) : Int), 0, [], ())

def rectoplain_Texts.L0 (R : Bool →
  Prop) (a : List (List UInt8)) (b : List (List UInt8)) (t7 : Int) (t8 : Int) (K0 : List (List UInt8) × List (List UInt8) × Int × Int × Unit → Prop) : Prop :=
  bif decide (t8 < t7) then
    bif decide ((↑b.length : Int) ≤ t8) then R false
    else Ix t8 a.length ∧ Ix t8 b.length ∧ bif !decide (nth a t8 [] = nth b t8 []) then R false else Rg IntKind.i64 (t8 + 1) ∧ K0 (a, b, t7, t8 + 1, ())
  else R (decide ((↑a.length : Int) = (↑b.length : Int)))
def rectoplain_Texts.vc (R : Bool → Prop) (a : List Str) (b : List Str) : Prop :=
  Lp (fun v K => rectoplain_Texts.L0 R v.fst v.snd.fst v.snd.snd.fst v.snd.snd.snd.fst K) (a, b, (↑a.length : Int), 0, ())

def rectolaw01_ab.vc (R : Bool → Prop) : Prop :=
  (↑4 : Int) + (↑1 : Int) ≤ 9223372036854775807 ∧ Sp.takeText.pre (List.append (Sp.textP [97, 98]).fst [99]) ∧ R true

def rectolaw01_long.L0 (R : Bool → Prop) (n : Int) (t6 : List (List UInt8)) (t7 : Int) (t8 : Int) (K0 : Int × List (List UInt8) × Int × Int × Unit → Prop) : Prop :=
  bif decide (t8 < t7) then
    Ix t8 t6.length ∧
      bif decide (1100 < t8) then R true
      else
        bif decide (100000 < (↑(List.length (nth t6 t8 [])) : Int)) then R true
        else
          Rg IntKind.i64 (n + (↑(List.length (nth t6 t8 [])) : Int)) ∧
            bif decide (200000 < n + (↑(List.length (nth t6 t8 [])) : Int)) then R true else Rg IntKind.i64 (t8 + 1) ∧ K0 (n + (↑(List.length (nth t6 t8 [])) : Int), t6, t7, t8 + 1, ())
  else R false
def rectolaw01_long.vc (R : Bool → Prop) (l : List Str) : Prop :=
  Lp (fun v K => rectolaw01_long.L0 R v.fst v.snd.fst v.snd.snd.fst v.snd.snd.snd.fst K) (0, l, (↑l.length : Int), 0, ())

def rectolaw01_begins.vc (R : Bool → Prop) (a : Str) (b : Str) : Prop :=
  bif decide ((↑(List.length b) : Int) ≤ (↑(List.length a) : Int)) then Sb 0 (↑(List.length b) : Int) (List.length a) ∧ R (decide (sub a 0 (↑(List.length b) : Int) = b)) else R false

def rectolaw01_QuillNums.vc (R : Bool → Prop) (b : Str) : Prop :=
  Sp.takeNum.pre b ∧
    Sp.takenN.pre b ∧
      bif decide ((Sp.takeNum b).fst = (Sp.takenN b).fst) then
        bif decide ((Sp.takeNum b).snd.fst = (Sp.takenN b).snd.snd.snd.fst) then bif decide ((Sp.takeNum b).snd.snd = (Sp.takenN b).snd.snd.snd.snd) then R Sp.tt else R false else R false
      else R false

def rectolaw01_QuillSizes.vc (R : Bool → Prop) (n : Int) (m : Int) : Prop :=
  bif !decide ((Sp.numP n).snd = 0) then
    bif decide (n < 0) then R Sp.tt else bif decide (1099511627776 < n) then R Sp.tt else bif decide (m < 0) then R Sp.tt else bif decide (1099511627776 < m) then R Sp.tt else R false
  else
    bif !decide ((Sp.numP m).snd = 0) then
      bif decide (n < 0) then R Sp.tt else bif decide (1099511627776 < n) then R Sp.tt else bif decide (m < 0) then R Sp.tt else bif decide (1099511627776 < m) then R Sp.tt else R false
    else
      bif decide ((↑(List.length (Sp.numP n).fst) : Int) ≤ 7) then
        Sp.sizeN.pre n ∧
          Rg IntKind.i64 (1 + Sp.sizeN n) ∧
            bif decide ((↑(List.length (Sp.numP n).fst) : Int) = 1 + Sp.sizeN n) then
              bif decide (m ≤ n) then bif eqB (Op.bytesLess (Sp.numP n).fst (Sp.numP m).fst) (decide (n < m)) then R Sp.tt else R false
              else
                bif decide ((↑(List.length (Sp.numP n).fst) : Int) ≤ (↑(List.length (Sp.numP m).fst) : Int)) then
                  bif eqB (Op.bytesLess (Sp.numP n).fst (Sp.numP m).fst) (decide (n < m)) then R Sp.tt else R false
                else R false
            else R false
      else R false

def rectolaw01_QuillPuts.vc (R : Bool → Prop) (n : Int) (s : Str) (l : List Str) : Prop :=
  Sp.long.pre l ∧
    bif Sp.long l then R Sp.tt
    else
      bif decide (100000 < (↑(List.length s) : Int)) then R Sp.tt
      else
        Sp.listP.pre l ∧
          Sp.listP.pre l ∧
            bif decide ((Sp.numP n).fst = (Sp.numP n).fst) then
              bif decide ((Sp.numP n).snd = (Sp.numP n).snd) then
                bif decide ((Sp.textP s).fst = (Sp.textP s).fst) then
                  bif decide ((Sp.textP s).snd = (Sp.textP s).snd) then
                    bif decide ((Sp.listP l).fst = (Sp.listP l).fst) then bif decide ((Sp.listP l).snd = (Sp.listP l).snd) then R Sp.tt else R false else R false
                  else R false
                else R false
              else R false
            else R false

def rectolaw01_QuillApart.vc (R : Bool → Prop) (a : List Str) (b : List Str) : Prop :=
  Sp.long.pre a ∧
    bif Sp.long a then R Sp.tt
    else
      Sp.long.pre b ∧
        bif Sp.long b then R Sp.tt
        else
          Sp.listP.pre a ∧
            Sp.listP.pre b ∧
              bif !decide ((Sp.listP a).snd = 0) then R Sp.tt
              else
                bif !decide ((Sp.listP b).snd = 0) then R Sp.tt
                else
                  bif Sp.begins (Sp.listP a).fst (Sp.listP b).fst then Sp.eqL.pre a b ∧ bif eqB true (Sp.eqL a b) then R Sp.tt else R false
                  else Sp.eqL.pre a b ∧ bif eqB (Sp.begins (Sp.listP b).fst (Sp.listP a).fst) (Sp.eqL a b) then R Sp.tt else R false

def rectolaw01_QuillTexts.vc (R : Bool → Prop) (b : Str) : Prop :=
  bif decide (5000 < (↑(List.length b) : Int)) then R Sp.tt
  else
    Sp.takeText.pre b ∧
      Sp.takenT.pre b ∧
        Sp.takeList.pre b ∧
          Sp.takenL.pre b ∧
            bif decide ((Sp.takeText b).fst = (Sp.takenT b).snd.fst) then
              bif decide ((Sp.takeText b).snd.fst = (Sp.takenT b).snd.snd.snd.fst) then
                bif decide ((Sp.takeText b).snd.snd = (Sp.takenT b).snd.snd.snd.snd) then
                  Sp.eqL.pre (Sp.takeList b).fst (Sp.takenL b).snd.snd.fst ∧
                    bif Sp.eqL (Sp.takeList b).fst (Sp.takenL b).snd.snd.fst then
                      bif decide ((Sp.takeList b).snd.fst = (Sp.takenL b).snd.snd.snd.fst) then bif decide ((Sp.takeList b).snd.snd = (Sp.takenL b).snd.snd.snd.snd) then R Sp.tt else R false
                      else R false
                    else R false
                else R false
              else R false
            else R false

def rectolaw01_QuillBack.vc (R : Bool → Prop) (n : Int) (l : List Str) (behind : Str) : Prop :=
  Sp.long.pre l ∧
    bif Sp.long l then R Sp.tt
    else
      bif decide (10000 < (↑(List.length behind) : Int)) then R Sp.tt
      else
        bif decide ((Sp.numP n).snd = 0) then
          (↑(List.length (Sp.numP n).fst) : Int) + (↑(List.length behind) : Int) ≤ 9223372036854775807 ∧
            Sp.takeNum.pre ((Sp.numP n).fst ++ behind) ∧
              bif !decide ((Sp.takeNum ((Sp.numP n).fst ++ behind)).snd.snd = 0) then R false
              else
                bif !decide ((Sp.takeNum ((Sp.numP n).fst ++ behind)).fst = n) then R false
                else
                  bif !decide ((Sp.takeNum ((Sp.numP n).fst ++ behind)).snd.fst = behind) then R false
                  else
                    Sp.listP.pre l ∧
                      bif decide ((Sp.listP l).snd = 0) then
                        (↑(List.length (Sp.listP l).fst) : Int) + (↑(List.length behind) : Int) ≤ 9223372036854775807 ∧
                          Sp.takeList.pre ((Sp.listP l).fst ++ behind) ∧
                            bif !decide ((Sp.takeList ((Sp.listP l).fst ++ behind)).snd.snd = 0) then R false
                            else
                              Sp.eqL.pre (Sp.takeList ((Sp.listP l).fst ++ behind)).fst l ∧
                                bif !Sp.eqL (Sp.takeList ((Sp.listP l).fst ++ behind)).fst l then R false
                                else bif !decide ((Sp.takeList ((Sp.listP l).fst ++ behind)).snd.fst = behind) then R false else R Sp.tt
                      else R Sp.tt
        else
          Sp.listP.pre l ∧
            bif decide ((Sp.listP l).snd = 0) then
              (↑(List.length (Sp.listP l).fst) : Int) + (↑(List.length behind) : Int) ≤ 9223372036854775807 ∧
                Sp.takeList.pre ((Sp.listP l).fst ++ behind) ∧
                  bif !decide ((Sp.takeList ((Sp.listP l).fst ++ behind)).snd.snd = 0) then R false
                  else
                    Sp.eqL.pre (Sp.takeList ((Sp.listP l).fst ++ behind)).fst l ∧
                      bif !Sp.eqL (Sp.takeList ((Sp.listP l).fst ++ behind)).fst l then R false
                      else bif !decide ((Sp.takeList ((Sp.listP l).fst ++ behind)).snd.fst = behind) then R false else R Sp.tt
            else R Sp.tt

