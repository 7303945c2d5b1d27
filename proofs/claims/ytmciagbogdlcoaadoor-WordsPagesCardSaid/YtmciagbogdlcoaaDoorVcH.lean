/- Conditions of functions. Written by a program of this session. -/
import Derived.Test.YtmciagbogdlcoaaDoorSpH
set_option linter.unnecessarySimpa false
set_option linter.unusedVariables false
set_option linter.unusedSectionVars false
set_option linter.unusedSimpArgs false
set_option autoImplicit false
set_option linter.unusedVariables false
open Go Vi

def utf_is.vc (R : Bool → Prop) (c : Int) : Prop :=
  bif decide (0 ≤ c) then bif decide (c < 1114112) then bif decide (c < 55296) then R true else R (decide (57343 < c)) else R false else R false

def utf_size.L0 (R : Int → Prop) (c : Int) (n : Int) (K0 : Int × Int × Unit → Prop) : Prop :=
  Ix n 5 ∧ bif decide (c < (nth utfRows n (0, 0)).snd) then Rg IntKind.i64 (n - 1) ∧ K0 (c, n - 1, ()) else R n
def utf_size.vc (R : Int → Prop) (c : Int) : Prop :=
  Lp (fun v K => utf_size.L0 R v.fst v.snd.fst K) (c, 4, ())

def utf_Bytes.L0 (R : List UInt8 → Prop) (c : Int) (n : Int) (i : Int) (out : List Int) (K0 : Int × Int × Int × List Int × Unit → Prop) : Prop :=
  bif decide (0 < i) then
    Ix i out.length ∧
      Shf 6 IntKind.i64 ∧ Rg IntKind.i64 (i - 1) ∧ K0 (c / 2 ^ 6, n, i - 1, out.set i.toNat (IntKind.u8.wrap (bitsO BinOp.or IntKind.i64 128 (bitsO BinOp.and IntKind.i64 c 63))), ())
  else Ix n 5 ∧ Ix 0 out.length ∧ R (bytesOf (out.set 0 (IntKind.u8.wrap (bitsO BinOp.or IntKind.i64 (nth utfRows n (0, 0)).fst c))))
def utf_Bytes.L1 (R : List UInt8 → Prop) (x10 : Int) (x11 : Int) (x12 : Int) (x13 : List Int) (K1 : Int × Int × Int × List Int × Unit → Prop) : Prop :=
  bif decide (0 < x12) then
    Ix x12 x13.length ∧
      Shf 6 IntKind.i64 ∧
        Rg IntKind.i64 (x12 - 1) ∧ K1 (x10 / 2 ^ 6, x11, x12 - 1, x13.set x12.toNat (IntKind.u8.wrap (bitsO BinOp.or IntKind.i64 128 (bitsO BinOp.and IntKind.i64 x10 63))), ())
  else Ix x11 5 ∧ Ix 0 x13.length ∧ R (bytesOf (x13.set 0 (IntKind.u8.wrap (bitsO BinOp.or IntKind.i64 (nth utfRows x11 (0, 0)).fst x10))))
def utf_Bytes.vc (R : List UInt8 → Prop) (c : Int) : Prop :=
  bif !Sp.isC c then
    Sp.sizeC.pre 65533 ∧
      Mk (Sp.sizeC 65533) (Sp.sizeC 65533) 1 ∧
        Rg IntKind.i64 (Sp.sizeC 65533 - 1) ∧
          Lp (fun v K => utf_Bytes.L0 R v.fst v.snd.fst v.snd.snd.fst v.snd.snd.snd.fst K) (65533, Sp.sizeC 65533, Sp.sizeC 65533 - 1, rep (Sp.sizeC 65533) 0, ())
  else
    Sp.sizeC.pre c ∧
      Mk (Sp.sizeC c) (Sp.sizeC c) 1 ∧
        Rg IntKind.i64 (Sp.sizeC c - 1) ∧ Lp (fun v K => utf_Bytes.L1 R v.fst v.snd.fst v.snd.snd.fst v.snd.snd.snd.fst K) (c, Sp.sizeC c, Sp.sizeC c - 1, rep (Sp.sizeC c) 0, ())

def strings_Builder_WriteString.vc (R : Int → List Int → Prop) (s : Str) (x : List Int) : Prop :=
  Gr x.length (List.map (fun b => (↑b.toNat : Int)) s).length 1 ∧ R (↑(List.length s) : Int) (x ++ List.map (fun b => (↑b.toNat : Int)) s)

def refs_Escape.vc (R : List UInt8 → Prop) (s : Str) (value : Bool) : Prop :=
  Sp.repA.pre s [38] [38, 97, 109, 112, 59] ∧
    Sp.repA.pre (Sp.repA s [38] [38, 97, 109, 112, 59]) (Sp.bytesC 160) [38, 110, 98, 115, 112, 59] ∧
      Sp.repA.pre (Sp.repA (Sp.repA s [38] [38, 97, 109, 112, 59]) (Sp.bytesC 160) [38, 110, 98, 115, 112, 59]) [60] [38, 108, 116, 59] ∧
        Sp.repA.pre (Sp.repA (Sp.repA (Sp.repA s [38] [38, 97, 109, 112, 59]) (Sp.bytesC 160) [38, 110, 98, 115, 112, 59]) [60] [38, 108, 116, 59]) [62] [38, 103, 116, 59] ∧
          bif value then
            Sp.repA.pre (Sp.repA (Sp.repA (Sp.repA (Sp.repA s [38] [38, 97, 109, 112, 59]) (Sp.bytesC 160) [38, 110, 98, 115, 112, 59]) [60] [38, 108, 116, 59]) [62] [38, 103, 116, 59]) [34]
                [38, 113, 117, 111, 116, 59] ∧
              R
                (Sp.repA (Sp.repA (Sp.repA (Sp.repA (Sp.repA s [38] [38, 97, 109, 112, 59]) (Sp.bytesC 160) [38, 110, 98, 115, 112, 59]) [60] [38, 108, 116, 59]) [62] [38, 103, 116, 59])
                  [34] [38, 113, 117, 111, 116, 59])
          else R (Sp.repA (Sp.repA (Sp.repA (Sp.repA s [38] [38, 97, 109, 112, 59]) (Sp.bytesC 160) [38, 110, 98, 115, 112, 59]) [60] [38, 108, 116, 59]) [62] [38, 103, 116, 59])

def rectoref04_at.vc (R : Int → Prop) (s : Str) (i : Int) : Prop :=
  bif decide (i < 0) then R 0 else bif decide ((↑(List.length s) : Int) ≤ i) then R 0 else Ix i (List.length s) ∧ R (↑(nth s i 0).toNat : Int)

def rectoref04_Escape.L0 (R : List UInt8 → Prop) (s : List UInt8) (inValue : Bool) (out : List UInt8) (i : Int) (K0 : List UInt8 × Bool × List UInt8 × Int × Unit → Prop) : Prop :=
  bif decide (i < (↑s.length : Int)) then
    Ix i s.length ∧
      bif decide ((↑(nth s i 0).toNat : Int) = 38) then
        (↑out.length : Int) + (↑5 : Int) ≤ 9223372036854775807 ∧ Rg IntKind.i64 (i + 1) ∧ K0 (s, inValue, out ++ [38, 97, 109, 112, 59], i + 1, ())
      else
        bif decide ((↑(nth s i 0).toNat : Int) = 60) then
          (↑out.length : Int) + (↑4 : Int) ≤ 9223372036854775807 ∧ Rg IntKind.i64 (i + 1) ∧ K0 (s, inValue, out ++ [38, 108, 116, 59], i + 1, ())
        else
          bif decide ((↑(nth s i 0).toNat : Int) = 62) then
            (↑out.length : Int) + (↑4 : Int) ≤ 9223372036854775807 ∧ Rg IntKind.i64 (i + 1) ∧ K0 (s, inValue, out ++ [38, 103, 116, 59], i + 1, ())
          else
            bif decide ((↑(nth s i 0).toNat : Int) = 34) then
              bif inValue then (↑out.length : Int) + (↑6 : Int) ≤ 9223372036854775807 ∧ Rg IntKind.i64 (i + 1) ∧ K0 (s, inValue, out ++ [38, 113, 117, 111, 116, 59], i + 1, ())
              else (↑out.length : Int) + (↑1 : Int) ≤ 9223372036854775807 ∧ Rg IntKind.i64 (i + 1) ∧ K0 (s, inValue, out ++ [34], i + 1, ())
            else
              bif decide ((↑(nth s i 0).toNat : Int) = 194) then
                Rg IntKind.i64 (i + 1) ∧
                  bif decide (Sp.atRef s (i + 1) = 160) then
                    (↑out.length : Int) + (↑6 : Int) ≤ 9223372036854775807 ∧
                      Rg IntKind.i64 (i + 1) ∧ Rg IntKind.i64 (i + 1 + 1) ∧ K0 (s, inValue, out ++ [38, 110, 98, 115, 112, 59], i + 1 + 1, ())
                  else
                    Rg IntKind.i64 (i + 1) ∧
                      Sb i (i + 1) s.length ∧
                        (↑out.length : Int) + (↑(sub s i (i + 1)).length : Int) ≤ 9223372036854775807 ∧ Rg IntKind.i64 (i + 1) ∧ K0 (s, inValue, out ++ sub s i (i + 1), i + 1, ())
              else
                Rg IntKind.i64 (i + 1) ∧
                  Sb i (i + 1) s.length ∧
                    (↑out.length : Int) + (↑(sub s i (i + 1)).length : Int) ≤ 9223372036854775807 ∧ Rg IntKind.i64 (i + 1) ∧ K0 (s, inValue, out ++ sub s i (i + 1), i + 1, ())
  else R out
def rectoref04_Escape.vc (R : List UInt8 → Prop) (s : Str) (inValue : Bool) : Prop :=
  Lp (fun v K => rectoref04_Escape.L0 R v.fst v.snd.fst v.snd.snd.fst v.snd.snd.snd.fst K) (s, inValue, [], 0, ())

def print_Open.L0 (R : List UInt8 →
  Prop) (t14 : List (List UInt8 × List UInt8)) (t15 : Int) (t16 : Int) (out_buf : List Int) (K0 : List (List UInt8 × List UInt8) × Int × Int × List Int × Unit → Prop) : Prop :=
  bif decide (t16 < t15) then
    Ix t16 t14.length ∧
      (↑1 : Int) + (↑(List.length (nth t14 t16 ([], [])).fst) : Int) ≤ 9223372036854775807 ∧
        (↑(32 :: (nth t14 t16 ([], [])).fst).length : Int) + (↑2 : Int) ≤ 9223372036854775807 ∧
          Sp.escS.pre (nth t14 t16 ([], [])).snd true ∧
            (↑(List.length (32 :: (nth t14 t16 ([], [])).fst ++ [61, 34])) : Int) + (↑(List.length (Sp.escS (nth t14 t16 ([], [])).snd true)) : Int) ≤ 9223372036854775807 ∧
              (↑(List.length (32 :: (nth t14 t16 ([], [])).fst ++ [61, 34] ++ Sp.escS (nth t14 t16 ([], [])).snd true)) : Int) + (↑1 : Int) ≤ 9223372036854775807 ∧
                Sp.wr.pre out_buf (32 :: (nth t14 t16 ([], [])).fst ++ [61, 34] ++ Sp.escS (nth t14 t16 ([], [])).snd true ++ [34]) ∧
                  Rg IntKind.i64 (t16 + 1) ∧ K0 (t14, t15, t16 + 1, Sp.wr out_buf (32 :: (nth t14 t16 ([], [])).fst ++ [61, 34] ++ Sp.escS (nth t14 t16 ([], [])).snd true ++ [34]), ())
  else Sp.wb.pre out_buf 62 ∧ R (bytesOf (Sp.wb out_buf 62))
def print_Open.vc (R : List UInt8 → Prop) (n : Vi.Node) : Prop :=
  bif !decide (n.kind = 1) then R []
  else
    (↑1 : Int) + (↑(List.length n.name) : Int) ≤ 9223372036854775807 ∧
      Sp.wr.pre [] (60 :: n.name) ∧ Lp (fun v K => print_Open.L0 R v.fst v.snd.fst v.snd.snd.fst v.snd.snd.snd.fst K) (n.attrs, (↑n.attrs.length : Int), 0, Sp.wr [] (60 :: n.name), ())

def rectoref13_Open.L0 (R : List UInt8 →
  Prop) (out : List UInt8) (t13 : List (List UInt8 × List UInt8)) (t14 : Int) (t15 : Int) (K0 : List UInt8 × List (List UInt8 × List UInt8) × Int × Int × Unit → Prop) : Prop :=
  bif decide (t15 < t14) then
    Ix t15 t13.length ∧
      (↑out.length : Int) + (↑1 : Int) ≤ 9223372036854775807 ∧
        (↑(List.length (out ++ [32])) : Int) + (↑(List.length (nth t13 t15 ([], [])).fst) : Int) ≤ 9223372036854775807 ∧
          (↑(List.length (out ++ [32] ++ (nth t13 t15 ([], [])).fst)) : Int) + (↑2 : Int) ≤ 9223372036854775807 ∧
            Sp.escS.pre (nth t13 t15 ([], [])).snd true ∧
              (↑(List.length (out ++ [32] ++ (nth t13 t15 ([], [])).fst ++ [61, 34])) : Int) + (↑(List.length (Sp.escS (nth t13 t15 ([], [])).snd true)) : Int) ≤ 9223372036854775807 ∧
                (↑(List.length (out ++ [32] ++ (nth t13 t15 ([], [])).fst ++ [61, 34] ++ Sp.escS (nth t13 t15 ([], [])).snd true)) : Int) + (↑1 : Int) ≤ 9223372036854775807 ∧
                  Rg IntKind.i64 (t15 + 1) ∧ K0 (out ++ [32] ++ (nth t13 t15 ([], [])).fst ++ [61, 34] ++ Sp.escS (nth t13 t15 ([], [])).snd true ++ [34], t13, t14, t15 + 1, ())
  else (↑out.length : Int) + (↑1 : Int) ≤ 9223372036854775807 ∧ R (out ++ [62])
def rectoref13_Open.vc (R : List UInt8 → Prop) (n : Vi.Node) : Prop :=
  bif !decide (n.kind = 1) then R []
  else
    (↑1 : Int) + (↑(List.length n.name) : Int) ≤ 9223372036854775807 ∧
      Lp (fun v K => rectoref13_Open.L0 R v.fst v.snd.fst v.snd.snd.fst v.snd.snd.snd.fst K) (60 :: n.name, n.attrs, (↑n.attrs.length : Int), 0, ())

def writer_WriteString.vc (R : Int → List Int → Prop) (s : Str) (x : List Int) : Prop :=
  Gr x.length (List.map (fun b => (↑b.toNat : Int)) s).length 1 ∧ R (↑(List.length s) : Int) (x ++ List.map (fun b => (↑b.toNat : Int)) s)

def writer_String.vc (R : List UInt8 → Prop) (x : List Int) : Prop :=
  (↑x.length : Int) = (↑x.length : Int) ∧ R (bytesOf x)

def rectoref13_flat.L0 (R : List UInt8 → Prop) (s : List UInt8) (out : List UInt8) (i : Int) (K0 : List UInt8 × List UInt8 × Int × Unit → Prop) : Prop :=
  bif decide (i < (↑s.length : Int)) then
    Ix i s.length ∧
      bif decide ((↑(nth s i 0).toNat : Int) = 10) then (↑out.length : Int) + (↑1 : Int) ≤ 9223372036854775807 ∧ Rg IntKind.i64 (i + 1) ∧ K0 (s, out ++ [32], i + 1, ())
      else
        Rg IntKind.i64 (i + 1) ∧
          Sb i (i + 1) s.length ∧ (↑out.length : Int) + (↑(sub s i (i + 1)).length : Int) ≤ 9223372036854775807 ∧ Rg IntKind.i64 (i + 1) ∧ K0 (s, out ++ sub s i (i + 1), i + 1, ())
  else R out
def rectoref13_flat.vc (R : List UInt8 → Prop) (s : Str) : Prop :=
  Lp (fun v K => rectoref13_flat.L0 R v.fst v.snd.fst v.snd.snd.fst K) (s, [], 0, ())

def print_shown.vc (R : List UInt8 → Prop) (n : Vi.Node) : Prop :=
  bif decide (n.kind = 1) then Sp.openP.pre (Vi.Node.mk n.kind n.space n.name n.attrs n.text n.kids) ∧ R (Sp.openP (Vi.Node.mk n.kind n.space n.name n.attrs n.text n.kids))
  else
    bif decide (n.kind = 2) then Sp.repA.pre n.text [10] [32] ∧ R (Sp.repA n.text [10] [32])
    else bif decide (n.kind = 3) then Sp.repA.pre n.text [10] [32] ∧ R (Sp.repA n.text [10] [32]) else R []

def print_Lines_1.L0 (nn : Nat) (R : List (List UInt8) →
  Prop) (depth : Int) (t8 : List Vi.Node) (t9 : Int) (t10 : Int) (out : List (List UInt8)) (K0 : Int × List Vi.Node × Int × Int × List (List UInt8) × Unit → Prop) : Prop :=
  bif decide (t10 < t9) then
    Ix t10 t8.length ∧
      Sp.repS.pre [32] depth ∧
        Sp.shownN.pre
            (Vi.Node.mk (Vi.Node.kind (nth t8 t10 (Vi.Node.mk 0 0 [] [] [] []))) (Node.space (nth t8 t10 (Vi.Node.mk 0 0 [] [] [] []))) (Node.name (nth t8 t10 (Vi.Node.mk 0 0 [] [] [] [])))
              (Node.attrs (nth t8 t10 (Vi.Node.mk 0 0 [] [] [] []))) (Node.text (nth t8 t10 (Vi.Node.mk 0 0 [] [] [] []))) (Node.kids (nth t8 t10 (Vi.Node.mk 0 0 [] [] [] [])))) ∧
          (↑(List.length (Sp.repS [32] depth)) : Int) +
                (↑(List.length
                      (Sp.shownN
                        (Vi.Node.mk (Vi.Node.kind (nth t8 t10 (Vi.Node.mk 0 0 [] [] [] []))) (Node.space (nth t8 t10 (Vi.Node.mk 0 0 [] [] [] [])))
                          (Node.name (nth t8 t10 (Vi.Node.mk 0 0 [] [] [] []))) (Node.attrs (nth t8 t10 (Vi.Node.mk 0 0 [] [] [] []))) (Node.text (nth t8 t10 (Vi.Node.mk 0 0 [] [] [] [])))
                          (Node.kids (nth t8 t10 (Vi.Node.mk 0 0 [] [] [] [])))))) :
                  Int) ≤
              9223372036854775807 ∧
            Gr out.length 1 16 ∧
              Rg IntKind.i64 (depth + 1) ∧
                (Sp.linesD.pre (Node.kids (nth t8 t10 (Vi.Node.mk 0 0 [] [] [] []))) (depth + 1)
                      (out ++
                        [Sp.repS [32] depth ++
                            Sp.shownN
                              (Vi.Node.mk (Vi.Node.kind (nth t8 t10 (Vi.Node.mk 0 0 [] [] [] []))) (Node.space (nth t8 t10 (Vi.Node.mk 0 0 [] [] [] [])))
                                (Node.name (nth t8 t10 (Vi.Node.mk 0 0 [] [] [] []))) (Node.attrs (nth t8 t10 (Vi.Node.mk 0 0 [] [] [] [])))
                                (Node.text (nth t8 t10 (Vi.Node.mk 0 0 [] [] [] []))) (Node.kids (nth t8 t10 (Vi.Node.mk 0 0 [] [] [] []))))]) ∧
                    Sp.mLn (Node.kids (nth t8 t10 (Vi.Node.mk 0 0 [] [] [] []))) (depth + 1)
                        (out ++
                          [Sp.repS [32] depth ++
                              Sp.shownN
                                (Vi.Node.mk (Vi.Node.kind (nth t8 t10 (Vi.Node.mk 0 0 [] [] [] []))) (Node.space (nth t8 t10 (Vi.Node.mk 0 0 [] [] [] [])))
                                  (Node.name (nth t8 t10 (Vi.Node.mk 0 0 [] [] [] []))) (Node.attrs (nth t8 t10 (Vi.Node.mk 0 0 [] [] [] [])))
                                  (Node.text (nth t8 t10 (Vi.Node.mk 0 0 [] [] [] []))) (Node.kids (nth t8 t10 (Vi.Node.mk 0 0 [] [] [] []))))]) <
                      nn) ∧
                  Rg IntKind.i64 (t10 + 1) ∧
                    K0
                      (depth, t8, t9, t10 + 1,
                        Sp.linesD (Node.kids (nth t8 t10 (Vi.Node.mk 0 0 [] [] [] []))) (depth + 1)
                          (out ++
                            [Sp.repS [32] depth ++
                                Sp.shownN
                                  (Vi.Node.mk (Vi.Node.kind (nth t8 t10 (Vi.Node.mk 0 0 [] [] [] []))) (Node.space (nth t8 t10 (Vi.Node.mk 0 0 [] [] [] [])))
                                    (Node.name (nth t8 t10 (Vi.Node.mk 0 0 [] [] [] []))) (Node.attrs (nth t8 t10 (Vi.Node.mk 0 0 [] [] [] [])))
                                    (Node.text (nth t8 t10 (Vi.Node.mk 0 0 [] [] [] []))) (Node.kids (nth t8 t10 (Vi.Node.mk 0 0 [] [] [] []))))]),
                        ())
  else R out
def print_Lines_1.vc (R : List (List UInt8) → Prop) (nn : Nat) (l : List Vi.Node) (depth : Int) (out : List Str) : Prop :=
  Lp (fun v K => print_Lines_1.L0 nn R v.fst v.snd.fst v.snd.snd.fst v.snd.snd.snd.fst v.snd.snd.snd.snd.fst K) (depth, l, (↑l.length : Int), 0, out, ())

def print_Lines.vc (R : List (List UInt8) → Prop) (l : List Vi.Node) : Prop :=
  Sp.linesD.pre l 0 [] ∧ R (Sp.linesD l 0 [])

def rectoref13_Lines.L0 (nn : Nat) (R : List (List UInt8) →
  Prop) (ahead : List UInt8) (t9 : List Vi.Node) (t10 : Int) (t11 : Int) (out : List (List UInt8)) (K0 : List UInt8 × List Vi.Node × Int × Int × List (List UInt8) × Unit → Prop) : Prop :=
  bif decide (t11 < t10) then
    Ix t11 t9.length ∧
      Sp.openP.pre
          (Vi.Node.mk (Vi.Node.kind (nth t9 t11 (Vi.Node.mk 0 0 [] [] [] []))) (Node.space (nth t9 t11 (Vi.Node.mk 0 0 [] [] [] []))) (Node.name (nth t9 t11 (Vi.Node.mk 0 0 [] [] [] [])))
            (Node.attrs (nth t9 t11 (Vi.Node.mk 0 0 [] [] [] []))) (Node.text (nth t9 t11 (Vi.Node.mk 0 0 [] [] [] []))) (Node.kids (nth t9 t11 (Vi.Node.mk 0 0 [] [] [] [])))) ∧
        (↑ahead.length : Int) +
              (↑(List.length
                    (Sp.openP
                      (Vi.Node.mk (Vi.Node.kind (nth t9 t11 (Vi.Node.mk 0 0 [] [] [] []))) (Node.space (nth t9 t11 (Vi.Node.mk 0 0 [] [] [] [])))
                        (Node.name (nth t9 t11 (Vi.Node.mk 0 0 [] [] [] []))) (Node.attrs (nth t9 t11 (Vi.Node.mk 0 0 [] [] [] []))) (Node.text (nth t9 t11 (Vi.Node.mk 0 0 [] [] [] [])))
                        (Node.kids (nth t9 t11 (Vi.Node.mk 0 0 [] [] [] [])))))) :
                Int) ≤
            9223372036854775807 ∧
          bif decide (Vi.Node.kind (nth t9 t11 (Vi.Node.mk 0 0 [] [] [] [])) = 2) then
            Sp.flatT.pre (Node.text (nth t9 t11 (Vi.Node.mk 0 0 [] [] [] []))) ∧
              (↑ahead.length : Int) + (↑(List.length (Sp.flatT (Node.text (nth t9 t11 (Vi.Node.mk 0 0 [] [] [] []))))) : Int) ≤ 9223372036854775807 ∧
                Gr out.length 1 16 ∧
                  (↑ahead.length : Int) + (↑1 : Int) ≤ 9223372036854775807 ∧
                    (Sp.linesR.pre (Node.kids (nth t9 t11 (Vi.Node.mk 0 0 [] [] [] []))) (ahead ++ [32]) ∧
                        Sp.mLr (Node.kids (nth t9 t11 (Vi.Node.mk 0 0 [] [] [] []))) (ahead ++ [32]) < nn) ∧
                      Gr (out ++ [ahead ++ Sp.flatT (Node.text (nth t9 t11 (Vi.Node.mk 0 0 [] [] [] [])))]).length
                          (Sp.linesR (Node.kids (nth t9 t11 (Vi.Node.mk 0 0 [] [] [] []))) (ahead ++ [32])).length 16 ∧
                        Rg IntKind.i64 (t11 + 1) ∧
                          K0
                            (ahead, t9, t10, t11 + 1,
                              out ++ [ahead ++ Sp.flatT (Node.text (nth t9 t11 (Vi.Node.mk 0 0 [] [] [] [])))] ++
                                Sp.linesR (Node.kids (nth t9 t11 (Vi.Node.mk 0 0 [] [] [] []))) (ahead ++ [32]),
                              ())
          else
            bif decide (Vi.Node.kind (nth t9 t11 (Vi.Node.mk 0 0 [] [] [] [])) = 3) then
              Sp.flatT.pre (Node.text (nth t9 t11 (Vi.Node.mk 0 0 [] [] [] []))) ∧
                (↑ahead.length : Int) + (↑(List.length (Sp.flatT (Node.text (nth t9 t11 (Vi.Node.mk 0 0 [] [] [] []))))) : Int) ≤ 9223372036854775807 ∧
                  Gr out.length 1 16 ∧
                    (↑ahead.length : Int) + (↑1 : Int) ≤ 9223372036854775807 ∧
                      (Sp.linesR.pre (Node.kids (nth t9 t11 (Vi.Node.mk 0 0 [] [] [] []))) (ahead ++ [32]) ∧
                          Sp.mLr (Node.kids (nth t9 t11 (Vi.Node.mk 0 0 [] [] [] []))) (ahead ++ [32]) < nn) ∧
                        Gr (out ++ [ahead ++ Sp.flatT (Node.text (nth t9 t11 (Vi.Node.mk 0 0 [] [] [] [])))]).length
                            (Sp.linesR (Node.kids (nth t9 t11 (Vi.Node.mk 0 0 [] [] [] []))) (ahead ++ [32])).length 16 ∧
                          Rg IntKind.i64 (t11 + 1) ∧
                            K0
                              (ahead, t9, t10, t11 + 1,
                                out ++ [ahead ++ Sp.flatT (Node.text (nth t9 t11 (Vi.Node.mk 0 0 [] [] [] [])))] ++
                                  Sp.linesR (Node.kids (nth t9 t11 (Vi.Node.mk 0 0 [] [] [] []))) (ahead ++ [32]),
                                ())
            else
              Gr out.length 1 16 ∧
                (↑ahead.length : Int) + (↑1 : Int) ≤ 9223372036854775807 ∧
                  (Sp.linesR.pre (Node.kids (nth t9 t11 (Vi.Node.mk 0 0 [] [] [] []))) (ahead ++ [32]) ∧ Sp.mLr (Node.kids (nth t9 t11 (Vi.Node.mk 0 0 [] [] [] []))) (ahead ++ [32]) < nn) ∧
                    Gr
                        (out ++
                            [ahead ++
                                Sp.openP
                                  (Vi.Node.mk (Vi.Node.kind (nth t9 t11 (Vi.Node.mk 0 0 [] [] [] []))) (Node.space (nth t9 t11 (Vi.Node.mk 0 0 [] [] [] [])))
                                    (Node.name (nth t9 t11 (Vi.Node.mk 0 0 [] [] [] []))) (Node.attrs (nth t9 t11 (Vi.Node.mk 0 0 [] [] [] [])))
                                    (Node.text (nth t9 t11 (Vi.Node.mk 0 0 [] [] [] []))) (Node.kids (nth t9 t11 (Vi.Node.mk 0 0 [] [] [] []))))]).length
                        (Sp.linesR (Node.kids (nth t9 t11 (Vi.Node.mk 0 0 [] [] [] []))) (ahead ++ [32])).length 16 ∧
                      Rg IntKind.i64 (t11 + 1) ∧
                        K0
                          (ahead, t9, t10, t11 + 1,
                            out ++
                                [ahead ++
                                    Sp.openP
                                      (Vi.Node.mk (Vi.Node.kind (nth t9 t11 (Vi.Node.mk 0 0 [] [] [] []))) (Node.space (nth t9 t11 (Vi.Node.mk 0 0 [] [] [] [])))
                                        (Node.name (nth t9 t11 (Vi.Node.mk 0 0 [] [] [] []))) (Node.attrs (nth t9 t11 (Vi.Node.mk 0 0 [] [] [] [])))
                                        (Node.text (nth t9 t11 (Vi.Node.mk 0 0 [] [] [] []))) (Node.kids (nth t9 t11 (Vi.Node.mk 0 0 [] [] [] []))))] ++
                              Sp.linesR (Node.kids (nth t9 t11 (Vi.Node.mk 0 0 [] [] [] []))) (ahead ++ [32]),
                            ())
  else R out
def rectoref13_Lines.vc (R : List (List UInt8) → Prop) (nn : Nat) (l : List Vi.Node) (ahead : Str) : Prop :=
  Lp (fun v K => rectoref13_Lines.L0 nn R v.fst v.snd.fst v.snd.snd.fst v.snd.snd.snd.fst v.snd.snd.snd.snd.fst K) (ahead, l, (↑l.length : Int), 0, [], ())
