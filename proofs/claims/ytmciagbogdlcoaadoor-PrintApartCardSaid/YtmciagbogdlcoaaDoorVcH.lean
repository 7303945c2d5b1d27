/- Conditions of functions. Written by a program of this session. -/
import Derived.Test.YtmciagbogdlcoaaDoorSpH
set_option linter.unnecessarySimpa false
set_option linter.unusedVariables false
set_option linter.unusedSectionVars false
set_option linter.unusedSimpArgs false
set_option autoImplicit false
set_option linter.unusedVariables false
open Go Vi

def utf_is.vc (R : Bool → Prop) (c : Int) : Prop :=
  bif decide (0 ≤ c) then bif decide (c < 1114112) then bif decide (c < 55296) then R true else R (decide (57343 < c)) else R false else R false

def utf_size.L0 (R : Int → Prop) (c : Int) (n : Int) (K0 : Int × Int × Unit → Prop) : Prop :=
  Ix n 5 ∧ bif decide (c < (nth utfRows n (0, 0)).snd) then Rg IntKind.i64 (n - 1) ∧ K0 (c, n - 1, ()) else R n
def utf_size.vc (R : Int → Prop) (c : Int) : Prop :=
  Lp (fun v K => utf_size.L0 R v.fst v.snd.fst K) (c, 4, ())

def utf_Bytes.L0 (R : List UInt8 → Prop) (c : Int) (n : Int) (i : Int) (out : List Int) (K0 : Int × Int × Int × List Int × Unit → Prop) : Prop :=
  bif decide (0 < i) then
    Ix i out.length ∧
      Shf 6 IntKind.i64 ∧ Rg IntKind.i64 (i - 1) ∧ K0 (c / 2 ^ 6, n, i - 1, out.set i.toNat (IntKind.u8.wrap (bitsO BinOp.or IntKind.i64 128 (bitsO BinOp.and IntKind.i64 c 63))), ())
  else Ix n 5 ∧ Ix 0 out.length ∧ R (bytesOf (out.set 0 (IntKind.u8.wrap (bitsO BinOp.or IntKind.i64 (nth utfRows n (0, 0)).fst c))))
def utf_Bytes.L1 (R : List UInt8 → Prop) (x10 : Int) (x11 : Int) (x12 : Int) (x13 : List Int) (K1 : Int × Int × Int × List Int × Unit → Prop) : Prop :=
  bif decide (0 < x12) then
    Ix x12 x13.length ∧
      Shf 6 IntKind.i64 ∧
        Rg IntKind.i64 (x12 - 1) ∧ K1 (x10 / 2 ^ 6, x11, x12 - 1, x13.set x12.toNat (IntKind.u8.wrap (bitsO BinOp.or IntKind.i64 128 (bitsO BinOp.and IntKind.i64 x10 63))), ())
  else Ix x11 5 ∧ Ix 0 x13.length ∧ R (bytesOf (x13.set 0 (IntKind.u8.wrap (bitsO BinOp.or IntKind.i64 (nth utfRows x11 (0, 0)).fst x10))))
def utf_Bytes.vc (R : List UInt8 → Prop) (c : Int) : Prop :=
  bif !Sp.isC c then
    Sp.sizeC.pre 65533 ∧
      Mk (Sp.sizeC 65533) (Sp.sizeC 65533) 1 ∧
        Rg IntKind.i64 (Sp.sizeC 65533 - 1) ∧
          Lp (fun v K => utf_Bytes.L0 R v.fst v.snd.fst v.snd.snd.fst v.snd.snd.snd.fst K) (65533, Sp.sizeC 65533, Sp.sizeC 65533 - 1, rep (Sp.sizeC 65533) 0, ())
  else
    Sp.sizeC.pre c ∧
      Mk (Sp.sizeC c) (Sp.sizeC c) 1 ∧
        Rg IntKind.i64 (Sp.sizeC c - 1) ∧ Lp (fun v K => utf_Bytes.L1 R v.fst v.snd.fst v.snd.snd.fst v.snd.snd.snd.fst K) (c, Sp.sizeC c, Sp.sizeC c - 1, rep (Sp.sizeC c) 0, ())

def strings_Builder_WriteString.vc (R : Int → List Int → Prop) (s : Str) (x : List Int) : Prop :=
  Gr x.length (List.map (fun b => (↑b.toNat : Int)) s).length 1 ∧ R (↑(List.length s) : Int) (x ++ List.map (fun b => (↑b.toNat : Int)) s)

def refs_Escape.vc (R : List UInt8 → Prop) (s : Str) (value : Bool) : Prop :=
  Sp.repA.pre s [38] [38, 97, 109, 112, 59] ∧
    Sp.repA.pre (Sp.repA s [38] [38, 97, 109, 112, 59]) (Sp.bytesC 160) [38, 110, 98, 115, 112, 59] ∧
      Sp.repA.pre (Sp.repA (Sp.repA s [38] [38, 97, 109, 112, 59]) (Sp.bytesC 160) [38, 110, 98, 115, 112, 59]) [60] [38, 108, 116, 59] ∧
        Sp.repA.pre (Sp.repA (Sp.repA (Sp.repA s [38] [38, 97, 109, 112, 59]) (Sp.bytesC 160) [38, 110, 98, 115, 112, 59]) [60] [38, 108, 116, 59]) [62] [38, 103, 116, 59] ∧
          bif value then
            Sp.repA.pre (Sp.repA (Sp.repA (Sp.repA (Sp.repA s [38] [38, 97, 109, 112, 59]) (Sp.bytesC 160) [38, 110, 98, 115, 112, 59]) [60] [38, 108, 116, 59]) [62] [38, 103, 116, 59]) [34]
                [38, 113, 117, 111, 116, 59] ∧
              R
                (Sp.repA (Sp.repA (Sp.repA (Sp.repA (Sp.repA s [38] [38, 97, 109, 112, 59]) (Sp.bytesC 160) [38, 110, 98, 115, 112, 59]) [60] [38, 108, 116, 59]) [62] [38, 103, 116, 59])
                  [34] [38, 113, 117, 111, 116, 59])
          else R (Sp.repA (Sp.repA (Sp.repA (Sp.repA s [38] [38, 97, 109, 112, 59]) (Sp.bytesC 160) [38, 110, 98, 115, 112, 59]) [60] [38, 108, 116, 59]) [62] [38, 103, 116, 59])

def tags_Void.vc (R : Bool → Prop) (name : Str) : Prop :=
  bif decide (Sp.groupN name = 11) then R true else R (decide (Sp.groupN name = 12))

def print_void.vc (R : Bool → Prop) (n : Vi.Node) : Prop :=
  bif decide (n.space = 0) then R (Sp.voidN n.name) else R false

def print_raw.vc (R : Bool → Prop) (n : Vi.Node) : Prop :=
  bif decide (n.space = 0) then bif decide (Sp.groupN n.name = 15) then R true else R (decide (Sp.groupN n.name = 16)) else R false

def print_Open.L0 (R : List UInt8 →
  Prop) (t14 : List (List UInt8 × List UInt8)) (t15 : Int) (t16 : Int) (out_buf : List Int) (K0 : List (List UInt8 × List UInt8) × Int × Int × List Int × Unit → Prop) : Prop :=
  bif decide (t16 < t15) then
    Ix t16 t14.length ∧
      (↑1 : Int) + (↑(List.length (nth t14 t16 ([], [])).fst) : Int) ≤ 9223372036854775807 ∧
        (↑(32 :: (nth t14 t16 ([], [])).fst).length : Int) + (↑2 : Int) ≤ 9223372036854775807 ∧
          Sp.escS.pre (nth t14 t16 ([], [])).snd true ∧
            (↑(List.length (32 :: (nth t14 t16 ([], [])).fst ++ [61, 34])) : Int) + (↑(List.length (Sp.escS (nth t14 t16 ([], [])).snd true)) : Int) ≤ 9223372036854775807 ∧
              (↑(List.length (32 :: (nth t14 t16 ([], [])).fst ++ [61, 34] ++ Sp.escS (nth t14 t16 ([], [])).snd true)) : Int) + (↑1 : Int) ≤ 9223372036854775807 ∧
                Sp.wr.pre out_buf (32 :: (nth t14 t16 ([], [])).fst ++ [61, 34] ++ Sp.escS (nth t14 t16 ([], [])).snd true ++ [34]) ∧
                  Rg IntKind.i64 (t16 + 1) ∧ K0 (t14, t15, t16 + 1, Sp.wr out_buf (32 :: (nth t14 t16 ([], [])).fst ++ [61, 34] ++ Sp.escS (nth t14 t16 ([], [])).snd true ++ [34]), ())
  else Sp.wb.pre out_buf 62 ∧ R (bytesOf (Sp.wb out_buf 62))
def print_Open.vc (R : List UInt8 → Prop) (n : Vi.Node) : Prop :=
  bif !decide (n.kind = 1) then R []
  else
    (↑1 : Int) + (↑(List.length n.name) : Int) ≤ 9223372036854775807 ∧
      Sp.wr.pre [] (60 :: n.name) ∧ Lp (fun v K => print_Open.L0 R v.fst v.snd.fst v.snd.snd.fst v.snd.snd.snd.fst K) (n.attrs, (↑n.attrs.length : Int), 0, Sp.wr [] (60 :: n.name), ())

def writer_WriteString.vc (R : Int → List Int → Prop) (s : Str) (x : List Int) : Prop :=
  Gr x.length (List.map (fun b => (↑b.toNat : Int)) s).length 1 ∧ R (↑(List.length s) : Int) (x ++ List.map (fun b => (↑b.toNat : Int)) s)

def writer_String.vc (R : List UInt8 → Prop) (x : List Int) : Prop :=
  (↑x.length : Int) = (↑x.length : Int) ∧ R (bytesOf x)

def print_writer_all.L0 (nn : Nat) (R : List Int →
  Prop) (plain : Bool) (t8 : List Vi.Node) (t9 : Int) (t10 : Int) (x : List Int) (K0 : Bool × List Vi.Node × Int × Int × List Int × Unit → Prop) : Prop :=
  bif decide (t10 < t9) then
    Ix t10 t8.length ∧
      (Sp.wNode.pre
            (Vi.Node.mk (Vi.Node.kind (nth t8 t10 (Vi.Node.mk 0 0 [] [] [] []))) (Node.space (nth t8 t10 (Vi.Node.mk 0 0 [] [] [] []))) (Node.name (nth t8 t10 (Vi.Node.mk 0 0 [] [] [] [])))
              (Node.attrs (nth t8 t10 (Vi.Node.mk 0 0 [] [] [] []))) (Node.text (nth t8 t10 (Vi.Node.mk 0 0 [] [] [] []))) (Node.kids (nth t8 t10 (Vi.Node.mk 0 0 [] [] [] []))))
            plain x ∧
          Sp.mNode
              (Vi.Node.mk (Vi.Node.kind (nth t8 t10 (Vi.Node.mk 0 0 [] [] [] []))) (Node.space (nth t8 t10 (Vi.Node.mk 0 0 [] [] [] [])))
                (Node.name (nth t8 t10 (Vi.Node.mk 0 0 [] [] [] []))) (Node.attrs (nth t8 t10 (Vi.Node.mk 0 0 [] [] [] []))) (Node.text (nth t8 t10 (Vi.Node.mk 0 0 [] [] [] [])))
                (Node.kids (nth t8 t10 (Vi.Node.mk 0 0 [] [] [] []))))
              plain x <
            nn) ∧
        Rg IntKind.i64 (t10 + 1) ∧
          K0
            (plain, t8, t9, t10 + 1,
              Sp.wr x
                (Sp.inN plain
                  (Vi.Node.mk (Vi.Node.kind (nth t8 t10 (Vi.Node.mk 0 0 [] [] [] []))) (Node.space (nth t8 t10 (Vi.Node.mk 0 0 [] [] [] [])))
                    (Node.name (nth t8 t10 (Vi.Node.mk 0 0 [] [] [] []))) (Node.attrs (nth t8 t10 (Vi.Node.mk 0 0 [] [] [] []))) (Node.text (nth t8 t10 (Vi.Node.mk 0 0 [] [] [] [])))
                    (Node.kids (nth t8 t10 (Vi.Node.mk 0 0 [] [] [] []))))),
              ())
  else R x
def print_writer_all.vc (R : List Int → Prop) (nn : Nat) (l : List Vi.Node) (raw : Bool) (x : List Int) : Prop :=
  Lp (fun v K => print_writer_all.L0 nn R v.fst v.snd.fst v.snd.snd.fst v.snd.snd.snd.fst v.snd.snd.snd.snd.fst K) (raw, l, (↑l.length : Int), 0, x, ())

def print_writer_node.vc (R : List Int → Prop) (nn : Nat) (n : Vi.Node) (raw : Bool) (x : List Int) : Prop :=
  bif decide (n.kind = 1) then
    Sp.openP.pre (Vi.Node.mk n.kind n.space n.name n.attrs n.text n.kids) ∧
      Sp.wr.pre x (Sp.openP (Vi.Node.mk n.kind n.space n.name n.attrs n.text n.kids)) ∧
        bif Sp.voidNd (Vi.Node.mk n.kind n.space n.name n.attrs n.text n.kids) then R (Sp.wr x (Sp.openP (Vi.Node.mk n.kind n.space n.name n.attrs n.text n.kids)))
        else
          (Sp.wAll.pre n.kids (Sp.rawNd (Vi.Node.mk n.kind n.space n.name n.attrs n.text n.kids)) (Sp.wr x (Sp.openP (Vi.Node.mk n.kind n.space n.name n.attrs n.text n.kids))) ∧
              Sp.mAll n.kids (Sp.rawNd (Vi.Node.mk n.kind n.space n.name n.attrs n.text n.kids)) (Sp.wr x (Sp.openP (Vi.Node.mk n.kind n.space n.name n.attrs n.text n.kids))) < nn) ∧
            (↑2 : Int) + (↑(List.length n.name) : Int) ≤ 9223372036854775807 ∧
              (↑(60 :: 47 :: n.name).length : Int) + (↑1 : Int) ≤ 9223372036854775807 ∧
                Sp.wr.pre
                    (Sp.wr (Sp.wr x (Sp.openP (Vi.Node.mk n.kind n.space n.name n.attrs n.text n.kids))) (Sp.inL (Sp.rawNd (Vi.Node.mk n.kind n.space n.name n.attrs n.text n.kids)) n.kids))
                    (60 :: 47 :: n.name ++ [62]) ∧
                  R
                    (Sp.wr
                      (Sp.wr (Sp.wr x (Sp.openP (Vi.Node.mk n.kind n.space n.name n.attrs n.text n.kids)))
                        (Sp.inL (Sp.rawNd (Vi.Node.mk n.kind n.space n.name n.attrs n.text n.kids)) n.kids))
                      (60 :: 47 :: n.name ++ [62]))
  else
    bif decide (n.kind = 3) then
      (↑4 : Int) + (↑(List.length n.text) : Int) ≤ 9223372036854775807 ∧
        (↑(60 :: 33 :: 45 :: 45 :: n.text).length : Int) + (↑3 : Int) ≤ 9223372036854775807 ∧
          Sp.wr.pre x (60 :: 33 :: 45 :: 45 :: n.text ++ [45, 45, 62]) ∧ R (Sp.wr x (60 :: 33 :: 45 :: 45 :: n.text ++ [45, 45, 62]))
    else
      bif decide (n.kind = 2) then
        bif raw then Sp.wr.pre x n.text ∧ R (Sp.wr x n.text) else Sp.escS.pre n.text false ∧ Sp.wr.pre x (Sp.escS n.text false) ∧ R (Sp.wr x (Sp.escS n.text false))
      else R x

def print_Text.vc (R : List UInt8 → Prop) (l : List Vi.Node) : Prop :=
  Sp.wAll.pre l false [] ∧ R (bytesOf (Sp.wr [] (Sp.inL false l)))

def print_Size.vc (R : Int → Prop) (l : List Vi.Node) : Prop :=
  Sp.prOk l ∧ R (↑(List.length (Sp.textN l)) : Int)

def print_shown.vc (R : List UInt8 → Prop) (n : Vi.Node) : Prop :=
  bif decide (n.kind = 1) then Sp.openP.pre (Vi.Node.mk n.kind n.space n.name n.attrs n.text n.kids) ∧ R (Sp.openP (Vi.Node.mk n.kind n.space n.name n.attrs n.text n.kids))
  else
    bif decide (n.kind = 2) then Sp.repA.pre n.text [10] [32] ∧ R (Sp.repA n.text [10] [32])
    else bif decide (n.kind = 3) then Sp.repA.pre n.text [10] [32] ∧ R (Sp.repA n.text [10] [32]) else R []

def print_Lines_1.L0 (nn : Nat) (R : List (List UInt8) →
  Prop) (depth : Int) (t8 : List Vi.Node) (t9 : Int) (t10 : Int) (out : List (List UInt8)) (K0 : Int × List Vi.Node × Int × Int × List (List UInt8) × Unit → Prop) : Prop :=
  bif decide (t10 < t9) then
    Ix t10 t8.length ∧
      Sp.repS.pre [32] depth ∧
        Sp.shownN.pre
            (Vi.Node.mk (Vi.Node.kind (nth t8 t10 (Vi.Node.mk 0 0 [] [] [] []))) (Node.space (nth t8 t10 (Vi.Node.mk 0 0 [] [] [] []))) (Node.name (nth t8 t10 (Vi.Node.mk 0 0 [] [] [] [])))
              (Node.attrs (nth t8 t10 (Vi.Node.mk 0 0 [] [] [] []))) (Node.text (nth t8 t10 (Vi.Node.mk 0 0 [] [] [] []))) (Node.kids (nth t8 t10 (Vi.Node.mk 0 0 [] [] [] [])))) ∧
          (↑(List.length (Sp.repS [32] depth)) : Int) +
                (↑(List.length
                      (Sp.shownN
                        (Vi.Node.mk (Vi.Node.kind (nth t8 t10 (Vi.Node.mk 0 0 [] [] [] []))) (Node.space (nth t8 t10 (Vi.Node.mk 0 0 [] [] [] [])))
                          (Node.name (nth t8 t10 (Vi.Node.mk 0 0 [] [] [] []))) (Node.attrs (nth t8 t10 (Vi.Node.mk 0 0 [] [] [] []))) (Node.text (nth t8 t10 (Vi.Node.mk 0 0 [] [] [] [])))
                          (Node.kids (nth t8 t10 (Vi.Node.mk 0 0 [] [] [] [])))))) :
                  Int) ≤
              9223372036854775807 ∧
            Gr out.length 1 16 ∧
              Rg IntKind.i64 (depth + 1) ∧
                (Sp.linesD.pre (Node.kids (nth t8 t10 (Vi.Node.mk 0 0 [] [] [] []))) (depth + 1)
                      (out ++
                        [Sp.repS [32] depth ++
                            Sp.shownN
                              (Vi.Node.mk (Vi.Node.kind (nth t8 t10 (Vi.Node.mk 0 0 [] [] [] []))) (Node.space (nth t8 t10 (Vi.Node.mk 0 0 [] [] [] [])))
                                (Node.name (nth t8 t10 (Vi.Node.mk 0 0 [] [] [] []))) (Node.attrs (nth t8 t10 (Vi.Node.mk 0 0 [] [] [] [])))
                                (Node.text (nth t8 t10 (Vi.Node.mk 0 0 [] [] [] []))) (Node.kids (nth t8 t10 (Vi.Node.mk 0 0 [] [] [] []))))]) ∧
                    Sp.mLn (Node.kids (nth t8 t10 (Vi.Node.mk 0 0 [] [] [] []))) (depth + 1)
                        (out ++
                          [Sp.repS [32] depth ++
                              Sp.shownN
                                (Vi.Node.mk (Vi.Node.kind (nth t8 t10 (Vi.Node.mk 0 0 [] [] [] []))) (Node.space (nth t8 t10 (Vi.Node.mk 0 0 [] [] [] [])))
                                  (Node.name (nth t8 t10 (Vi.Node.mk 0 0 [] [] [] []))) (Node.attrs (nth t8 t10 (Vi.Node.mk 0 0 [] [] [] [])))
                                  (Node.text (nth t8 t10 (Vi.Node.mk 0 0 [] [] [] []))) (Node.kids (nth t8 t10 (Vi.Node.mk 0 0 [] [] [] []))))]) <
                      nn) ∧
                  Rg IntKind.i64 (t10 + 1) ∧
                    K0
                      (depth, t8, t9, t10 + 1,
                        Sp.linesD (Node.kids (nth t8 t10 (Vi.Node.mk 0 0 [] [] [] []))) (depth + 1)
                          (out ++
                            [Sp.repS [32] depth ++
                                Sp.shownN
                                  (Vi.Node.mk (Vi.Node.kind (nth t8 t10 (Vi.Node.mk 0 0 [] [] [] []))) (Node.space (nth t8 t10 (Vi.Node.mk 0 0 [] [] [] [])))
                                    (Node.name (nth t8 t10 (Vi.Node.mk 0 0 [] [] [] []))) (Node.attrs (nth t8 t10 (Vi.Node.mk 0 0 [] [] [] [])))
                                    (Node.text (nth t8 t10 (Vi.Node.mk 0 0 [] [] [] []))) (Node.kids (nth t8 t10 (Vi.Node.mk 0 0 [] [] [] []))))]),
                        ())
  else R out
def print_Lines_1.vc (R : List (List UInt8) → Prop) (nn : Nat) (l : List Vi.Node) (depth : Int) (out : List Str) : Prop :=
  Lp (fun v K => print_Lines_1.L0 nn R v.fst v.snd.fst v.snd.snd.fst v.snd.snd.snd.fst v.snd.snd.snd.snd.fst K) (depth, l, (↑l.length : Int), 0, out, ())

def print_Lines.vc (R : List (List UInt8) → Prop) (l : List Vi.Node) : Prop :=
  Sp.linesD.pre l 0 [] ∧ R (Sp.linesD l 0 [])

def rectoref08_Count.L0 (nn : Nat) (R : Int → Prop) (k : Int) (t6 : List Vi.Node) (t7 : Int) (t8 : Int) (K0 : Int × List Vi.Node × Int × Int × Unit → Prop) : Prop :=
  bif decide (t8 < t7) then
    Ix t8 t6.length ∧
      Rg IntKind.i64 (k + 1) ∧
        (Sp.prOk (Node.kids (nth t6 t8 (Vi.Node.mk 0 0 [] [] [] []))) ∧ Sp.mCt (Node.kids (nth t6 t8 (Vi.Node.mk 0 0 [] [] [] []))) < nn) ∧
          Rg IntKind.i64 (k + 1 + Sp.countP (Node.kids (nth t6 t8 (Vi.Node.mk 0 0 [] [] [] [])))) ∧
            Rg IntKind.i64 (t8 + 1) ∧ K0 (k + 1 + Sp.countP (Node.kids (nth t6 t8 (Vi.Node.mk 0 0 [] [] [] []))), t6, t7, t8 + 1, ())
  else R k
def rectoref08_Count.vc (R : Int → Prop) (nn : Nat) (l : List Vi.Node) : Prop :=
  Lp (fun v K => rectoref08_Count.L0 nn R v.fst v.snd.fst v.snd.snd.fst v.snd.snd.snd.fst K) (0, l, (↑l.length : Int), 0, ())

def rectolaw13_large.vc (R : Bool → Prop) (l : List Vi.Node) : Prop :=
  Sp.lg.pre l 1 800 ∧ R (Sp.lg l 1 800).fst

def rectolaw13_para.vc (R : Bool → Prop) : Prop :=
  Sp.prOk [Vi.Node.mk 1 0 [112] [] [] [Vi.Node.mk 2 0 [] [] [97, 60] []]] ∧
    Sp.prOk [Vi.Node.mk 1 0 [112] [] [] [Vi.Node.mk 2 0 [] [] [97, 60] []]] ∧
      Ix 0 1 ∧
        Sp.openP.pre (nth [Vi.Node.mk 1 0 [112] [] [] [Vi.Node.mk 2 0 [] [] [97, 60] []]] 0 (Vi.Node.mk 0 0 [] [] [] [])) ∧
          (Sp.prOk [Vi.Node.mk 1 0 [112] [] [] [Vi.Node.mk 2 0 [] [] [97, 60] []]] ∧ Nat.le 4 900000) ∧
            Sp.eqL.pre (Sp.linesP [Vi.Node.mk 1 0 [112] [] [] [Vi.Node.mk 2 0 [] [] [97, 60] []]]) [[60, 112, 62], [32, 97, 60]] ∧ R true
