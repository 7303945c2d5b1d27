/- Conditions of functions. Written by a program of this session. -/
import Derived.Test.YtmciagbogdlcoaaDoorSpH
set_option linter.unnecessarySimpa false
set_option linter.unusedVariables false
set_option linter.unusedSectionVars false
set_option linter.unusedSimpArgs false
set_option autoImplicit false
set_option linter.unusedVariables false
open Go Vi

def utf_is.vc (R : Bool → Prop) (c : Int) : Prop :=
  bif decide (0 ≤ c) then bif decide (c < 1114112) then bif decide (c < 55296) then R true else R (decide (57343 < c)) else R false else R false

def utf_size.L0 (R : Int → Prop) (c : Int) (n : Int) (K0 : Int × Int × Unit → Prop) : Prop :=
  Ix n 5 ∧ bif decide (c < (nth utfRows n (0, 0)).snd) then Rg IntKind.i64 (n - 1) ∧ K0 (c, n - 1, ()) else R n
def utf_size.vc (R : Int → Prop) (c : Int) : Prop :=
  Lp (fun v K => utf_size.L0 R v.fst v.snd.fst K) (c, 4, ())

def utf_Bytes.L0 (R : List UInt8 → Prop) (c : Int) (n : Int) (i : Int) (out : List Int) (K0 : Int × Int × Int × List Int × Unit → Prop) : Prop :=
  bif decide (0 < i) then
    Ix i out.length ∧
      Shf 6 IntKind.i64 ∧ Rg IntKind.i64 (i - 1) ∧ K0 (c / 2 ^ 6, n, i - 1, out.set i.toNat (IntKind.u8.wrap (bitsO BinOp.or IntKind.i64 128 (bitsO BinOp.and IntKind.i64 c 63))), ())
  else Ix n 5 ∧ Ix 0 out.length ∧ R (bytesOf (out.set 0 (IntKind.u8.wrap (bitsO BinOp.or IntKind.i64 (nth utfRows n (0, 0)).fst c))))
def utf_Bytes.L1 (R : List UInt8 → Prop) (x10 : Int) (x11 : Int) (x12 : Int) (x13 : List Int) (K1 : Int × Int × Int × List Int × Unit → Prop) : Prop :=
  bif decide (0 < x12) then
    Ix x12 x13.length ∧
      Shf 6 IntKind.i64 ∧
        Rg IntKind.i64 (x12 - 1) ∧ K1 (x10 / 2 ^ 6, x11, x12 - 1, x13.set x12.toNat (IntKind.u8.wrap (bitsO BinOp.or IntKind.i64 128 (bitsO BinOp.and IntKind.i64 x10 63))), ())
  else Ix x11 5 ∧ Ix 0 x13.length ∧ R (bytesOf (x13.set 0 (IntKind.u8.wrap (bitsO BinOp.or IntKind.i64 (nth utfRows x11 (0, 0)).fst x10))))
def utf_Bytes.vc (R : List UInt8 → Prop) (c : Int) : Prop :=
  bif !Sp.isC c then
    Sp.sizeC.pre 65533 ∧
      Mk (Sp.sizeC 65533) (Sp.sizeC 65533) 1 ∧
        Rg IntKind.i64 (Sp.sizeC 65533 - 1) ∧
          Lp (fun v K => utf_Bytes.L0 R v.fst v.snd.fst v.snd.snd.fst v.snd.snd.snd.fst K) (65533, Sp.sizeC 65533, Sp.sizeC 65533 - 1, rep (Sp.sizeC 65533) 0, ())
  else
    Sp.sizeC.pre c ∧
      Mk (Sp.sizeC c) (Sp.sizeC c) 1 ∧
        Rg IntKind.i64 (Sp.sizeC c - 1) ∧ Lp (fun v K => utf_Bytes.L1 R v.fst v.snd.fst v.snd.snd.fst v.snd.snd.snd.fst K) (c, Sp.sizeC c, Sp.sizeC c - 1, rep (Sp.sizeC c) 0, ())

def strings_Builder_WriteString.vc (R : Int → List Int → Prop) (s : Str) (x : List Int) : Prop :=
  Gr x.length (List.map (fun b => (↑b.toNat : Int)) s).length 1 ∧ R (↑(List.length s) : Int) (x ++ List.map (fun b => (↑b.toNat : Int)) s)

def refs_Escape.vc (R : List UInt8 → Prop) (s : Str) (value : Bool) : Prop :=
  Sp.repA.pre s [38] [38, 97, 109, 112, 59] ∧
    Sp.repA.pre (Sp.repA s [38] [38, 97, 109, 112, 59]) (Sp.bytesC 160) [38, 110, 98, 115, 112, 59] ∧
      Sp.repA.pre (Sp.repA (Sp.repA s [38] [38, 97, 109, 112, 59]) (Sp.bytesC 160) [38, 110, 98, 115, 112, 59]) [60] [38, 108, 116, 59] ∧
        Sp.repA.pre (Sp.repA (Sp.repA (Sp.repA s [38] [38, 97, 109, 112, 59]) (Sp.bytesC 160) [38, 110, 98, 115, 112, 59]) [60] [38, 108, 116, 59]) [62] [38, 103, 116, 59] ∧
          bif value then
            Sp.repA.pre (Sp.repA (Sp.repA (Sp.repA (Sp.repA s [38] [38, 97, 109, 112, 59]) (Sp.bytesC 160) [38, 110, 98, 115, 112, 59]) [60] [38, 108, 116, 59]) [62] [38, 103, 116, 59]) [34]
                [38, 113, 117, 111, 116, 59] ∧
              R
                (Sp.repA (Sp.repA (Sp.repA (Sp.repA (Sp.repA s [38] [38, 97, 109, 112, 59]) (Sp.bytesC 160) [38, 110, 98, 115, 112, 59]) [60] [38, 108, 116, 59]) [62] [38, 103, 116, 59])
                  [34] [38, 113, 117, 111, 116, 59])
          else R (Sp.repA (Sp.repA (Sp.repA (Sp.repA s [38] [38, 97, 109, 112, 59]) (Sp.bytesC 160) [38, 110, 98, 115, 112, 59]) [60] [38, 108, 116, 59]) [62] [38, 103, 116, 59])

def rectoref04_at.vc (R : Int → Prop) (s : Str) (i : Int) : Prop :=
  bif decide (i < 0) then R 0 else bif decide ((↑(List.length s) : Int) ≤ i) then R 0 else Ix i (List.length s) ∧ R (↑(nth s i 0).toNat : Int)

def rectoref04_Escape.L0 (R : List UInt8 → Prop) (s : List UInt8) (inValue : Bool) (out : List UInt8) (i : Int) (K0 : List UInt8 × Bool × List UInt8 × Int × Unit → Prop) : Prop :=
  bif decide (i < (↑s.length : Int)) then
    Ix i s.length ∧
      bif decide ((↑(nth s i 0).toNat : Int) = 38) then
        (↑out.length : Int) + (↑5 : Int) ≤ 9223372036854775807 ∧ Rg IntKind.i64 (i + 1) ∧ K0 (s, inValue, out ++ [38, 97, 109, 112, 59], i + 1, ())
      else
        bif decide ((↑(nth s i 0).toNat : Int) = 60) then
          (↑out.length : Int) + (↑4 : Int) ≤ 9223372036854775807 ∧ Rg IntKind.i64 (i + 1) ∧ K0 (s, inValue, out ++ [38, 108, 116, 59], i + 1, ())
        else
          bif decide ((↑(nth s i 0).toNat : Int) = 62) then
            (↑out.length : Int) + (↑4 : Int) ≤ 9223372036854775807 ∧ Rg IntKind.i64 (i + 1) ∧ K0 (s, inValue, out ++ [38, 103, 116, 59], i + 1, ())
          else
            bif decide ((↑(nth s i 0).toNat : Int) = 34) then
              bif inValue then (↑out.length : Int) + (↑6 : Int) ≤ 9223372036854775807 ∧ Rg IntKind.i64 (i + 1) ∧ K0 (s, inValue, out ++ [38, 113, 117, 111, 116, 59], i + 1, ())
              else (↑out.length : Int) + (↑1 : Int) ≤ 9223372036854775807 ∧ Rg IntKind.i64 (i + 1) ∧ K0 (s, inValue, out ++ [34], i + 1, ())
            else
              bif decide ((↑(nth s i 0).toNat : Int) = 194) then
                Rg IntKind.i64 (i + 1) ∧
                  bif decide (Sp.atRef s (i + 1) = 160) then
                    (↑out.length : Int) + (↑6 : Int) ≤ 9223372036854775807 ∧
                      Rg IntKind.i64 (i + 1) ∧ Rg IntKind.i64 (i + 1 + 1) ∧ K0 (s, inValue, out ++ [38, 110, 98, 115, 112, 59], i + 1 + 1, ())
                  else
                    Rg IntKind.i64 (i + 1) ∧
                      Sb i (i + 1) s.length ∧
                        (↑out.length : Int) + (↑(sub s i (i + 1)).length : Int) ≤ 9223372036854775807 ∧ Rg IntKind.i64 (i + 1) ∧ K0 (s, inValue, out ++ sub s i (i + 1), i + 1, ())
              else
                Rg IntKind.i64 (i + 1) ∧
                  Sb i (i + 1) s.length ∧
                    (↑out.length : Int) + (↑(sub s i (i + 1)).length : Int) ≤ 9223372036854775807 ∧ Rg IntKind.i64 (i + 1) ∧ K0 (s, inValue, out ++ sub s i (i + 1), i + 1, ())
  else R out
def rectoref04_Escape.vc (R : List UInt8 → Prop) (s : Str) (inValue : Bool) : Prop :=
  Lp (fun v K => rectoref04_Escape.L0 R v.fst v.snd.fst v.snd.snd.fst v.snd.snd.snd.fst K) (s, inValue, [], 0, ())

def tags_Void.vc (R : Bool → Prop) (name : Str) : Prop :=
  bif decide (Sp.groupN name = 11) then R true else R (decide (Sp.groupN name = 12))

def rectoref07_Void.vc (R : Bool → Prop) (name : Str) : Prop :=
  Sp.inS.pre name [[98, 114], [104, 114], [105, 109, 103], [105, 110, 112, 117, 116], [119, 98, 114]] ∧
    R (Sp.inS name [[98, 114], [104, 114], [105, 109, 103], [105, 110, 112, 117, 116], [119, 98, 114]])

def print_void.vc (R : Bool → Prop) (n : Vi.Node) : Prop :=
  bif decide (n.space = 0) then R (Sp.voidN n.name) else R false

def print_raw.vc (R : Bool → Prop) (n : Vi.Node) : Prop :=
  bif decide (n.space = 0) then bif decide (Sp.groupN n.name = 15) then R true else R (decide (Sp.groupN n.name = 16)) else R false

def rectoref13_Raw.vc (R : Bool → Prop) (n : Vi.Node) : Prop :=
  bif decide (n.kind = 1) then
    bif decide (n.space = 0) then
      Sp.inS.pre n.name [[115, 99, 114, 105, 112, 116], [115, 116, 121, 108, 101], [120, 109, 112]] ∧
        R (Sp.inS n.name [[115, 99, 114, 105, 112, 116], [115, 116, 121, 108, 101], [120, 109, 112]])
    else R false
  else R false

def print_Open.L0 (R : List UInt8 →
  Prop) (t14 : List (List UInt8 × List UInt8)) (t15 : Int) (t16 : Int) (out_buf : List Int) (K0 : List (List UInt8 × List UInt8) × Int × Int × List Int × Unit → Prop) : Prop :=
  bif decide (t16 < t15) then
    Ix t16 t14.length ∧
      (↑1 : Int) + (↑(List.length (nth t14 t16 ([], [])).fst) : Int) ≤ 9223372036854775807 ∧
        (↑(32 :: (nth t14 t16 ([], [])).fst).length : Int) + (↑2 : Int) ≤ 9223372036854775807 ∧
          Sp.escS.pre (nth t14 t16 ([], [])).snd true ∧
            (↑(List.length (32 :: (nth t14 t16 ([], [])).fst ++ [61, 34])) : Int) + (↑(List.length (Sp.escS (nth t14 t16 ([], [])).snd true)) : Int) ≤ 9223372036854775807 ∧
              (↑(List.length (32 :: (nth t14 t16 ([], [])).fst ++ [61, 34] ++ Sp.escS (nth t14 t16 ([], [])).snd true)) : Int) + (↑1 : Int) ≤ 9223372036854775807 ∧
                Sp.wr.pre out_buf (32 :: (nth t14 t16 ([], [])).fst ++ [61, 34] ++ Sp.escS (nth t14 t16 ([], [])).snd true ++ [34]) ∧
                  Rg IntKind.i64 (t16 + 1) ∧ K0 (t14, t15, t16 + 1, Sp.wr out_buf (32 :: (nth t14 t16 ([], [])).fst ++ [61, 34] ++ Sp.escS (nth t14 t16 ([], [])).snd true ++ [34]), ())
  else Sp.wb.pre out_buf 62 ∧ R (bytesOf (Sp.wb out_buf 62))
def print_Open.vc (R : List UInt8 → Prop) (n : Vi.Node) : Prop :=
  bif !decide (n.kind = 1) then R []
  else
    (↑1 : Int) + (↑(List.length n.name) : Int) ≤ 9223372036854775807 ∧
      Sp.wr.pre [] (60 :: n.name) ∧ Lp (fun v K => print_Open.L0 R v.fst v.snd.fst v.snd.snd.fst v.snd.snd.snd.fst K) (n.attrs, (↑n.attrs.length : Int), 0, Sp.wr [] (60 :: n.name), ())

def rectoref13_Open.L0 (R : List UInt8 →
  Prop) (out : List UInt8) (t13 : List (List UInt8 × List UInt8)) (t14 : Int) (t15 : Int) (K0 : List UInt8 × List (List UInt8 × List UInt8) × Int × Int × Unit → Prop) : Prop :=
  bif decide (t15 < t14) then
    Ix t15 t13.length ∧
      (↑out.length : Int) + (↑1 : Int) ≤ 9223372036854775807 ∧
        (↑(List.length (out ++ [32])) : Int) + (↑(List.length (nth t13 t15 ([], [])).fst) : Int) ≤ 9223372036854775807 ∧
          (↑(List.length (out ++ [32] ++ (nth t13 t15 ([], [])).fst)) : Int) + (↑2 : Int) ≤ 9223372036854775807 ∧
            Sp.escS.pre (nth t13 t15 ([], [])).snd true ∧
              (↑(List.length (out ++ [32] ++ (nth t13 t15 ([], [])).fst ++ [61, 34])) : Int) + (↑(List.length (Sp.escS (nth t13 t15 ([], [])).snd true)) : Int) ≤ 9223372036854775807 ∧
                (↑(List.length (out ++ [32] ++ (nth t13 t15 ([], [])).fst ++ [61, 34] ++ Sp.escS (nth t13 t15 ([], [])).snd true)) : Int) + (↑1 : Int) ≤ 9223372036854775807 ∧
                  Rg IntKind.i64 (t15 + 1) ∧ K0 (out ++ [32] ++ (nth t13 t15 ([], [])).fst ++ [61, 34] ++ Sp.escS (nth t13 t15 ([], [])).snd true ++ [34], t13, t14, t15 + 1, ())
  else (↑out.length : Int) + (↑1 : Int) ≤ 9223372036854775807 ∧ R (out ++ [62])
def rectoref13_Open.vc (R : List UInt8 → Prop) (n : Vi.Node) : Prop :=
  bif !decide (n.kind = 1) then R []
  else
    (↑1 : Int) + (↑(List.length n.name) : Int) ≤ 9223372036854775807 ∧
      Lp (fun v K => rectoref13_Open.L0 R v.fst v.snd.fst v.snd.snd.fst v.snd.snd.snd.fst K) (60 :: n.name, n.attrs, (↑n.attrs.length : Int), 0, ())

def writer_WriteString.vc (R : Int → List Int → Prop) (s : Str) (x : List Int) : Prop :=
  Gr x.length (List.map (fun b => (↑b.toNat : Int)) s).length 1 ∧ R (↑(List.length s) : Int) (x ++ List.map (fun b => (↑b.toNat : Int)) s)

def writer_String.vc (R : List UInt8 → Prop) (x : List Int) : Prop :=
  (↑x.length : Int) = (↑x.length : Int) ∧ R (bytesOf x)

def print_writer_all.L0 (nn : Nat) (R : List Int →
  Prop) (plain : Bool) (t8 : List Vi.Node) (t9 : Int) (t10 : Int) (x : List Int) (K0 : Bool × List Vi.Node × Int × Int × List Int × Unit → Prop) : Prop :=
  bif decide (t10 < t9) then
    Ix t10 t8.length ∧
      (Sp.wNode.pre
            (Vi.Node.mk (Vi.Node.kind (nth t8 t10 (Vi.Node.mk 0 0 [] [] [] []))) (Node.space (nth t8 t10 (Vi.Node.mk 0 0 [] [] [] []))) (Node.name (nth t8 t10 (Vi.Node.mk 0 0 [] [] [] [])))
              (Node.attrs (nth t8 t10 (Vi.Node.mk 0 0 [] [] [] []))) (Node.text (nth t8 t10 (Vi.Node.mk 0 0 [] [] [] []))) (Node.kids (nth t8 t10 (Vi.Node.mk 0 0 [] [] [] []))))
            plain x ∧
          Sp.mNode
              (Vi.Node.mk (Vi.Node.kind (nth t8 t10 (Vi.Node.mk 0 0 [] [] [] []))) (Node.space (nth t8 t10 (Vi.Node.mk 0 0 [] [] [] [])))
                (Node.name (nth t8 t10 (Vi.Node.mk 0 0 [] [] [] []))) (Node.attrs (nth t8 t10 (Vi.Node.mk 0 0 [] [] [] []))) (Node.text (nth t8 t10 (Vi.Node.mk 0 0 [] [] [] [])))
                (Node.kids (nth t8 t10 (Vi.Node.mk 0 0 [] [] [] []))))
              plain x <
            nn) ∧
        Rg IntKind.i64 (t10 + 1) ∧
          K0
            (plain, t8, t9, t10 + 1,
              Sp.wr x
                (Sp.inN plain
                  (Vi.Node.mk (Vi.Node.kind (nth t8 t10 (Vi.Node.mk 0 0 [] [] [] []))) (Node.space (nth t8 t10 (Vi.Node.mk 0 0 [] [] [] [])))
                    (Node.name (nth t8 t10 (Vi.Node.mk 0 0 [] [] [] []))) (Node.attrs (nth t8 t10 (Vi.Node.mk 0 0 [] [] [] []))) (Node.text (nth t8 t10 (Vi.Node.mk 0 0 [] [] [] [])))
                    (Node.kids (nth t8 t10 (Vi.Node.mk 0 0 [] [] [] []))))),
              ())
  else R x
def print_writer_all.vc (R : List Int → Prop) (nn : Nat) (l : List Vi.Node) (raw : Bool) (x : List Int) : Prop :=
  Lp (fun v K => print_writer_all.L0 nn R v.fst v.snd.fst v.snd.snd.fst v.snd.snd.snd.fst v.snd.snd.snd.snd.fst K) (raw, l, (↑l.length : Int), 0, x, ())

def print_writer_node.vc (R : List Int → Prop) (nn : Nat) (n : Vi.Node) (raw : Bool) (x : List Int) : Prop :=
  bif decide (n.kind = 1) then
    Sp.openP.pre (Vi.Node.mk n.kind n.space n.name n.attrs n.text n.kids) ∧
      Sp.wr.pre x (Sp.openP (Vi.Node.mk n.kind n.space n.name n.attrs n.text n.kids)) ∧
        bif Sp.voidNd (Vi.Node.mk n.kind n.space n.name n.attrs n.text n.kids) then R (Sp.wr x (Sp.openP (Vi.Node.mk n.kind n.space n.name n.attrs n.text n.kids)))
        else
          (Sp.wAll.pre n.kids (Sp.rawNd (Vi.Node.mk n.kind n.space n.name n.attrs n.text n.kids)) (Sp.wr x (Sp.openP (Vi.Node.mk n.kind n.space n.name n.attrs n.text n.kids))) ∧
              Sp.mAll n.kids (Sp.rawNd (Vi.Node.mk n.kind n.space n.name n.attrs n.text n.kids)) (Sp.wr x (Sp.openP (Vi.Node.mk n.kind n.space n.name n.attrs n.text n.kids))) < nn) ∧
            (↑2 : Int) + (↑(List.length n.name) : Int) ≤ 9223372036854775807 ∧
              (↑(60 :: 47 :: n.name).length : Int) + (↑1 : Int) ≤ 9223372036854775807 ∧
                Sp.wr.pre
                    (Sp.wr (Sp.wr x (Sp.openP (Vi.Node.mk n.kind n.space n.name n.attrs n.text n.kids))) (Sp.inL (Sp.rawNd (Vi.Node.mk n.kind n.space n.name n.attrs n.text n.kids)) n.kids))
                    (60 :: 47 :: n.name ++ [62]) ∧
                  R
                    (Sp.wr
                      (Sp.wr (Sp.wr x (Sp.openP (Vi.Node.mk n.kind n.space n.name n.attrs n.text n.kids)))
                        (Sp.inL (Sp.rawNd (Vi.Node.mk n.kind n.space n.name n.attrs n.text n.kids)) n.kids))
                      (60 :: 47 :: n.name ++ [62]))
  else
    bif decide (n.kind = 3) then
      (↑4 : Int) + (↑(List.length n.text) : Int) ≤ 9223372036854775807 ∧
        (↑(60 :: 33 :: 45 :: 45 :: n.text).length : Int) + (↑3 : Int) ≤ 9223372036854775807 ∧
          Sp.wr.pre x (60 :: 33 :: 45 :: 45 :: n.text ++ [45, 45, 62]) ∧ R (Sp.wr x (60 :: 33 :: 45 :: 45 :: n.text ++ [45, 45, 62]))
    else
      bif decide (n.kind = 2) then
        bif raw then Sp.wr.pre x n.text ∧ R (Sp.wr x n.text) else Sp.escS.pre n.text false ∧ Sp.wr.pre x (Sp.escS n.text false) ∧ R (Sp.wr x (Sp.escS n.text false))
      else R x

def print_Text.vc (R : List UInt8 → Prop) (l : List Vi.Node) : Prop :=
  Sp.wAll.pre l false [] ∧ R (bytesOf (Sp.wr [] (Sp.inL false l)))

def print_Size.vc (R : Int → Prop) (l : List Vi.Node) : Prop :=
  Sp.prOk l ∧ R (↑(List.length (Sp.textN l)) : Int)

def rectoref13_In.L0 (nn : Nat) (R : List UInt8 →
  Prop) (raw : Bool) (out : List UInt8) (t8 : List Vi.Node) (t9 : Int) (t10 : Int) (K0 : Bool × List UInt8 × List Vi.Node × Int × Int × Unit → Prop) : Prop :=
  bif decide (t10 < t9) then
    Ix t10 t8.length ∧
      bif decide (Vi.Node.kind (nth t8 t10 (Vi.Node.mk 0 0 [] [] [] [])) = 1) then
        bif decide (Node.space (nth t8 t10 (Vi.Node.mk 0 0 [] [] [] [])) = 0) then
          bif Sp.voidN (Node.name (nth t8 t10 (Vi.Node.mk 0 0 [] [] [] []))) then
            Sp.openP.pre
                (Vi.Node.mk (Vi.Node.kind (nth t8 t10 (Vi.Node.mk 0 0 [] [] [] []))) (Node.space (nth t8 t10 (Vi.Node.mk 0 0 [] [] [] [])))
                  (Node.name (nth t8 t10 (Vi.Node.mk 0 0 [] [] [] []))) (Node.attrs (nth t8 t10 (Vi.Node.mk 0 0 [] [] [] []))) (Node.text (nth t8 t10 (Vi.Node.mk 0 0 [] [] [] [])))
                  (Node.kids (nth t8 t10 (Vi.Node.mk 0 0 [] [] [] [])))) ∧
              (↑out.length : Int) +
                    (↑(List.length
                          (Sp.openP
                            (Vi.Node.mk (Vi.Node.kind (nth t8 t10 (Vi.Node.mk 0 0 [] [] [] []))) (Node.space (nth t8 t10 (Vi.Node.mk 0 0 [] [] [] [])))
                              (Node.name (nth t8 t10 (Vi.Node.mk 0 0 [] [] [] []))) (Node.attrs (nth t8 t10 (Vi.Node.mk 0 0 [] [] [] [])))
                              (Node.text (nth t8 t10 (Vi.Node.mk 0 0 [] [] [] []))) (Node.kids (nth t8 t10 (Vi.Node.mk 0 0 [] [] [] [])))))) :
                      Int) ≤
                  9223372036854775807 ∧
                Rg IntKind.i64 (t10 + 1) ∧
                  K0
                    (raw,
                      out ++
                        Sp.openP
                          (Vi.Node.mk (Vi.Node.kind (nth t8 t10 (Vi.Node.mk 0 0 [] [] [] []))) (Node.space (nth t8 t10 (Vi.Node.mk 0 0 [] [] [] [])))
                            (Node.name (nth t8 t10 (Vi.Node.mk 0 0 [] [] [] []))) (Node.attrs (nth t8 t10 (Vi.Node.mk 0 0 [] [] [] []))) (Node.text (nth t8 t10 (Vi.Node.mk 0 0 [] [] [] [])))
                            (Node.kids (nth t8 t10 (Vi.Node.mk 0 0 [] [] [] [])))),
                      t8, t9, t10 + 1, ())
          else
            bif decide (Vi.Node.kind (nth t8 t10 (Vi.Node.mk 0 0 [] [] [] [])) = 1) then
              Sp.openP.pre
                  (Vi.Node.mk (Vi.Node.kind (nth t8 t10 (Vi.Node.mk 0 0 [] [] [] []))) (Node.space (nth t8 t10 (Vi.Node.mk 0 0 [] [] [] [])))
                    (Node.name (nth t8 t10 (Vi.Node.mk 0 0 [] [] [] []))) (Node.attrs (nth t8 t10 (Vi.Node.mk 0 0 [] [] [] []))) (Node.text (nth t8 t10 (Vi.Node.mk 0 0 [] [] [] [])))
                    (Node.kids (nth t8 t10 (Vi.Node.mk 0 0 [] [] [] [])))) ∧
                (↑out.length : Int) +
                      (↑(List.length
                            (Sp.openP
                              (Vi.Node.mk (Vi.Node.kind (nth t8 t10 (Vi.Node.mk 0 0 [] [] [] []))) (Node.space (nth t8 t10 (Vi.Node.mk 0 0 [] [] [] [])))
                                (Node.name (nth t8 t10 (Vi.Node.mk 0 0 [] [] [] []))) (Node.attrs (nth t8 t10 (Vi.Node.mk 0 0 [] [] [] [])))
                                (Node.text (nth t8 t10 (Vi.Node.mk 0 0 [] [] [] []))) (Node.kids (nth t8 t10 (Vi.Node.mk 0 0 [] [] [] [])))))) :
                        Int) ≤
                    9223372036854775807 ∧
                  (Sp.inP.pre (Node.kids (nth t8 t10 (Vi.Node.mk 0 0 [] [] [] [])))
                        (Sp.rawR
                          (Vi.Node.mk (Vi.Node.kind (nth t8 t10 (Vi.Node.mk 0 0 [] [] [] []))) (Node.space (nth t8 t10 (Vi.Node.mk 0 0 [] [] [] [])))
                            (Node.name (nth t8 t10 (Vi.Node.mk 0 0 [] [] [] []))) (Node.attrs (nth t8 t10 (Vi.Node.mk 0 0 [] [] [] []))) (Node.text (nth t8 t10 (Vi.Node.mk 0 0 [] [] [] [])))
                            (Node.kids (nth t8 t10 (Vi.Node.mk 0 0 [] [] [] []))))) ∧
                      Sp.mIn (Node.kids (nth t8 t10 (Vi.Node.mk 0 0 [] [] [] [])))
                          (Sp.rawR
                            (Vi.Node.mk (Vi.Node.kind (nth t8 t10 (Vi.Node.mk 0 0 [] [] [] []))) (Node.space (nth t8 t10 (Vi.Node.mk 0 0 [] [] [] [])))
                              (Node.name (nth t8 t10 (Vi.Node.mk 0 0 [] [] [] []))) (Node.attrs (nth t8 t10 (Vi.Node.mk 0 0 [] [] [] [])))
                              (Node.text (nth t8 t10 (Vi.Node.mk 0 0 [] [] [] []))) (Node.kids (nth t8 t10 (Vi.Node.mk 0 0 [] [] [] []))))) <
                        nn) ∧
                    (↑(List.length
                                (out ++
                                  Sp.openP
                                    (Vi.Node.mk (Vi.Node.kind (nth t8 t10 (Vi.Node.mk 0 0 [] [] [] []))) (Node.space (nth t8 t10 (Vi.Node.mk 0 0 [] [] [] [])))
                                      (Node.name (nth t8 t10 (Vi.Node.mk 0 0 [] [] [] []))) (Node.attrs (nth t8 t10 (Vi.Node.mk 0 0 [] [] [] [])))
                                      (Node.text (nth t8 t10 (Vi.Node.mk 0 0 [] [] [] []))) (Node.kids (nth t8 t10 (Vi.Node.mk 0 0 [] [] [] [])))))) :
                            Int) +
                          (↑(List.length
                                (Sp.inP (Node.kids (nth t8 t10 (Vi.Node.mk 0 0 [] [] [] [])))
                                  (Sp.rawR
                                    (Vi.Node.mk (Vi.Node.kind (nth t8 t10 (Vi.Node.mk 0 0 [] [] [] []))) (Node.space (nth t8 t10 (Vi.Node.mk 0 0 [] [] [] [])))
                                      (Node.name (nth t8 t10 (Vi.Node.mk 0 0 [] [] [] []))) (Node.attrs (nth t8 t10 (Vi.Node.mk 0 0 [] [] [] [])))
                                      (Node.text (nth t8 t10 (Vi.Node.mk 0 0 [] [] [] []))) (Node.kids (nth t8 t10 (Vi.Node.mk 0 0 [] [] [] []))))))) :
                            Int) ≤
                        9223372036854775807 ∧
                      (↑(List.length
                                  (out ++
                                      Sp.openP
                                        (Vi.Node.mk (Vi.Node.kind (nth t8 t10 (Vi.Node.mk 0 0 [] [] [] []))) (Node.space (nth t8 t10 (Vi.Node.mk 0 0 [] [] [] [])))
                                          (Node.name (nth t8 t10 (Vi.Node.mk 0 0 [] [] [] []))) (Node.attrs (nth t8 t10 (Vi.Node.mk 0 0 [] [] [] [])))
                                          (Node.text (nth t8 t10 (Vi.Node.mk 0 0 [] [] [] []))) (Node.kids (nth t8 t10 (Vi.Node.mk 0 0 [] [] [] [])))) ++
                                    Sp.inP (Node.kids (nth t8 t10 (Vi.Node.mk 0 0 [] [] [] [])))
                                      (Sp.rawR
                                        (Vi.Node.mk (Vi.Node.kind (nth t8 t10 (Vi.Node.mk 0 0 [] [] [] []))) (Node.space (nth t8 t10 (Vi.Node.mk 0 0 [] [] [] [])))
                                          (Node.name (nth t8 t10 (Vi.Node.mk 0 0 [] [] [] []))) (Node.attrs (nth t8 t10 (Vi.Node.mk 0 0 [] [] [] [])))
                                          (Node.text (nth t8 t10 (Vi.Node.mk 0 0 [] [] [] []))) (Node.kids (nth t8 t10 (Vi.Node.mk 0 0 [] [] [] []))))))) :
                              Int) +
                            (↑2 : Int) ≤
                          9223372036854775807 ∧
                        (↑(List.length
                                    (out ++
                                          Sp.openP
                                            (Vi.Node.mk (Vi.Node.kind (nth t8 t10 (Vi.Node.mk 0 0 [] [] [] []))) (Node.space (nth t8 t10 (Vi.Node.mk 0 0 [] [] [] [])))
                                              (Node.name (nth t8 t10 (Vi.Node.mk 0 0 [] [] [] []))) (Node.attrs (nth t8 t10 (Vi.Node.mk 0 0 [] [] [] [])))
                                              (Node.text (nth t8 t10 (Vi.Node.mk 0 0 [] [] [] []))) (Node.kids (nth t8 t10 (Vi.Node.mk 0 0 [] [] [] [])))) ++
                                        Sp.inP (Node.kids (nth t8 t10 (Vi.Node.mk 0 0 [] [] [] [])))
                                          (Sp.rawR
                                            (Vi.Node.mk (Vi.Node.kind (nth t8 t10 (Vi.Node.mk 0 0 [] [] [] []))) (Node.space (nth t8 t10 (Vi.Node.mk 0 0 [] [] [] [])))
                                              (Node.name (nth t8 t10 (Vi.Node.mk 0 0 [] [] [] []))) (Node.attrs (nth t8 t10 (Vi.Node.mk 0 0 [] [] [] [])))
                                              (Node.text (nth t8 t10 (Vi.Node.mk 0 0 [] [] [] []))) (Node.kids (nth t8 t10 (Vi.Node.mk 0 0 [] [] [] []))))) ++
                                      [60, 47])) :
                                Int) +
                              (↑(List.length (Node.name (nth t8 t10 (Vi.Node.mk 0 0 [] [] [] [])))) : Int) ≤
                            9223372036854775807 ∧
                          (↑(List.length
                                      (out ++
                                              Sp.openP
                                                (Vi.Node.mk (Vi.Node.kind (nth t8 t10 (Vi.Node.mk 0 0 [] [] [] []))) (Node.space (nth t8 t10 (Vi.Node.mk 0 0 [] [] [] [])))
                                                  (Node.name (nth t8 t10 (Vi.Node.mk 0 0 [] [] [] []))) (Node.attrs (nth t8 t10 (Vi.Node.mk 0 0 [] [] [] [])))
                                                  (Node.text (nth t8 t10 (Vi.Node.mk 0 0 [] [] [] []))) (Node.kids (nth t8 t10 (Vi.Node.mk 0 0 [] [] [] [])))) ++
                                            Sp.inP (Node.kids (nth t8 t10 (Vi.Node.mk 0 0 [] [] [] [])))
                                              (Sp.rawR
                                                (Vi.Node.mk (Vi.Node.kind (nth t8 t10 (Vi.Node.mk 0 0 [] [] [] []))) (Node.space (nth t8 t10 (Vi.Node.mk 0 0 [] [] [] [])))
                                                  (Node.name (nth t8 t10 (Vi.Node.mk 0 0 [] [] [] []))) (Node.attrs (nth t8 t10 (Vi.Node.mk 0 0 [] [] [] [])))
                                                  (Node.text (nth t8 t10 (Vi.Node.mk 0 0 [] [] [] []))) (Node.kids (nth t8 t10 (Vi.Node.mk 0 0 [] [] [] []))))) ++
                                          [60, 47] ++
                                        Node.name (nth t8 t10 (Vi.Node.mk 0 0 [] [] [] [])))) :
                                  Int) +
                                (↑1 : Int) ≤
                              9223372036854775807 ∧
                            Rg IntKind.i64 (t10 + 1) ∧
                              K0
                                (raw,
                                  out ++
                                            Sp.openP
                                              (Vi.Node.mk (Vi.Node.kind (nth t8 t10 (Vi.Node.mk 0 0 [] [] [] []))) (Node.space (nth t8 t10 (Vi.Node.mk 0 0 [] [] [] [])))
                                                (Node.name (nth t8 t10 (Vi.Node.mk 0 0 [] [] [] []))) (Node.attrs (nth t8 t10 (Vi.Node.mk 0 0 [] [] [] [])))
                                                (Node.text (nth t8 t10 (Vi.Node.mk 0 0 [] [] [] []))) (Node.kids (nth t8 t10 (Vi.Node.mk 0 0 [] [] [] [])))) ++
                                          Sp.inP (Node.kids (nth t8 t10 (Vi.Node.mk 0 0 [] [] [] [])))
                                            (Sp.rawR
                                              (Vi.Node.mk (Vi.Node.kind (nth t8 t10 (Vi.Node.mk 0 0 [] [] [] []))) (Node.space (nth t8 t10 (Vi.Node.mk 0 0 [] [] [] [])))
                                                (Node.name (nth t8 t10 (Vi.Node.mk 0 0 [] [] [] []))) (Node.attrs (nth t8 t10 (Vi.Node.mk 0 0 [] [] [] [])))
                                                (Node.text (nth t8 t10 (Vi.Node.mk 0 0 [] [] [] []))) (Node.kids (nth t8 t10 (Vi.Node.mk 0 0 [] [] [] []))))) ++
                                        [60, 47] ++
                                      Node.name (nth t8 t10 (Vi.Node.mk 0 0 [] [] [] [])) ++
                                    [62],
                                  t8, t9, t10 + 1, ())
            else
              bif decide (Vi.Node.kind (nth t8 t10 (Vi.Node.mk 0 0 [] [] [] [])) = 2) then
                bif raw then
                  (↑out.length : Int) + (↑(List.length (Node.text (nth t8 t10 (Vi.Node.mk 0 0 [] [] [] [])))) : Int) ≤ 9223372036854775807 ∧
                    Rg IntKind.i64 (t10 + 1) ∧ K0 (raw, out ++ Node.text (nth t8 t10 (Vi.Node.mk 0 0 [] [] [] [])), t8, t9, t10 + 1, ())
                else
                  bif decide (Vi.Node.kind (nth t8 t10 (Vi.Node.mk 0 0 [] [] [] [])) = 2) then
                    Sp.escS.pre (Node.text (nth t8 t10 (Vi.Node.mk 0 0 [] [] [] []))) false ∧
                      (↑out.length : Int) + (↑(List.length (Sp.escS (Node.text (nth t8 t10 (Vi.Node.mk 0 0 [] [] [] []))) false)) : Int) ≤ 9223372036854775807 ∧
                        Rg IntKind.i64 (t10 + 1) ∧ K0 (raw, out ++ Sp.escS (Node.text (nth t8 t10 (Vi.Node.mk 0 0 [] [] [] []))) false, t8, t9, t10 + 1, ())
                  else
                    bif decide (Vi.Node.kind (nth t8 t10 (Vi.Node.mk 0 0 [] [] [] [])) = 3) then
                      (↑out.length : Int) + (↑4 : Int) ≤ 9223372036854775807 ∧
                        (↑(List.length (out ++ [60, 33, 45, 45])) : Int) + (↑(List.length (Node.text (nth t8 t10 (Vi.Node.mk 0 0 [] [] [] [])))) : Int) ≤ 9223372036854775807 ∧
                          (↑(List.length (out ++ [60, 33, 45, 45] ++ Node.text (nth t8 t10 (Vi.Node.mk 0 0 [] [] [] [])))) : Int) + (↑3 : Int) ≤ 9223372036854775807 ∧
                            Rg IntKind.i64 (t10 + 1) ∧ K0 (raw, out ++ [60, 33, 45, 45] ++ Node.text (nth t8 t10 (Vi.Node.mk 0 0 [] [] [] [])) ++ [45, 45, 62], t8, t9, t10 + 1, ())
                    else Rg IntKind.i64 (t10 + 1) ∧ K0 (raw, out, t8, t9, t10 + 1, ())
              else
                bif decide (Vi.Node.kind (nth t8 t10 (Vi.Node.mk 0 0 [] [] [] [])) = 2) then
                  Sp.escS.pre (Node.text (nth t8 t10 (Vi.Node.mk 0 0 [] [] [] []))) false ∧
                    (↑out.length : Int) + (↑(List.length (Sp.escS (Node.text (nth t8 t10 (Vi.Node.mk 0 0 [] [] [] []))) false)) : Int) ≤ 9223372036854775807 ∧
                      Rg IntKind.i64 (t10 + 1) ∧ K0 (raw, out ++ Sp.escS (Node.text (nth t8 t10 (Vi.Node.mk 0 0 [] [] [] []))) false, t8, t9, t10 + 1, ())
                else
                  bif decide (Vi.Node.kind (nth t8 t10 (Vi.Node.mk 0 0 [] [] [] [])) = 3) then
                    (↑out.length : Int) + (↑4 : Int) ≤ 9223372036854775807 ∧
                      (↑(List.length (out ++ [60, 33, 45, 45])) : Int) + (↑(List.length (Node.text (nth t8 t10 (Vi.Node.mk 0 0 [] [] [] [])))) : Int) ≤ 9223372036854775807 ∧
                        (↑(List.length (out ++ [60, 33, 45, 45] ++ Node.text (nth t8 t10 (Vi.Node.mk 0 0 [] [] [] [])))) : Int) + (↑3 : Int) ≤ 9223372036854775807 ∧
                          Rg IntKind.i64 (t10 + 1) ∧ K0 (raw, out ++ [60, 33, 45, 45] ++ Node.text (nth t8 t10 (Vi.Node.mk 0 0 [] [] [] [])) ++ [45, 45, 62], t8, t9, t10 + 1, ())
                  else Rg IntKind.i64 (t10 + 1) ∧ K0 (raw, out, t8, t9, t10 + 1, ())
        else
          bif decide (Vi.Node.kind (nth t8 t10 (Vi.Node.mk 0 0 [] [] [] [])) = 1) then
            Sp.openP.pre
                (Vi.Node.mk (Vi.Node.kind (nth t8 t10 (Vi.Node.mk 0 0 [] [] [] []))) (Node.space (nth t8 t10 (Vi.Node.mk 0 0 [] [] [] [])))
                  (Node.name (nth t8 t10 (Vi.Node.mk 0 0 [] [] [] []))) (Node.attrs (nth t8 t10 (Vi.Node.mk 0 0 [] [] [] []))) (Node.text (nth t8 t10 (Vi.Node.mk 0 0 [] [] [] [])))
                  (Node.kids (nth t8 t10 (Vi.Node.mk 0 0 [] [] [] [])))) ∧
              (↑out.length : Int) +
                    (↑(List.length
                          (Sp.openP
                            (Vi.Node.mk (Vi.Node.kind (nth t8 t10 (Vi.Node.mk 0 0 [] [] [] []))) (Node.space (nth t8 t10 (Vi.Node.mk 0 0 [] [] [] [])))
                              (Node.name (nth t8 t10 (Vi.Node.mk 0 0 [] [] [] []))) (Node.attrs (nth t8 t10 (Vi.Node.mk 0 0 [] [] [] [])))
                              (Node.text (nth t8 t10 (Vi.Node.mk 0 0 [] [] [] []))) (Node.kids (nth t8 t10 (Vi.Node.mk 0 0 [] [] [] [])))))) :
                      Int) ≤
                  9223372036854775807 ∧
                (Sp.inP.pre (Node.kids (nth t8 t10 (Vi.Node.mk 0 0 [] [] [] [])))
                      (Sp.rawR
                        (Vi.Node.mk (Vi.Node.kind (nth t8 t10 (Vi.Node.mk 0 0 [] [] [] []))) (Node.space (nth t8 t10 (Vi.Node.mk 0 0 [] [] [] [])))
                          (Node.name (nth t8 t10 (Vi.Node.mk 0 0 [] [] [] []))) (Node.attrs (nth t8 t10 (Vi.Node.mk 0 0 [] [] [] []))) (Node.text (nth t8 t10 (Vi.Node.mk 0 0 [] [] [] [])))
                          (Node.kids (nth t8 t10 (Vi.Node.mk 0 0 [] [] [] []))))) ∧
                    Sp.mIn (Node.kids (nth t8 t10 (Vi.Node.mk 0 0 [] [] [] [])))
                        (Sp.rawR
                          (Vi.Node.mk (Vi.Node.kind (nth t8 t10 (Vi.Node.mk 0 0 [] [] [] []))) (Node.space (nth t8 t10 (Vi.Node.mk 0 0 [] [] [] [])))
                            (Node.name (nth t8 t10 (Vi.Node.mk 0 0 [] [] [] []))) (Node.attrs (nth t8 t10 (Vi.Node.mk 0 0 [] [] [] []))) (Node.text (nth t8 t10 (Vi.Node.mk 0 0 [] [] [] [])))
                            (Node.kids (nth t8 t10 (Vi.Node.mk 0 0 [] [] [] []))))) <
                      nn) ∧
                  (↑(List.length
                              (out ++
                                Sp.openP
                                  (Vi.Node.mk (Vi.Node.kind (nth t8 t10 (Vi.Node.mk 0 0 [] [] [] []))) (Node.space (nth t8 t10 (Vi.Node.mk 0 0 [] [] [] [])))
                                    (Node.name (nth t8 t10 (Vi.Node.mk 0 0 [] [] [] []))) (Node.attrs (nth t8 t10 (Vi.Node.mk 0 0 [] [] [] [])))
                                    (Node.text (nth t8 t10 (Vi.Node.mk 0 0 [] [] [] []))) (Node.kids (nth t8 t10 (Vi.Node.mk 0 0 [] [] [] [])))))) :
                          Int) +
                        (↑(List.length
                              (Sp.inP (Node.kids (nth t8 t10 (Vi.Node.mk 0 0 [] [] [] [])))
                                (Sp.rawR
                                  (Vi.Node.mk (Vi.Node.kind (nth t8 t10 (Vi.Node.mk 0 0 [] [] [] []))) (Node.space (nth t8 t10 (Vi.Node.mk 0 0 [] [] [] [])))
                                    (Node.name (nth t8 t10 (Vi.Node.mk 0 0 [] [] [] []))) (Node.attrs (nth t8 t10 (Vi.Node.mk 0 0 [] [] [] [])))
                                    (Node.text (nth t8 t10 (Vi.Node.mk 0 0 [] [] [] []))) (Node.kids (nth t8 t10 (Vi.Node.mk 0 0 [] [] [] []))))))) :
                          Int) ≤
                      9223372036854775807 ∧
                    (↑(List.length
                                (out ++
                                    Sp.openP
                                      (Vi.Node.mk (Vi.Node.kind (nth t8 t10 (Vi.Node.mk 0 0 [] [] [] []))) (Node.space (nth t8 t10 (Vi.Node.mk 0 0 [] [] [] [])))
                                        (Node.name (nth t8 t10 (Vi.Node.mk 0 0 [] [] [] []))) (Node.attrs (nth t8 t10 (Vi.Node.mk 0 0 [] [] [] [])))
                                        (Node.text (nth t8 t10 (Vi.Node.mk 0 0 [] [] [] []))) (Node.kids (nth t8 t10 (Vi.Node.mk 0 0 [] [] [] [])))) ++
                                  Sp.inP (Node.kids (nth t8 t10 (Vi.Node.mk 0 0 [] [] [] [])))
                                    (Sp.rawR
                                      (Vi.Node.mk (Vi.Node.kind (nth t8 t10 (Vi.Node.mk 0 0 [] [] [] []))) (Node.space (nth t8 t10 (Vi.Node.mk 0 0 [] [] [] [])))
                                        (Node.name (nth t8 t10 (Vi.Node.mk 0 0 [] [] [] []))) (Node.attrs (nth t8 t10 (Vi.Node.mk 0 0 [] [] [] [])))
                                        (Node.text (nth t8 t10 (Vi.Node.mk 0 0 [] [] [] []))) (Node.kids (nth t8 t10 (Vi.Node.mk 0 0 [] [] [] []))))))) :
                            Int) +
                          (↑2 : Int) ≤
                        9223372036854775807 ∧
                      (↑(List.length
                                  (out ++
                                        Sp.openP
                                          (Vi.Node.mk (Vi.Node.kind (nth t8 t10 (Vi.Node.mk 0 0 [] [] [] []))) (Node.space (nth t8 t10 (Vi.Node.mk 0 0 [] [] [] [])))
                                            (Node.name (nth t8 t10 (Vi.Node.mk 0 0 [] [] [] []))) (Node.attrs (nth t8 t10 (Vi.Node.mk 0 0 [] [] [] [])))
                                            (Node.text (nth t8 t10 (Vi.Node.mk 0 0 [] [] [] []))) (Node.kids (nth t8 t10 (Vi.Node.mk 0 0 [] [] [] [])))) ++
                                      Sp.inP (Node.kids (nth t8 t10 (Vi.Node.mk 0 0 [] [] [] [])))
                                        (Sp.rawR
                                          (Vi.Node.mk (Vi.Node.kind (nth t8 t10 (Vi.Node.mk 0 0 [] [] [] []))) (Node.space (nth t8 t10 (Vi.Node.mk 0 0 [] [] [] [])))
                                            (Node.name (nth t8 t10 (Vi.Node.mk 0 0 [] [] [] []))) (Node.attrs (nth t8 t10 (Vi.Node.mk 0 0 [] [] [] [])))
                                            (Node.text (nth t8 t10 (Vi.Node.mk 0 0 [] [] [] []))) (Node.kids (nth t8 t10 (Vi.Node.mk 0 0 [] [] [] []))))) ++
                                    [60, 47])) :
                              Int) +
                            (↑(List.length (Node.name (nth t8 t10 (Vi.Node.mk 0 0 [] [] [] [])))) : Int) ≤
                          9223372036854775807 ∧
                        (↑(List.length
                                    (out ++
                                            Sp.openP
                                              (Vi.Node.mk (Vi.Node.kind (nth t8 t10 (Vi.Node.mk 0 0 [] [] [] []))) (Node.space (nth t8 t10 (Vi.Node.mk 0 0 [] [] [] [])))
                                                (Node.name (nth t8 t10 (Vi.Node.mk 0 0 [] [] [] []))) (Node.attrs (nth t8 t10 (Vi.Node.mk 0 0 [] [] [] [])))
                                                (Node.text (nth t8 t10 (Vi.Node.mk 0 0 [] [] [] []))) (Node.kids (nth t8 t10 (Vi.Node.mk 0 0 [] [] [] [])))) ++
                                          Sp.inP (Node.kids (nth t8 t10 (Vi.Node.mk 0 0 [] [] [] [])))
                                            (Sp.rawR
                                              (Vi.Node.mk (Vi.Node.kind (nth t8 t10 (Vi.Node.mk 0 0 [] [] [] []))) (Node.space (nth t8 t10 (Vi.Node.mk 0 0 [] [] [] [])))
                                                (Node.name (nth t8 t10 (Vi.Node.mk 0 0 [] [] [] []))) (Node.attrs (nth t8 t10 (Vi.Node.mk 0 0 [] [] [] [])))
                                                (Node.text (nth t8 t10 (Vi.Node.mk 0 0 [] [] [] []))) (Node.kids (nth t8 t10 (Vi.Node.mk 0 0 [] [] [] []))))) ++
                                        [60, 47] ++
                                      Node.name (nth t8 t10 (Vi.Node.mk 0 0 [] [] [] [])))) :
                                Int) +
                              (↑1 : Int) ≤
                            9223372036854775807 ∧
                          Rg IntKind.i64 (t10 + 1) ∧
                            K0
                              (raw,
                                out ++
                                          Sp.openP
                                            (Vi.Node.mk (Vi.Node.kind (nth t8 t10 (Vi.Node.mk 0 0 [] [] [] []))) (Node.space (nth t8 t10 (Vi.Node.mk 0 0 [] [] [] [])))
                                              (Node.name (nth t8 t10 (Vi.Node.mk 0 0 [] [] [] []))) (Node.attrs (nth t8 t10 (Vi.Node.mk 0 0 [] [] [] [])))
                                              (Node.text (nth t8 t10 (Vi.Node.mk 0 0 [] [] [] []))) (Node.kids (nth t8 t10 (Vi.Node.mk 0 0 [] [] [] [])))) ++
                                        Sp.inP (Node.kids (nth t8 t10 (Vi.Node.mk 0 0 [] [] [] [])))
                                          (Sp.rawR
                                            (Vi.Node.mk (Vi.Node.kind (nth t8 t10 (Vi.Node.mk 0 0 [] [] [] []))) (Node.space (nth t8 t10 (Vi.Node.mk 0 0 [] [] [] [])))
                                              (Node.name (nth t8 t10 (Vi.Node.mk 0 0 [] [] [] []))) (Node.attrs (nth t8 t10 (Vi.Node.mk 0 0 [] [] [] [])))
                                              (Node.text (nth t8 t10 (Vi.Node.mk 0 0 [] [] [] []))) (Node.kids (nth t8 t10 (Vi.Node.mk 0 0 [] [] [] []))))) ++
                                      [60, 47] ++
                                    Node.name (nth t8 t10 (Vi.Node.mk 0 0 [] [] [] [])) ++
                                  [62],
                                t8, t9, t10 + 1, ())
          else
            bif decide (Vi.Node.kind (nth t8 t10 (Vi.Node.mk 0 0 [] [] [] [])) = 2) then
              bif raw then
                (↑out.length : Int) + (↑(List.length (Node.text (nth t8 t10 (Vi.Node.mk 0 0 [] [] [] [])))) : Int) ≤ 9223372036854775807 ∧
                  Rg IntKind.i64 (t10 + 1) ∧ K0 (raw, out ++ Node.text (nth t8 t10 (Vi.Node.mk 0 0 [] [] [] [])), t8, t9, t10 + 1, ())
              else
                bif decide (Vi.Node.kind (nth t8 t10 (Vi.Node.mk 0 0 [] [] [] [])) = 2) then
                  Sp.escS.pre (Node.text (nth t8 t10 (Vi.Node.mk 0 0 [] [] [] []))) false ∧
                    (↑out.length : Int) + (↑(List.length (Sp.escS (Node.text (nth t8 t10 (Vi.Node.mk 0 0 [] [] [] []))) false)) : Int) ≤ 9223372036854775807 ∧
                      Rg IntKind.i64 (t10 + 1) ∧ K0 (raw, out ++ Sp.escS (Node.text (nth t8 t10 (Vi.Node.mk 0 0 [] [] [] []))) false, t8, t9, t10 + 1, ())
                else
                  bif decide (Vi.Node.kind (nth t8 t10 (Vi.Node.mk 0 0 [] [] [] [])) = 3) then
                    (↑out.length : Int) + (↑4 : Int) ≤ 9223372036854775807 ∧
                      (↑(List.length (out ++ [60, 33, 45, 45])) : Int) + (↑(List.length (Node.text (nth t8 t10 (Vi.Node.mk 0 0 [] [] [] [])))) : Int) ≤ 9223372036854775807 ∧
                        (↑(List.length (out ++ [60, 33, 45, 45] ++ Node.text (nth t8 t10 (Vi.Node.mk 0 0 [] [] [] [])))) : Int) + (↑3 : Int) ≤ 9223372036854775807 ∧
                          Rg IntKind.i64 (t10 + 1) ∧ K0 (raw, out ++ [60, 33, 45, 45] ++ Node.text (nth t8 t10 (Vi.Node.mk 0 0 [] [] [] [])) ++ [45, 45, 62], t8, t9, t10 + 1, ())
                  else Rg IntKind.i64 (t10 + 1) ∧ K0 (raw, out, t8, t9, t10 + 1, ())
            else
              bif decide (Vi.Node.kind (nth t8 t10 (Vi.Node.mk 0 0 [] [] [] [])) = 2) then
                Sp.escS.pre (Node.text (nth t8 t10 (Vi.Node.mk 0 0 [] [] [] []))) false ∧
                  (↑out.length : Int) + (↑(List.length (Sp.escS (Node.text (nth t8 t10 (Vi.Node.mk 0 0 [] [] [] []))) false)) : Int) ≤ 9223372036854775807 ∧
                    Rg IntKind.i64 (t10 + 1) ∧ K0 (raw, out ++ Sp.escS (Node.text (nth t8 t10 (Vi.Node.mk 0 0 [] [] [] []))) false, t8, t9, t10 + 1, ())
              else
                bif decide (Vi.Node.kind (nth t8 t10 (Vi.Node.mk 0 0 [] [] [] [])) = 3) then
                  (↑out.length : Int) + (↑4 : Int) ≤ 9223372036854775807 ∧
                    (↑(List.length (out ++ [60, 33, 45, 45])) : Int) + (↑(List.length (Node.text (nth t8 t10 (Vi.Node.mk 0 0 [] [] [] [])))) : Int) ≤ 9223372036854775807 ∧
                      (↑(List.length (out ++ [60, 33, 45, 45] ++ Node.text (nth t8 t10 (Vi.Node.mk 0 0 [] [] [] [])))) : Int) + (↑3 : Int) ≤ 9223372036854775807 ∧
                        Rg IntKind.i64 (t10 + 1) ∧ K0 (raw, out ++ [60, 33, 45, 45] ++ Node.text (nth t8 t10 (Vi.Node.mk 0 0 [] [] [] [])) ++ [45, 45, 62], t8, t9, t10 + 1, ())
                else Rg IntKind.i64 (t10 + 1) ∧ K0 (raw, out, t8, t9, t10 + 1, ())
      else
        bif decide (Vi.Node.kind (nth t8 t10 (Vi.Node.mk 0 0 [] [] [] [])) = 1) then
          Sp.openP.pre
              (Vi.Node.mk (Vi.Node.kind (nth t8 t10 (Vi.Node.mk 0 0 [] [] [] []))) (Node.space (nth t8 t10 (Vi.Node.mk 0 0 [] [] [] [])))
                (Node.name (nth t8 t10 (Vi.Node.mk 0 0 [] [] [] []))) (Node.attrs (nth t8 t10 (Vi.Node.mk 0 0 [] [] [] []))) (Node.text (nth t8 t10 (Vi.Node.mk 0 0 [] [] [] [])))
                (Node.kids (nth t8 t10 (Vi.Node.mk 0 0 [] [] [] [])))) ∧
            (↑out.length : Int) +
                  (↑(List.length
                        (Sp.openP
                          (Vi.Node.mk (Vi.Node.kind (nth t8 t10 (Vi.Node.mk 0 0 [] [] [] []))) (Node.space (nth t8 t10 (Vi.Node.mk 0 0 [] [] [] [])))
                            (Node.name (nth t8 t10 (Vi.Node.mk 0 0 [] [] [] []))) (Node.attrs (nth t8 t10 (Vi.Node.mk 0 0 [] [] [] []))) (Node.text (nth t8 t10 (Vi.Node.mk 0 0 [] [] [] [])))
                            (Node.kids (nth t8 t10 (Vi.Node.mk 0 0 [] [] [] [])))))) :
                    Int) ≤
                9223372036854775807 ∧
              (Sp.inP.pre (Node.kids (nth t8 t10 (Vi.Node.mk 0 0 [] [] [] [])))
                    (Sp.rawR
                      (Vi.Node.mk (Vi.Node.kind (nth t8 t10 (Vi.Node.mk 0 0 [] [] [] []))) (Node.space (nth t8 t10 (Vi.Node.mk 0 0 [] [] [] [])))
                        (Node.name (nth t8 t10 (Vi.Node.mk 0 0 [] [] [] []))) (Node.attrs (nth t8 t10 (Vi.Node.mk 0 0 [] [] [] []))) (Node.text (nth t8 t10 (Vi.Node.mk 0 0 [] [] [] [])))
                        (Node.kids (nth t8 t10 (Vi.Node.mk 0 0 [] [] [] []))))) ∧
                  Sp.mIn (Node.kids (nth t8 t10 (Vi.Node.mk 0 0 [] [] [] [])))
                      (Sp.rawR
                        (Vi.Node.mk (Vi.Node.kind (nth t8 t10 (Vi.Node.mk 0 0 [] [] [] []))) (Node.space (nth t8 t10 (Vi.Node.mk 0 0 [] [] [] [])))
                          (Node.name (nth t8 t10 (Vi.Node.mk 0 0 [] [] [] []))) (Node.attrs (nth t8 t10 (Vi.Node.mk 0 0 [] [] [] []))) (Node.text (nth t8 t10 (Vi.Node.mk 0 0 [] [] [] [])))
                          (Node.kids (nth t8 t10 (Vi.Node.mk 0 0 [] [] [] []))))) <
                    nn) ∧
                (↑(List.length
                            (out ++
                              Sp.openP
                                (Vi.Node.mk (Vi.Node.kind (nth t8 t10 (Vi.Node.mk 0 0 [] [] [] []))) (Node.space (nth t8 t10 (Vi.Node.mk 0 0 [] [] [] [])))
                                  (Node.name (nth t8 t10 (Vi.Node.mk 0 0 [] [] [] []))) (Node.attrs (nth t8 t10 (Vi.Node.mk 0 0 [] [] [] [])))
                                  (Node.text (nth t8 t10 (Vi.Node.mk 0 0 [] [] [] []))) (Node.kids (nth t8 t10 (Vi.Node.mk 0 0 [] [] [] [])))))) :
                        Int) +
                      (↑(List.length
                            (Sp.inP (Node.kids (nth t8 t10 (Vi.Node.mk 0 0 [] [] [] [])))
                              (Sp.rawR
                                (Vi.Node.mk (Vi.Node.kind (nth t8 t10 (Vi.Node.mk 0 0 [] [] [] []))) (Node.space (nth t8 t10 (Vi.Node.mk 0 0 [] [] [] [])))
                                  (Node.name (nth t8 t10 (Vi.Node.mk 0 0 [] [] [] []))) (Node.attrs (nth t8 t10 (Vi.Node.mk 0 0 [] [] [] [])))
                                  (Node.text (nth t8 t10 (Vi.Node.mk 0 0 [] [] [] []))) (Node.kids (nth t8 t10 (Vi.Node.mk 0 0 [] [] [] []))))))) :
                        Int) ≤
                    9223372036854775807 ∧
                  (↑(List.length
                              (out ++
                                  Sp.openP
                                    (Vi.Node.mk (Vi.Node.kind (nth t8 t10 (Vi.Node.mk 0 0 [] [] [] []))) (Node.space (nth t8 t10 (Vi.Node.mk 0 0 [] [] [] [])))
                                      (Node.name (nth t8 t10 (Vi.Node.mk 0 0 [] [] [] []))) (Node.attrs (nth t8 t10 (Vi.Node.mk 0 0 [] [] [] [])))
                                      (Node.text (nth t8 t10 (Vi.Node.mk 0 0 [] [] [] []))) (Node.kids (nth t8 t10 (Vi.Node.mk 0 0 [] [] [] [])))) ++
                                Sp.inP (Node.kids (nth t8 t10 (Vi.Node.mk 0 0 [] [] [] [])))
                                  (Sp.rawR
                                    (Vi.Node.mk (Vi.Node.kind (nth t8 t10 (Vi.Node.mk 0 0 [] [] [] []))) (Node.space (nth t8 t10 (Vi.Node.mk 0 0 [] [] [] [])))
                                      (Node.name (nth t8 t10 (Vi.Node.mk 0 0 [] [] [] []))) (Node.attrs (nth t8 t10 (Vi.Node.mk 0 0 [] [] [] [])))
                                      (Node.text (nth t8 t10 (Vi.Node.mk 0 0 [] [] [] []))) (Node.kids (nth t8 t10 (Vi.Node.mk 0 0 [] [] [] []))))))) :
                          Int) +
                        (↑2 : Int) ≤
                      9223372036854775807 ∧
                    (↑(List.length
                                (out ++
                                      Sp.openP
                                        (Vi.Node.mk (Vi.Node.kind (nth t8 t10 (Vi.Node.mk 0 0 [] [] [] []))) (Node.space (nth t8 t10 (Vi.Node.mk 0 0 [] [] [] [])))
                                          (Node.name (nth t8 t10 (Vi.Node.mk 0 0 [] [] [] []))) (Node.attrs (nth t8 t10 (Vi.Node.mk 0 0 [] [] [] [])))
                                          (Node.text (nth t8 t10 (Vi.Node.mk 0 0 [] [] [] []))) (Node.kids (nth t8 t10 (Vi.Node.mk 0 0 [] [] [] [])))) ++
                                    Sp.inP (Node.kids (nth t8 t10 (Vi.Node.mk 0 0 [] [] [] [])))
                                      (Sp.rawR
                                        (Vi.Node.mk (Vi.Node.kind (nth t8 t10 (Vi.Node.mk 0 0 [] [] [] []))) (Node.space (nth t8 t10 (Vi.Node.mk 0 0 [] [] [] [])))
                                          (Node.name (nth t8 t10 (Vi.Node.mk 0 0 [] [] [] []))) (Node.attrs (nth t8 t10 (Vi.Node.mk 0 0 [] [] [] [])))
                                          (Node.text (nth t8 t10 (Vi.Node.mk 0 0 [] [] [] []))) (Node.kids (nth t8 t10 (Vi.Node.mk 0 0 [] [] [] []))))) ++
                                  [60, 47])) :
                            Int) +
                          (↑(List.length (Node.name (nth t8 t10 (Vi.Node.mk 0 0 [] [] [] [])))) : Int) ≤
                        9223372036854775807 ∧
                      (↑(List.length
                                  (out ++
                                          Sp.openP
                                            (Vi.Node.mk (Vi.Node.kind (nth t8 t10 (Vi.Node.mk 0 0 [] [] [] []))) (Node.space (nth t8 t10 (Vi.Node.mk 0 0 [] [] [] [])))
                                              (Node.name (nth t8 t10 (Vi.Node.mk 0 0 [] [] [] []))) (Node.attrs (nth t8 t10 (Vi.Node.mk 0 0 [] [] [] [])))
                                              (Node.text (nth t8 t10 (Vi.Node.mk 0 0 [] [] [] []))) (Node.kids (nth t8 t10 (Vi.Node.mk 0 0 [] [] [] [])))) ++
                                        Sp.inP (Node.kids (nth t8 t10 (Vi.Node.mk 0 0 [] [] [] [])))
                                          (Sp.rawR
                                            (Vi.Node.mk (Vi.Node.kind (nth t8 t10 (Vi.Node.mk 0 0 [] [] [] []))) (Node.space (nth t8 t10 (Vi.Node.mk 0 0 [] [] [] [])))
                                              (Node.name (nth t8 t10 (Vi.Node.mk 0 0 [] [] [] []))) (Node.attrs (nth t8 t10 (Vi.Node.mk 0 0 [] [] [] [])))
                                              (Node.text (nth t8 t10 (Vi.Node.mk 0 0 [] [] [] []))) (Node.kids (nth t8 t10 (Vi.Node.mk 0 0 [] [] [] []))))) ++
                                      [60, 47] ++
                                    Node.name (nth t8 t10 (Vi.Node.mk 0 0 [] [] [] [])))) :
                              Int) +
                            (↑1 : Int) ≤
                          9223372036854775807 ∧
                        Rg IntKind.i64 (t10 + 1) ∧
                          K0
                            (raw,
                              out ++
                                        Sp.openP
                                          (Vi.Node.mk (Vi.Node.kind (nth t8 t10 (Vi.Node.mk 0 0 [] [] [] []))) (Node.space (nth t8 t10 (Vi.Node.mk 0 0 [] [] [] [])))
                                            (Node.name (nth t8 t10 (Vi.Node.mk 0 0 [] [] [] []))) (Node.attrs (nth t8 t10 (Vi.Node.mk 0 0 [] [] [] [])))
                                            (Node.text (nth t8 t10 (Vi.Node.mk 0 0 [] [] [] []))) (Node.kids (nth t8 t10 (Vi.Node.mk 0 0 [] [] [] [])))) ++
                                      Sp.inP (Node.kids (nth t8 t10 (Vi.Node.mk 0 0 [] [] [] [])))
                                        (Sp.rawR
                                          (Vi.Node.mk (Vi.Node.kind (nth t8 t10 (Vi.Node.mk 0 0 [] [] [] []))) (Node.space (nth t8 t10 (Vi.Node.mk 0 0 [] [] [] [])))
                                            (Node.name (nth t8 t10 (Vi.Node.mk 0 0 [] [] [] []))) (Node.attrs (nth t8 t10 (Vi.Node.mk 0 0 [] [] [] [])))
                                            (Node.text (nth t8 t10 (Vi.Node.mk 0 0 [] [] [] []))) (Node.kids (nth t8 t10 (Vi.Node.mk 0 0 [] [] [] []))))) ++
                                    [60, 47] ++
                                  Node.name (nth t8 t10 (Vi.Node.mk 0 0 [] [] [] [])) ++
                                [62],
                              t8, t9, t10 + 1, ())
        else
          bif decide (Vi.Node.kind (nth t8 t10 (Vi.Node.mk 0 0 [] [] [] [])) = 2) then
            bif raw then
              (↑out.length : Int) + (↑(List.length (Node.text (nth t8 t10 (Vi.Node.mk 0 0 [] [] [] [])))) : Int) ≤ 9223372036854775807 ∧
                Rg IntKind.i64 (t10 + 1) ∧ K0 (raw, out ++ Node.text (nth t8 t10 (Vi.Node.mk 0 0 [] [] [] [])), t8, t9, t10 + 1, ())
            else
              bif decide (Vi.Node.kind (nth t8 t10 (Vi.Node.mk 0 0 [] [] [] [])) = 2) then
                Sp.escS.pre (Node.text (nth t8 t10 (Vi.Node.mk 0 0 [] [] [] []))) false ∧
                  (↑out.length : Int) + (↑(List.length (Sp.escS (Node.text (nth t8 t10 (Vi.Node.mk 0 0 [] [] [] []))) false)) : Int) ≤ 9223372036854775807 ∧
                    Rg IntKind.i64 (t10 + 1) ∧ K0 (raw, out ++ Sp.escS (Node.text (nth t8 t10 (Vi.Node.mk 0 0 [] [] [] []))) false, t8, t9, t10 + 1, ())
              else
                bif decide (Vi.Node.kind (nth t8 t10 (Vi.Node.mk 0 0 [] [] [] [])) = 3) then
                  (↑out.length : Int) + (↑4 : Int) ≤ 9223372036854775807 ∧
                    (↑(List.length (out ++ [60, 33, 45, 45])) : Int) + (↑(List.length (Node.text (nth t8 t10 (Vi.Node.mk 0 0 [] [] [] [])))) : Int) ≤ 9223372036854775807 ∧
                      (↑(List.length (out ++ [60, 33, 45, 45] ++ Node.text (nth t8 t10 (Vi.Node.mk 0 0 [] [] [] [])))) : Int) + (↑3 : Int) ≤ 9223372036854775807 ∧
                        Rg IntKind.i64 (t10 + 1) ∧ K0 (raw, out ++ [60, 33, 45, 45] ++ Node.text (nth t8 t10 (Vi.Node.mk 0 0 [] [] [] [])) ++ [45, 45, 62], t8, t9, t10 + 1, ())
                else Rg IntKind.i64 (t10 + 1) ∧ K0 (raw, out, t8, t9, t10 + 1, ())
          else
            bif decide (Vi.Node.kind (nth t8 t10 (Vi.Node.mk 0 0 [] [] [] [])) = 2) then
              Sp.escS.pre (Node.text (nth t8 t10 (Vi.Node.mk 0 0 [] [] [] []))) false ∧
                (↑out.length : Int) + (↑(List.length (Sp.escS (Node.text (nth t8 t10 (Vi.Node.mk 0 0 [] [] [] []))) false)) : Int) ≤ 9223372036854775807 ∧
                  Rg IntKind.i64 (t10 + 1) ∧ K0 (raw, out ++ Sp.escS (Node.text (nth t8 t10 (Vi.Node.mk 0 0 [] [] [] []))) false, t8, t9, t10 + 1, ())
            else
              bif decide (Vi.Node.kind (nth t8 t10 (Vi.Node.mk 0 0 [] [] [] [])) = 3) then
                (↑out.length : Int) + (↑4 : Int) ≤ 9223372036854775807 ∧
                  (↑(List.length (out ++ [60, 33, 45, 45])) : Int) + (↑(List.length (Node.text (nth t8 t10 (Vi.Node.mk 0 0 [] [] [] [])))) : Int) ≤ 9223372036854775807 ∧
                    (↑(List.length (out ++ [60, 33, 45, 45] ++ Node.text (nth t8 t10 (Vi.Node.mk 0 0 [] [] [] [])))) : Int) + (↑3 : Int) ≤ 9223372036854775807 ∧
                      Rg IntKind.i64 (t10 + 1) ∧ K0 (raw, out ++ [60, 33, 45, 45] ++ Node.text (nth t8 t10 (Vi.Node.mk 0 0 [] [] [] [])) ++ [45, 45, 62], t8, t9, t10 + 1, ())
              else Rg IntKind.i64 (t10 + 1) ∧ K0 (raw, out, t8, t9, t10 + 1, ())
  else R out
def rectoref13_In.vc (R : List UInt8 → Prop) (nn : Nat) (l : List Vi.Node) (raw : Bool) : Prop :=
  Lp (fun v K => rectoref13_In.L0 nn R v.fst v.snd.fst v.snd.snd.fst v.snd.snd.snd.fst v.snd.snd.snd.snd.fst K) (raw, [], l, (↑l.length : Int), 0, ())

def rectoref13_Text.vc (R : List UInt8 → Prop) (l : List Vi.Node) : Prop :=
  Sp.inP.pre l false ∧ R (Sp.inP l false)

def rectoref13_flat.L0 (R : List UInt8 → Prop) (s : List UInt8) (out : List UInt8) (i : Int) (K0 : List UInt8 × List UInt8 × Int × Unit → Prop) : Prop :=
  bif decide (i < (↑s.length : Int)) then
    Ix i s.length ∧
      bif decide ((↑(nth s i 0).toNat : Int) = 10) then (↑out.length : Int) + (↑1 : Int) ≤ 9223372036854775807 ∧ Rg IntKind.i64 (i + 1) ∧ K0 (s, out ++ [32], i + 1, ())
      else
        Rg IntKind.i64 (i + 1) ∧
          Sb i (i + 1) s.length ∧ (↑out.length : Int) + (↑(sub s i (i + 1)).length : Int) ≤ 9223372036854775807 ∧ Rg IntKind.i64 (i + 1) ∧ K0 (s, out ++ sub s i (i + 1), i + 1, ())
  else R out
def rectoref13_flat.vc (R : List UInt8 → Prop) (s : Str) : Prop :=
  Lp (fun v K => rectoref13_flat.L0 R v.fst v.snd.fst v.snd.snd.fst K) (s, [], 0, ())

def print_shown.vc (R : List UInt8 → Prop) (n : Vi.Node) : Prop :=
  bif decide (n.kind = 1) then Sp.openP.pre (Vi.Node.mk n.kind n.space n.name n.attrs n.text n.kids) ∧ R (Sp.openP (Vi.Node.mk n.kind n.space n.name n.attrs n.text n.kids))
  else
    bif decide (n.kind = 2) then Sp.repA.pre n.text [10] [32] ∧ R (Sp.repA n.text [10] [32])
    else bif decide (n.kind = 3) then Sp.repA.pre n.text [10] [32] ∧ R (Sp.repA n.text [10] [32]) else R []

def print_Lines_1.L0 (nn : Nat) (R : List (List UInt8) →
  Prop) (depth : Int) (t8 : List Vi.Node) (t9 : Int) (t10 : Int) (out : List (List UInt8)) (K0 : Int × List Vi.Node × Int × Int × List (List UInt8) × Unit → Prop) : Prop :=
  bif decide (t10 < t9) then
    Ix t10 t8.length ∧
      Sp.repS.pre [32] depth ∧
        Sp.shownN.pre
            (Vi.Node.mk (Vi.Node.kind (nth t8 t10 (Vi.Node.mk 0 0 [] [] [] []))) (Node.space (nth t8 t10 (Vi.Node.mk 0 0 [] [] [] []))) (Node.name (nth t8 t10 (Vi.Node.mk 0 0 [] [] [] [])))
              (Node.attrs (nth t8 t10 (Vi.Node.mk 0 0 [] [] [] []))) (Node.text (nth t8 t10 (Vi.Node.mk 0 0 [] [] [] []))) (Node.kids (nth t8 t10 (Vi.Node.mk 0 0 [] [] [] [])))) ∧
          (↑(List.length (Sp.repS [32] depth)) : Int) +
                (↑(List.length
                      (Sp.shownN
                        (Vi.Node.mk (Vi.Node.kind (nth t8 t10 (Vi.Node.mk 0 0 [] [] [] []))) (Node.space (nth t8 t10 (Vi.Node.mk 0 0 [] [] [] [])))
                          (Node.name (nth t8 t10 (Vi.Node.mk 0 0 [] [] [] []))) (Node.attrs (nth t8 t10 (Vi.Node.mk 0 0 [] [] [] []))) (Node.text (nth t8 t10 (Vi.Node.mk 0 0 [] [] [] [])))
                          (Node.kids (nth t8 t10 (Vi.Node.mk 0 0 [] [] [] [])))))) :
                  Int) ≤
              9223372036854775807 ∧
            Gr out.length 1 16 ∧
              Rg IntKind.i64 (depth + 1) ∧
                (Sp.linesD.pre (Node.kids (nth t8 t10 (Vi.Node.mk 0 0 [] [] [] []))) (depth + 1)
                      (out ++
                        [Sp.repS [32] depth ++
                            Sp.shownN
                              (Vi.Node.mk (Vi.Node.kind (nth t8 t10 (Vi.Node.mk 0 0 [] [] [] []))) (Node.space (nth t8 t10 (Vi.Node.mk 0 0 [] [] [] [])))
                                (Node.name (nth t8 t10 (Vi.Node.mk 0 0 [] [] [] []))) (Node.attrs (nth t8 t10 (Vi.Node.mk 0 0 [] [] [] [])))
                                (Node.text (nth t8 t10 (Vi.Node.mk 0 0 [] [] [] []))) (Node.kids (nth t8 t10 (Vi.Node.mk 0 0 [] [] [] []))))]) ∧
                    Sp.mLn (Node.kids (nth t8 t10 (Vi.Node.mk 0 0 [] [] [] []))) (depth + 1)
                        (out ++
                          [Sp.repS [32] depth ++
                              Sp.shownN
                                (Vi.Node.mk (Vi.Node.kind (nth t8 t10 (Vi.Node.mk 0 0 [] [] [] []))) (Node.space (nth t8 t10 (Vi.Node.mk 0 0 [] [] [] [])))
                                  (Node.name (nth t8 t10 (Vi.Node.mk 0 0 [] [] [] []))) (Node.attrs (nth t8 t10 (Vi.Node.mk 0 0 [] [] [] [])))
                                  (Node.text (nth t8 t10 (Vi.Node.mk 0 0 [] [] [] []))) (Node.kids (nth t8 t10 (Vi.Node.mk 0 0 [] [] [] []))))]) <
                      nn) ∧
                  Rg IntKind.i64 (t10 + 1) ∧
                    K0
                      (depth, t8, t9, t10 + 1,
                        Sp.linesD (Node.kids (nth t8 t10 (Vi.Node.mk 0 0 [] [] [] []))) (depth + 1)
                          (out ++
                            [Sp.repS [32] depth ++
                                Sp.shownN
                                  (Vi.Node.mk (Vi.Node.kind (nth t8 t10 (Vi.Node.mk 0 0 [] [] [] []))) (Node.space (nth t8 t10 (Vi.Node.mk 0 0 [] [] [] [])))
                                    (Node.name (nth t8 t10 (Vi.Node.mk 0 0 [] [] [] []))) (Node.attrs (nth t8 t10 (Vi.Node.mk 0 0 [] [] [] [])))
                                    (Node.text (nth t8 t10 (Vi.Node.mk 0 0 [] [] [] []))) (Node.kids (nth t8 t10 (Vi.Node.mk 0 0 [] [] [] []))))]),
                        ())
  else R out
def print_Lines_1.vc (R : List (List UInt8) → Prop) (nn : Nat) (l : List Vi.Node) (depth : Int) (out : List Str) : Prop :=
  Lp (fun v K => print_Lines_1.L0 nn R v.fst v.snd.fst v.snd.snd.fst v.snd.snd.snd.fst v.snd.snd.snd.snd.fst K) (depth, l, (↑l.length : Int), 0, out, ())

def print_Lines.vc (R : List (List UInt8) → Prop) (l : List Vi.Node) : Prop :=
  Sp.linesD.pre l 0 [] ∧ R (Sp.linesD l 0 [])

def rectoref13_Lines.L0 (nn : Nat) (R : List (List UInt8) →
  Prop) (ahead : List UInt8) (t9 : List Vi.Node) (t10 : Int) (t11 : Int) (out : List (List UInt8)) (K0 : List UInt8 × List Vi.Node × Int × Int × List (List UInt8) × Unit → Prop) : Prop :=
  bif decide (t11 < t10) then
    Ix t11 t9.length ∧
      Sp.openP.pre
          (Vi.Node.mk (Vi.Node.kind (nth t9 t11 (Vi.Node.mk 0 0 [] [] [] []))) (Node.space (nth t9 t11 (Vi.Node.mk 0 0 [] [] [] []))) (Node.name (nth t9 t11 (Vi.Node.mk 0 0 [] [] [] [])))
            (Node.attrs (nth t9 t11 (Vi.Node.mk 0 0 [] [] [] []))) (Node.text (nth t9 t11 (Vi.Node.mk 0 0 [] [] [] []))) (Node.kids (nth t9 t11 (Vi.Node.mk 0 0 [] [] [] [])))) ∧
        (↑ahead.length : Int) +
              (↑(List.length
                    (Sp.openP
                      (Vi.Node.mk (Vi.Node.kind (nth t9 t11 (Vi.Node.mk 0 0 [] [] [] []))) (Node.space (nth t9 t11 (Vi.Node.mk 0 0 [] [] [] [])))
                        (Node.name (nth t9 t11 (Vi.Node.mk 0 0 [] [] [] []))) (Node.attrs (nth t9 t11 (Vi.Node.mk 0 0 [] [] [] []))) (Node.text (nth t9 t11 (Vi.Node.mk 0 0 [] [] [] [])))
                        (Node.kids (nth t9 t11 (Vi.Node.mk 0 0 [] [] [] [])))))) :
                Int) ≤
            9223372036854775807 ∧
          bif decide (Vi.Node.kind (nth t9 t11 (Vi.Node.mk 0 0 [] [] [] [])) = 2) then
            Sp.flatT.pre (Node.text (nth t9 t11 (Vi.Node.mk 0 0 [] [] [] []))) ∧
              (↑ahead.length : Int) + (↑(List.length (Sp.flatT (Node.text (nth t9 t11 (Vi.Node.mk 0 0 [] [] [] []))))) : Int) ≤ 9223372036854775807 ∧
                Gr out.length 1 16 ∧
                  (↑ahead.length : Int) + (↑1 : Int) ≤ 9223372036854775807 ∧
                    (Sp.linesR.pre (Node.kids (nth t9 t11 (Vi.Node.mk 0 0 [] [] [] []))) (ahead ++ [32]) ∧
                        Sp.mLr (Node.kids (nth t9 t11 (Vi.Node.mk 0 0 [] [] [] []))) (ahead ++ [32]) < nn) ∧
                      Gr (out ++ [ahead ++ Sp.flatT (Node.text (nth t9 t11 (Vi.Node.mk 0 0 [] [] [] [])))]).length
                          (Sp.linesR (Node.kids (nth t9 t11 (Vi.Node.mk 0 0 [] [] [] []))) (ahead ++ [32])).length 16 ∧
                        Rg IntKind.i64 (t11 + 1) ∧
                          K0
                            (ahead, t9, t10, t11 + 1,
                              out ++ [ahead ++ Sp.flatT (Node.text (nth t9 t11 (Vi.Node.mk 0 0 [] [] [] [])))] ++
                                Sp.linesR (Node.kids (nth t9 t11 (Vi.Node.mk 0 0 [] [] [] []))) (ahead ++ [32]),
                              ())
          else
            bif decide (Vi.Node.kind (nth t9 t11 (Vi.Node.mk 0 0 [] [] [] [])) = 3) then
              Sp.flatT.pre (Node.text (nth t9 t11 (Vi.Node.mk 0 0 [] [] [] []))) ∧
                (↑ahead.length : Int) + (↑(List.length (Sp.flatT (Node.text (nth t9 t11 (Vi.Node.mk 0 0 [] [] [] []))))) : Int) ≤ 9223372036854775807 ∧
                  Gr out.length 1 16 ∧
                    (↑ahead.length : Int) + (↑1 : Int) ≤ 9223372036854775807 ∧
                      (Sp.linesR.pre (Node.kids (nth t9 t11 (Vi.Node.mk 0 0 [] [] [] []))) (ahead ++ [32]) ∧
                          Sp.mLr (Node.kids (nth t9 t11 (Vi.Node.mk 0 0 [] [] [] []))) (ahead ++ [32]) < nn) ∧
                        Gr (out ++ [ahead ++ Sp.flatT (Node.text (nth t9 t11 (Vi.Node.mk 0 0 [] [] [] [])))]).length
                            (Sp.linesR (Node.kids (nth t9 t11 (Vi.Node.mk 0 0 [] [] [] []))) (ahead ++ [32])).length 16 ∧
                          Rg IntKind.i64 (t11 + 1) ∧
                            K0
                              (ahead, t9, t10, t11 + 1,
                                out ++ [ahead ++ Sp.flatT (Node.text (nth t9 t11 (Vi.Node.mk 0 0 [] [] [] [])))] ++
                                  Sp.linesR (Node.kids (nth t9 t11 (Vi.Node.mk 0 0 [] [] [] []))) (ahead ++ [32]),
                                ())
            else
              Gr out.length 1 16 ∧
                (↑ahead.length : Int) + (↑1 : Int) ≤ 9223372036854775807 ∧
                  (Sp.linesR.pre (Node.kids (nth t9 t11 (Vi.Node.mk 0 0 [] [] [] []))) (ahead ++ [32]) ∧ Sp.mLr (Node.kids (nth t9 t11 (Vi.Node.mk 0 0 [] [] [] []))) (ahead ++ [32]) < nn) ∧
                    Gr
                        (out ++
                            [ahead ++
                                Sp.openP
                                  (Vi.Node.mk (Vi.Node.kind (nth t9 t11 (Vi.Node.mk 0 0 [] [] [] []))) (Node.space (nth t9 t11 (Vi.Node.mk 0 0 [] [] [] [])))
                                    (Node.name (nth t9 t11 (Vi.Node.mk 0 0 [] [] [] []))) (Node.attrs (nth t9 t11 (Vi.Node.mk 0 0 [] [] [] [])))
                                    (Node.text (nth t9 t11 (Vi.Node.mk 0 0 [] [] [] []))) (Node.kids (nth t9 t11 (Vi.Node.mk 0 0 [] [] [] []))))]).length
                        (Sp.linesR (Node.kids (nth t9 t11 (Vi.Node.mk 0 0 [] [] [] []))) (ahead ++ [32])).length 16 ∧
                      Rg IntKind.i64 (t11 + 1) ∧
                        K0
                          (ahead, t9, t10, t11 + 1,
                            out ++
                                [ahead ++
                                    Sp.openP
                                      (Vi.Node.mk (Vi.Node.kind (nth t9 t11 (Vi.Node.mk 0 0 [] [] [] []))) (Node.space (nth t9 t11 (Vi.Node.mk 0 0 [] [] [] [])))
                                        (Node.name (nth t9 t11 (Vi.Node.mk 0 0 [] [] [] []))) (Node.attrs (nth t9 t11 (Vi.Node.mk 0 0 [] [] [] [])))
                                        (Node.text (nth t9 t11 (Vi.Node.mk 0 0 [] [] [] []))) (Node.kids (nth t9 t11 (Vi.Node.mk 0 0 [] [] [] []))))] ++
                              Sp.linesR (Node.kids (nth t9 t11 (Vi.Node.mk 0 0 [] [] [] []))) (ahead ++ [32]),
                            ())
  else R out
def rectoref13_Lines.vc (R : List (List UInt8) → Prop) (nn : Nat) (l : List Vi.Node) (ahead : Str) : Prop :=
  Lp (fun v K => rectoref13_Lines.L0 nn R v.fst v.snd.fst v.snd.snd.fst v.snd.snd.snd.fst v.snd.snd.snd.snd.fst K) (ahead, l, (↑l.length : Int), 0, [], ())

def rectoref08_Count.L0 (nn : Nat) (R : Int → Prop) (k : Int) (t6 : List Vi.Node) (t7 : Int) (t8 : Int) (K0 : Int × List Vi.Node × Int × Int × Unit → Prop) : Prop :=
  bif decide (t8 < t7) then
    Ix t8 t6.length ∧
      Rg IntKind.i64 (k + 1) ∧
        (Sp.prOk (Node.kids (nth t6 t8 (Vi.Node.mk 0 0 [] [] [] []))) ∧ Sp.mCt (Node.kids (nth t6 t8 (Vi.Node.mk 0 0 [] [] [] []))) < nn) ∧
          Rg IntKind.i64 (k + 1 + Sp.countP (Node.kids (nth t6 t8 (Vi.Node.mk 0 0 [] [] [] [])))) ∧
            Rg IntKind.i64 (t8 + 1) ∧ K0 (k + 1 + Sp.countP (Node.kids (nth t6 t8 (Vi.Node.mk 0 0 [] [] [] []))), t6, t7, t8 + 1, ())
  else R k
def rectoref08_Count.vc (R : Int → Prop) (nn : Nat) (l : List Vi.Node) : Prop :=
  Lp (fun v K => rectoref08_Count.L0 nn R v.fst v.snd.fst v.snd.snd.fst v.snd.snd.snd.fst K) (0, l, (↑l.length : Int), 0, ())

def rectolaw13_large.vc (R : Bool → Prop) (l : List Vi.Node) : Prop :=
  Sp.lg.pre l 1 800 ∧ R (Sp.lg l 1 800).fst

def rectolaw13_para.vc (R : Bool → Prop) : Prop :=
  Sp.prOk [Vi.Node.mk 1 0 [112] [] [] [Vi.Node.mk 2 0 [] [] [97, 60] []]] ∧
    Sp.prOk [Vi.Node.mk 1 0 [112] [] [] [Vi.Node.mk 2 0 [] [] [97, 60] []]] ∧
      Ix 0 1 ∧
        Sp.openP.pre (nth [Vi.Node.mk 1 0 [112] [] [] [Vi.Node.mk 2 0 [] [] [97, 60] []]] 0 (Vi.Node.mk 0 0 [] [] [] [])) ∧
          (Sp.prOk [Vi.Node.mk 1 0 [112] [] [] [Vi.Node.mk 2 0 [] [] [97, 60] []]] ∧ Nat.le 4 900000) ∧
            Sp.eqL.pre (Sp.linesP [Vi.Node.mk 1 0 [112] [] [] [Vi.Node.mk 2 0 [] [] [97, 60] []]]) [[60, 112, 62], [32, 97, 60]] ∧ R true

def rectolaw13_PrintTexts.vc (R : Bool → Prop) (l : List Vi.Node) (n : Vi.Node) : Prop :=
  bif Sp.large8 l then R Sp.tt
  else
    bif Sp.large8 [Vi.Node.mk n.kind n.space n.name n.attrs n.text n.kids] then R Sp.tt
    else
      Sp.prOk l ∧
        Sp.prOk l ∧
          bif decide (Sp.textN l = Sp.textN l) then
            Sp.prOk l ∧
              bif decide (Sp.sizeN' l = (↑(List.length (Sp.textN l)) : Int)) then
                Sp.openP.pre (Vi.Node.mk n.kind n.space n.name n.attrs n.text n.kids) ∧
                  Sp.openP.pre (Vi.Node.mk n.kind n.space n.name n.attrs n.text n.kids) ∧
                    bif decide (Sp.openP (Vi.Node.mk n.kind n.space n.name n.attrs n.text n.kids) = Sp.openP (Vi.Node.mk n.kind n.space n.name n.attrs n.text n.kids)) then R Sp.tt
                    else R false
              else R false
          else R false

def rectolaw13_PrintLines.vc (R : Bool → Prop) (l : List Vi.Node) : Prop :=
  bif Sp.large8 l then R Sp.tt
  else
    (Sp.prOk l ∧ Sp.szL l ≤ 900000) ∧
      Sp.linesR.pre l [] ∧
        Sp.eqL.pre (Sp.linesP l) (Sp.linesR l []) ∧
          bif Sp.eqL (Sp.linesP l) (Sp.linesR l []) then (Sp.prOk l ∧ Sp.szL l ≤ 900000) ∧ Sp.prOk l ∧ bif decide ((↑(Sp.linesP l).length : Int) = Sp.countP l) then R Sp.tt else R false
          else R false

def rectolaw13_PrintJoins.vc (R : Bool → Prop) (a : List Vi.Node) (b : List Vi.Node) : Prop :=
  bif Sp.large8 a then R Sp.tt
  else
    bif Sp.large8 b then R Sp.tt
    else
      Gr 0 a.length 96 ∧
        Gr a.length b.length 96 ∧
          Sp.prOk (a ++ b) ∧
            Sp.prOk a ∧
              Sp.prOk b ∧
                (↑(List.length (Sp.textN a)) : Int) + (↑(List.length (Sp.textN b)) : Int) ≤ 9223372036854775807 ∧
                  bif decide (Sp.textN (a ++ b) = Sp.textN a ++ Sp.textN b) then
                    Sp.prOk (a ++ b) ∧
                      Sp.prOk a ∧ Sp.prOk b ∧ Rg IntKind.i64 (Sp.sizeN' a + Sp.sizeN' b) ∧ bif decide (Sp.sizeN' (a ++ b) = Sp.sizeN' a + Sp.sizeN' b) then R Sp.tt else R false
                  else R false

def rectolaw13_PrintVoid.vc (R : Bool → Prop) (space : Int) (name : Str) (kids : List Vi.Node) : Prop :=
  bif Sp.large8 kids then R Sp.tt
  else
    bif decide (100 < (↑(List.length name) : Int)) then R Sp.tt
    else
      Sp.prOk [Vi.Node.mk 1 space name [] [] kids] ∧
        bif decide (space = 0) then
          bif decide (name = [98, 114]) then
            (↑1 : Int) + (↑(List.length name) : Int) ≤ 9223372036854775807 ∧
              (↑(60 :: name).length : Int) + (↑1 : Int) ≤ 9223372036854775807 ∧ bif decide (Sp.textN [Vi.Node.mk 1 space name [] [] kids] = 60 :: name ++ [62]) then R Sp.tt else R false
          else
            bif decide (name = [104, 114]) then
              (↑1 : Int) + (↑(List.length name) : Int) ≤ 9223372036854775807 ∧
                (↑(60 :: name).length : Int) + (↑1 : Int) ≤ 9223372036854775807 ∧ bif decide (Sp.textN [Vi.Node.mk 1 space name [] [] kids] = 60 :: name ++ [62]) then R Sp.tt else R false
            else
              bif decide (name = [105, 109, 103]) then
                (↑1 : Int) + (↑(List.length name) : Int) ≤ 9223372036854775807 ∧
                  (↑(60 :: name).length : Int) + (↑1 : Int) ≤ 9223372036854775807 ∧ bif decide (Sp.textN [Vi.Node.mk 1 space name [] [] kids] = 60 :: name ++ [62]) then R Sp.tt else R false
              else
                bif decide (name = [105, 110, 112, 117, 116]) then
                  (↑1 : Int) + (↑(List.length name) : Int) ≤ 9223372036854775807 ∧
                    (↑(60 :: name).length : Int) + (↑1 : Int) ≤ 9223372036854775807 ∧
                      bif decide (Sp.textN [Vi.Node.mk 1 space name [] [] kids] = 60 :: name ++ [62]) then R Sp.tt else R false
                else
                  bif decide (name = [119, 98, 114]) then
                    (↑1 : Int) + (↑(List.length name) : Int) ≤ 9223372036854775807 ∧
                      (↑(60 :: name).length : Int) + (↑1 : Int) ≤ 9223372036854775807 ∧
                        bif decide (Sp.textN [Vi.Node.mk 1 space name [] [] kids] = 60 :: name ++ [62]) then R Sp.tt else R false
                  else
                    (↑2 : Int) + (↑(List.length name) : Int) ≤ 9223372036854775807 ∧
                      (↑(60 :: 47 :: name).length : Int) + (↑1 : Int) ≤ 9223372036854775807 ∧
                        Rg IntKind.i64 ((↑(List.length (60 :: 47 :: name ++ [62])) : Int) + (↑(List.length name) : Int)) ∧
                          Rg IntKind.i64 ((↑(List.length (60 :: 47 :: name ++ [62])) : Int) + (↑(List.length name) : Int) + 2) ∧
                            bif
                                decide
                                  ((↑(List.length (60 :: 47 :: name ++ [62])) : Int) + (↑(List.length name) : Int) + 2 ≤
                                    (↑(List.length (Sp.textN [Vi.Node.mk 1 space name [] [] kids])) : Int)) then
                              Rg IntKind.i64 ((↑(List.length (Sp.textN [Vi.Node.mk 1 space name [] [] kids])) : Int) - (↑(List.length (60 :: 47 :: name ++ [62])) : Int)) ∧
                                Sb ((↑(List.length (Sp.textN [Vi.Node.mk 1 space name [] [] kids])) : Int) - (↑(List.length (60 :: 47 :: name ++ [62])) : Int))
                                    (↑(List.length (Sp.textN [Vi.Node.mk 1 space name [] [] kids])) : Int) (List.length (Sp.textN [Vi.Node.mk 1 space name [] [] kids])) ∧
                                  bif
                                      decide
                                        (sub (Sp.textN [Vi.Node.mk 1 space name [] [] kids])
                                            ((↑(List.length (Sp.textN [Vi.Node.mk 1 space name [] [] kids])) : Int) - (↑(List.length (60 :: 47 :: name ++ [62])) : Int))
                                            (↑(List.length (Sp.textN [Vi.Node.mk 1 space name [] [] kids])) : Int) =
                                          60 :: 47 :: name ++ [62]) then
                                    R Sp.tt
                                  else R false
                            else R false
        else
          (↑2 : Int) + (↑(List.length name) : Int) ≤ 9223372036854775807 ∧
            (↑(60 :: 47 :: name).length : Int) + (↑1 : Int) ≤ 9223372036854775807 ∧
              Rg IntKind.i64 ((↑(List.length (60 :: 47 :: name ++ [62])) : Int) + (↑(List.length name) : Int)) ∧
                Rg IntKind.i64 ((↑(List.length (60 :: 47 :: name ++ [62])) : Int) + (↑(List.length name) : Int) + 2) ∧
                  bif
                      decide
                        ((↑(List.length (60 :: 47 :: name ++ [62])) : Int) + (↑(List.length name) : Int) + 2 ≤ (↑(List.length (Sp.textN [Vi.Node.mk 1 space name [] [] kids])) : Int)) then
                    Rg IntKind.i64 ((↑(List.length (Sp.textN [Vi.Node.mk 1 space name [] [] kids])) : Int) - (↑(List.length (60 :: 47 :: name ++ [62])) : Int)) ∧
                      Sb ((↑(List.length (Sp.textN [Vi.Node.mk 1 space name [] [] kids])) : Int) - (↑(List.length (60 :: 47 :: name ++ [62])) : Int))
                          (↑(List.length (Sp.textN [Vi.Node.mk 1 space name [] [] kids])) : Int) (List.length (Sp.textN [Vi.Node.mk 1 space name [] [] kids])) ∧
                        bif
                            decide
                              (sub (Sp.textN [Vi.Node.mk 1 space name [] [] kids])
                                  ((↑(List.length (Sp.textN [Vi.Node.mk 1 space name [] [] kids])) : Int) - (↑(List.length (60 :: 47 :: name ++ [62])) : Int))
                                  (↑(List.length (Sp.textN [Vi.Node.mk 1 space name [] [] kids])) : Int) =
                                60 :: 47 :: name ++ [62]) then
                          R Sp.tt
                        else R false
                  else R false

