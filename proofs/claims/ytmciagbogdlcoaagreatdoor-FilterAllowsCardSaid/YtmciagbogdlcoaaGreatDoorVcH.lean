/- Conditions of functions. Written by a program of this session. -/
import Derived.Test.YtmciagbogdlcoaaGreatDoorSpH
set_option linter.unnecessarySimpa false
set_option linter.unusedVariables false
set_option linter.unusedSectionVars false
set_option linter.unusedSimpArgs false
set_option autoImplicit false
set_option linter.unusedVariables false
open Go Vi

def utf_is.vc (R : Bool → Prop) (c : Int) : Prop :=
  bif decide (0 ≤ c) then bif decide (c < 1114112) then bif decide (c < 55296) then R true else R (decide (57343 < c)) else R false else R false

def utf_size.L0 (R : Int → Prop) (c : Int) (n : Int) (K0 : Int × Int × Unit → Prop) : Prop :=
  Ix n 5 ∧ bif decide (c < (nth utfRows n (0, 0)).snd) then Rg IntKind.i64 (n - 1) ∧ K0 (c, n - 1, ()) else R n
def utf_size.vc (R : Int → Prop) (c : Int) : Prop :=
  Lp (fun v K => utf_size.L0 R v.fst v.snd.fst K) (c, 4, ())

def utf_Bytes.L0 (R : List UInt8 → Prop) (c : Int) (n : Int) (i : Int) (out : List Int) (K0 : Int × Int × Int × List Int × Unit → Prop) : Prop :=
  bif decide (0 < i) then
    Ix i out.length ∧
      Shf 6 IntKind.i64 ∧ Rg IntKind.i64 (i - 1) ∧ K0 (c / 2 ^ 6, n, i - 1, out.set i.toNat (IntKind.u8.wrap (bitsO BinOp.or IntKind.i64 128 (bitsO BinOp.and IntKind.i64 c 63))), ())
  else Ix n 5 ∧ Ix 0 out.length ∧ R (bytesOf (out.set 0 (IntKind.u8.wrap (bitsO BinOp.or IntKind.i64 (nth utfRows n (0, 0)).fst c))))
def utf_Bytes.L1 (R : List UInt8 → Prop) (x10 : Int) (x11 : Int) (x12 : Int) (x13 : List Int) (K1 : Int × Int × Int × List Int × Unit → Prop) : Prop :=
  bif decide (0 < x12) then
    Ix x12 x13.length ∧
      Shf 6 IntKind.i64 ∧
        Rg IntKind.i64 (x12 - 1) ∧ K1 (x10 / 2 ^ 6, x11, x12 - 1, x13.set x12.toNat (IntKind.u8.wrap (bitsO BinOp.or IntKind.i64 128 (bitsO BinOp.and IntKind.i64 x10 63))), ())
  else Ix x11 5 ∧ Ix 0 x13.length ∧ R (bytesOf (x13.set 0 (IntKind.u8.wrap (bitsO BinOp.or IntKind.i64 (nth utfRows x11 (0, 0)).fst x10))))
def utf_Bytes.vc (R : List UInt8 → Prop) (c : Int) : Prop :=
  bif !Sp.isC c then
    Sp.sizeC.pre 65533 ∧
      Mk (Sp.sizeC 65533) (Sp.sizeC 65533) 1 ∧
        Rg IntKind.i64 (Sp.sizeC 65533 - 1) ∧
          Lp (fun v K => utf_Bytes.L0 R v.fst v.snd.fst v.snd.snd.fst v.snd.snd.snd.fst K) (65533, Sp.sizeC 65533, Sp.sizeC 65533 - 1, rep (Sp.sizeC 65533) 0, ())
  else
    Sp.sizeC.pre c ∧
      Mk (Sp.sizeC c) (Sp.sizeC c) 1 ∧
        Rg IntKind.i64 (Sp.sizeC c - 1) ∧ Lp (fun v K => utf_Bytes.L1 R v.fst v.snd.fst v.snd.snd.fst v.snd.snd.snd.fst K) (c, Sp.sizeC c, Sp.sizeC c - 1, rep (Sp.sizeC c) 0, ())

def strings_Builder_WriteString.vc (R : Int → List Int → Prop) (s : Str) (x : List Int) : Prop :=
  Gr x.length (List.map (fun b => (↑b.toNat : Int)) s).length 1 ∧ R (↑(List.length s) : Int) (x ++ List.map (fun b => (↑b.toNat : Int)) s)

def tags_Void.vc (R : Bool → Prop) (name : Str) : Prop :=
  bif decide (Sp.groupN name = 11) then R true else R (decide (Sp.groupN name = 12))

def rectoref08_Count.L0 (nn : Nat) (R : Int → Prop) (k : Int) (t6 : List Vi.Node) (t7 : Int) (t8 : Int) (K0 : Int × List Vi.Node × Int × Int × Unit → Prop) : Prop :=
  bif decide (t8 < t7) then
    Ix t8 t6.length ∧
      Rg IntKind.i64 (k + 1) ∧
        (Sp.prOk (Node.kids (nth t6 t8 (Vi.Node.mk 0 0 [] [] [] []))) ∧ Sp.mCt (Node.kids (nth t6 t8 (Vi.Node.mk 0 0 [] [] [] []))) < nn) ∧
          Rg IntKind.i64 (k + 1 + Sp.countP (Node.kids (nth t6 t8 (Vi.Node.mk 0 0 [] [] [] [])))) ∧
            Rg IntKind.i64 (t8 + 1) ∧ K0 (k + 1 + Sp.countP (Node.kids (nth t6 t8 (Vi.Node.mk 0 0 [] [] [] []))), t6, t7, t8 + 1, ())
  else R k
def rectoref08_Count.vc (R : Int → Prop) (nn : Nat) (l : List Vi.Node) : Prop :=
  Lp (fun v K => rectoref08_Count.L0 nn R v.fst v.snd.fst v.snd.snd.fst v.snd.snd.snd.fst K) (0, l, (↑l.length : Int), 0, ())
