/- Conditions of functions. Written by a program of this session. -/
import Derived.Test.YtmciagbogdlcoaaDoorSpP
set_option linter.unnecessarySimpa false
set_option linter.unusedVariables false
set_option linter.unusedSectionVars false
set_option linter.unusedSimpArgs false
set_option autoImplicit false
set_option linter.unusedVariables false
open Go Vi

def rectoplain_Texts.L0 (R : Bool →
  Prop) (a : List (List UInt8)) (b : List (List UInt8)) (t7 : Int) (t8 : Int) (K0 : List (List UInt8) × List (List UInt8) × Int × Int × Unit → Prop) : Prop :=
  bif decide (t8 < t7) then
    bif decide ((↑b.length : Int) ≤ t8) then R false
    else Ix t8 a.length ∧ Ix t8 b.length ∧ bif !decide (nth a t8 [] = nth b t8 []) then R false else Rg IntKind.i64 (t8 + 1) ∧ K0 (a, b, t7, t8 + 1, ())
  else R (decide ((↑a.length : Int) = (↑b.length : Int)))
def rectoplain_Texts.vc (R : Bool → Prop) (a : List Str) (b : List Str) : Prop :=
  Lp (fun v K => rectoplain_Texts.L0 R v.fst v.snd.fst v.snd.snd.fst v.snd.snd.snd.fst K) (a, b, (↑a.length : Int), 0, ())

def tags_Group.vc (R : Int → Prop) (name : Str) : Prop :=
  bif decide (name = [104, 116, 109, 108]) then R 1 else
  bif decide (name = [104, 101, 97, 100]) then R 1 else
  bif decide (name = [98, 111, 100, 121]) then R 1 else
  bif decide (name = [102, 114, 97, 109, 101]) then R 1 else
  bif decide (name = [102, 114, 97, 109, 101, 115, 101, 116]) then R 1 else
  bif decide (name = [99, 97, 112, 116, 105, 111, 110]) then R 2 else
  bif decide (name = [116, 98, 111, 100, 121]) then R 2 else
  bif decide (name = [116, 104, 101, 97, 100]) then R 2 else
  bif decide (name = [116, 114]) then R 2 else
  bif decide (name = [116, 100]) then R 2 else
  bif decide (name = [116, 104]) then R 2 else
  bif decide (name = [116, 97, 98, 108, 101]) then R 3 else
  bif decide (name = [98, 108, 111, 99, 107, 113, 117, 111, 116, 101]) then R 4 else
  bif decide (name = [100, 105, 118]) then R 4 else
  bif decide (name = [111, 108]) then R 4 else
  bif decide (name = [115, 101, 99, 116, 105, 111, 110]) then R 4 else
  bif decide (name = [117, 108]) then R 4 else
  bif decide (name = [112]) then R 5 else
  bif decide (name = [104, 49]) then R 6 else
  bif decide (name = [104, 50]) then R 6 else
  bif decide (name = [104, 51]) then R 6 else
  bif decide (name = [112, 114, 101]) then R 7 else
  bif decide (name = [108, 105]) then R 8 else
  bif decide (name = [97]) then R 9 else
  bif decide (name = [98]) then R 10 else
  bif decide (name = [99, 111, 100, 101]) then R 10 else
  bif decide (name = [101, 109]) then R 10 else
  bif decide (name = [105]) then R 10 else
  bif decide (name = [115, 116, 114, 111, 110, 103]) then R 10 else
  bif decide (name = [117]) then R 10 else
  bif decide (name = [98, 114]) then R 11 else
  bif decide (name = [105, 109, 103]) then R 11 else
  bif decide (name = [105, 110, 112, 117, 116]) then R 11 else
  bif decide (name = [119, 98, 114]) then R 11 else
  bif decide (name = [104, 114]) then R 12 else
  bif decide (name = [116, 105, 116, 108, 101]) then R 13 else
  bif decide (name = [116, 101, 120, 116, 97, 114, 101, 97]) then R 14 else
  bif decide (name = [115, 99, 114, 105, 112, 116]) then R 15 else
  bif decide (name = [115, 116, 121, 108, 101]) then R 15 else
  bif decide (name = [120, 109, 112]) then R 16 else
  bif decide (name = [109, 97, 116, 104]) then R 17 else
  bif decide (name = [115, 118, 103]) then R 17 else R 0

def rectoref06_Name.L0 (R : Bool → Prop) (s : List UInt8) (i : Int) (K0 : List UInt8 × Int × Unit → Prop) : Prop :=
  bif decide (i < (↑s.length : Int)) then
    Ix i s.length ∧
      bif decide (97 ≤ (↑(nth s i 0).toNat : Int)) then
        Ix i s.length ∧
          Ix i s.length ∧
            bif decide (48 ≤ (↑(nth s i 0).toNat : Int)) then
              Ix i s.length ∧
                bif decide ((↑(nth s i 0).toNat : Int) ≤ 58) then
                  bif !decide ((↑(nth s i 0).toNat : Int) ≤ 122) then bif decide (i = 0) then R false else Rg IntKind.i64 (i + 1) ∧ K0 (s, i + 1, ())
                  else Rg IntKind.i64 (i + 1) ∧ K0 (s, i + 1, ())
                else
                  Ix i s.length ∧
                    bif !decide ((↑(nth s i 0).toNat : Int) ≤ 122) then
                      bif decide (i = 0) then R false else bif !decide ((↑(nth s i 0).toNat : Int) = 45) then R false else Rg IntKind.i64 (i + 1) ∧ K0 (s, i + 1, ())
                    else Rg IntKind.i64 (i + 1) ∧ K0 (s, i + 1, ())
            else
              Ix i s.length ∧
                bif !decide ((↑(nth s i 0).toNat : Int) ≤ 122) then
                  bif decide (i = 0) then R false else bif !decide ((↑(nth s i 0).toNat : Int) = 45) then R false else Rg IntKind.i64 (i + 1) ∧ K0 (s, i + 1, ())
                else Rg IntKind.i64 (i + 1) ∧ K0 (s, i + 1, ())
      else
        Ix i s.length ∧
          bif decide (48 ≤ (↑(nth s i 0).toNat : Int)) then
            Ix i s.length ∧
              bif decide ((↑(nth s i 0).toNat : Int) ≤ 58) then bif decide (i = 0) then R false else Rg IntKind.i64 (i + 1) ∧ K0 (s, i + 1, ())
              else Ix i s.length ∧ bif decide (i = 0) then R false else bif !decide ((↑(nth s i 0).toNat : Int) = 45) then R false else Rg IntKind.i64 (i + 1) ∧ K0 (s, i + 1, ())
          else Ix i s.length ∧ bif decide (i = 0) then R false else bif !decide ((↑(nth s i 0).toNat : Int) = 45) then R false else Rg IntKind.i64 (i + 1) ∧ K0 (s, i + 1, ())
  else bif decide (0 < (↑s.length : Int)) then R (decide ((↑s.length : Int) < 25)) else R false
def rectoref06_Name.vc (R : Bool → Prop) (s : Str) : Prop :=
  Lp (fun v K => rectoref06_Name.L0 R v.fst v.snd.fst K) (s, 0, ())

def rectoplain_Large.L1 (nn : Nat) (R : Bool →
  Int →
    Prop) (K0 : Int × List Vi.Node × Int × Int × Int × Unit →
  Prop) (depth : Int) (t18 : List
  Vi.Node) (t19 : Int) (t20 : Int) (t72 : List
  (List UInt8 ×
    List
      UInt8)) (t73 : Int) (t74 : Int) (room : Int) (n_Kind : Int) (n_Space : Int) (n_Name : List
  UInt8) (n_Attrs : List
  (List UInt8 ×
    List
      UInt8)) (n_Text : List
  UInt8) (n_Kids : List
  Vi.Node) (K1 : Int ×
    List Vi.Node × Int × Int × List (List UInt8 × List UInt8) × Int × Int × Int × Int × Int × List UInt8 × List (List UInt8 × List UInt8) × List UInt8 × List Vi.Node × Unit →
  Prop) : Prop :=
  bif decide (t74 < t73) then
    Ix t74 t72.length ∧
      bif decide (100 < (↑(List.length (nth t72 t74 ([], [])).fst) : Int)) then R true room
      else
        bif decide (2000 < (↑(List.length (nth t72 t74 ([], [])).snd) : Int)) then R true room
        else Rg IntKind.i64 (t74 + 1) ∧ K1 (depth, t18, t19, t20, t72, t73, t74 + 1, room, n_Kind, n_Space, n_Name, n_Attrs, n_Text, n_Kids, ())
  else
    Rg IntKind.i64 (depth + 1) ∧
      (Sp.lg.pre n_Kids (depth + 1) room ∧ Sp.mLg n_Kids (depth + 1) room < nn) ∧
        bif (Sp.lg n_Kids (depth + 1) room).fst then R true (Sp.lg n_Kids (depth + 1) room).snd
        else Rg IntKind.i64 (t20 + 1) ∧ K0 (depth, t18, t19, t20 + 1, (Sp.lg n_Kids (depth + 1) room).snd, ())
def rectoplain_Large.L0 (nn : Nat) (R : Bool →
  Int → Prop) (depth : Int) (t18 : List Vi.Node) (t19 : Int) (t20 : Int) (room : Int) (K0 : Int × List Vi.Node × Int × Int × Int × Unit → Prop) : Prop :=
  bif decide (t20 < t19) then
    Ix t20 t18.length ∧
      Rg IntKind.i64 (room - 1) ∧
        bif decide (room - 1 < 0) then R true (room - 1)
        else
          bif decide (40 < (↑(Node.attrs (nth t18 t20 (Vi.Node.mk 0 0 [] [] [] []))).length : Int)) then R true (room - 1)
          else
            bif decide (5000 < (↑(List.length (Node.text (nth t18 t20 (Vi.Node.mk 0 0 [] [] [] [])))) : Int)) then R true (room - 1)
            else
              bif decide (100 < (↑(List.length (Node.name (nth t18 t20 (Vi.Node.mk 0 0 [] [] [] [])))) : Int)) then R true (room - 1)
              else
                Dv (↑(List.length (Node.text (nth t18 t20 (Vi.Node.mk 0 0 [] [] [] [])))) : Int) 16 ∧
                  Rg IntKind.i64 (room - 1 - (↑(List.length (Node.text (nth t18 t20 (Vi.Node.mk 0 0 [] [] [] [])))) : Int) / 16) ∧
                    Rg IntKind.i64
                        (room - 1 - (↑(List.length (Node.text (nth t18 t20 (Vi.Node.mk 0 0 [] [] [] [])))) : Int) / 16 -
                          (↑(Node.attrs (nth t18 t20 (Vi.Node.mk 0 0 [] [] [] []))).length : Int)) ∧
                      Lp
                        (fun v K =>
                          rectoplain_Large.L1 nn R K0 v.fst v.snd.fst v.snd.snd.fst v.snd.snd.snd.fst v.snd.snd.snd.snd.fst v.snd.snd.snd.snd.snd.fst v.snd.snd.snd.snd.snd.snd.fst
                            v.snd.snd.snd.snd.snd.snd.snd.fst v.snd.snd.snd.snd.snd.snd.snd.snd.fst v.snd.snd.snd.snd.snd.snd.snd.snd.snd.fst v.snd.snd.snd.snd.snd.snd.snd.snd.snd.snd.fst
                            v.snd.snd.snd.snd.snd.snd.snd.snd.snd.snd.snd.fst v.snd.snd.snd.snd.snd.snd.snd.snd.snd.snd.snd.snd.fst v.snd.snd.snd.snd.snd.snd.snd.snd.snd.snd.snd.snd.snd.fst
                            K)
                        (depth, t18, t19, t20, Node.attrs (nth t18 t20 (Vi.Node.mk 0 0 [] [] [] [])), (↑(Node.attrs (nth t18 t20 (Vi.Node.mk 0 0 [] [] [] []))).length : Int), 0,
                          room - 1 - (↑(List.length (Node.text (nth t18 t20 (Vi.Node.mk 0 0 [] [] [] [])))) : Int) / 16 -
                            (↑(Node.attrs (nth t18 t20 (Vi.Node.mk 0 0 [] [] [] []))).length : Int),
                          Vi.Node.kind (nth t18 t20 (Vi.Node.mk 0 0 [] [] [] [])), Node.space (nth t18 t20 (Vi.Node.mk 0 0 [] [] [] [])),
                          Node.name (nth t18 t20 (Vi.Node.mk 0 0 [] [] [] [])), Node.attrs (nth t18 t20 (Vi.Node.mk 0 0 [] [] [] [])), Node.text (nth t18 t20 (Vi.Node.mk 0 0 [] [] [] [])),
                          Node.kids (nth t18 t20 (Vi.Node.mk 0 0 [] [] [] [])), ())
  else R (decide (room < 0)) room
def rectoplain_Large.vc (R : Bool → Int → Prop) (nn : Nat) (l : List Vi.Node) (depth : Int) (room : Int) : Prop :=
  bif decide (60 < depth) then R true room
  else
    bif decide (500 < (↑l.length : Int)) then R true room
    else Lp (fun v K => rectoplain_Large.L0 nn R v.fst v.snd.fst v.snd.snd.fst v.snd.snd.snd.fst v.snd.snd.snd.snd.fst K) (depth, l, (↑l.length : Int), 0, room, ())
