/- Conditions of functions. Written by a program of this session. -/
import Derived.Test.YtmciagbogdlcoaaDoorSpP
set_option linter.unnecessarySimpa false
set_option linter.unusedVariables false
set_option linter.unusedSectionVars false
set_option linter.unusedSimpArgs false
set_option autoImplicit false
set_option linter.unusedVariables false
open Go Vi

def rectoplain_Texts.L0 (R : Bool →
  Prop) (a : List (List UInt8)) (b : List (List UInt8)) (t7 : Int) (t8 : Int) (K0 : List (List UInt8) × List (List UInt8) × Int × Int × Unit → Prop) : Prop :=
  bif decide (t8 < t7) then
    bif decide ((↑b.length : Int) ≤ t8) then R false
    else Ix t8 a.length ∧ Ix t8 b.length ∧ bif !decide (nth a t8 [] = nth b t8 []) then R false else Rg IntKind.i64 (t8 + 1) ∧ K0 (a, b, t7, t8 + 1, ())
  else R (decide ((↑a.length : Int) = (↑b.length : Int)))
def rectoplain_Texts.vc (R : Bool → Prop) (a : List Str) (b : List Str) : Prop :=
  Lp (fun v K => rectoplain_Texts.L0 R v.fst v.snd.fst v.snd.snd.fst v.snd.snd.snd.fst K) (a, b, (↑a.length : Int), 0, ())

def rectoplain_Large.L1 (nn : Nat) (R : Bool →
  Int →
    Prop) (K0 : Int × List Vi.Node × Int × Int × Int × Unit →
  Prop) (depth : Int) (t18 : List
  Vi.Node) (t19 : Int) (t20 : Int) (t72 : List
  (List UInt8 ×
    List
      UInt8)) (t73 : Int) (t74 : Int) (room : Int) (n_Kind : Int) (n_Space : Int) (n_Name : List
  UInt8) (n_Attrs : List
  (List UInt8 ×
    List
      UInt8)) (n_Text : List
  UInt8) (n_Kids : List
  Vi.Node) (K1 : Int ×
    List Vi.Node × Int × Int × List (List UInt8 × List UInt8) × Int × Int × Int × Int × Int × List UInt8 × List (List UInt8 × List UInt8) × List UInt8 × List Vi.Node × Unit →
  Prop) : Prop :=
  bif decide (t74 < t73) then
    Ix t74 t72.length ∧
      bif decide (100 < (↑(List.length (nth t72 t74 ([], [])).fst) : Int)) then R true room
      else
        bif decide (2000 < (↑(List.length (nth t72 t74 ([], [])).snd) : Int)) then R true room
        else Rg IntKind.i64 (t74 + 1) ∧ K1 (depth, t18, t19, t20, t72, t73, t74 + 1, room, n_Kind, n_Space, n_Name, n_Attrs, n_Text, n_Kids, ())
  else
    Rg IntKind.i64 (depth + 1) ∧
      (Sp.lg.pre n_Kids (depth + 1) room ∧ Sp.mLg n_Kids (depth + 1) room < nn) ∧
        bif (Sp.lg n_Kids (depth + 1) room).fst then R true (Sp.lg n_Kids (depth + 1) room).snd
        else Rg IntKind.i64 (t20 + 1) ∧ K0 (depth, t18, t19, t20 + 1, (Sp.lg n_Kids (depth + 1) room).snd, ())
def rectoplain_Large.L0 (nn : Nat) (R : Bool →
  Int → Prop) (depth : Int) (t18 : List Vi.Node) (t19 : Int) (t20 : Int) (room : Int) (K0 : Int × List Vi.Node × Int × Int × Int × Unit → Prop) : Prop :=
  bif decide (t20 < t19) then
    Ix t20 t18.length ∧
      Rg IntKind.i64 (room - 1) ∧
        bif decide (room - 1 < 0) then R true (room - 1)
        else
          bif decide (40 < (↑(Node.attrs (nth t18 t20 (Vi.Node.mk 0 0 [] [] [] []))).length : Int)) then R true (room - 1)
          else
            bif decide (5000 < (↑(List.length (Node.text (nth t18 t20 (Vi.Node.mk 0 0 [] [] [] [])))) : Int)) then R true (room - 1)
            else
              bif decide (100 < (↑(List.length (Node.name (nth t18 t20 (Vi.Node.mk 0 0 [] [] [] [])))) : Int)) then R true (room - 1)
              else
                Dv (↑(List.length (Node.text (nth t18 t20 (Vi.Node.mk 0 0 [] [] [] [])))) : Int) 16 ∧
                  Rg IntKind.i64 (room - 1 - (↑(List.length (Node.text (nth t18 t20 (Vi.Node.mk 0 0 [] [] [] [])))) : Int) / 16) ∧
                    Rg IntKind.i64
                        (room - 1 - (↑(List.length (Node.text (nth t18 t20 (Vi.Node.mk 0 0 [] [] [] [])))) : Int) / 16 -
                          (↑(Node.attrs (nth t18 t20 (Vi.Node.mk 0 0 [] [] [] []))).length : Int)) ∧
                      Lp
                        (fun v K =>
                          rectoplain_Large.L1 nn R K0 v.fst v.snd.fst v.snd.snd.fst v.snd.snd.snd.fst v.snd.snd.snd.snd.fst v.snd.snd.snd.snd.snd.fst v.snd.snd.snd.snd.snd.snd.fst
                            v.snd.snd.snd.snd.snd.snd.snd.fst v.snd.snd.snd.snd.snd.snd.snd.snd.fst v.snd.snd.snd.snd.snd.snd.snd.snd.snd.fst v.snd.snd.snd.snd.snd.snd.snd.snd.snd.snd.fst
                            v.snd.snd.snd.snd.snd.snd.snd.snd.snd.snd.snd.fst v.snd.snd.snd.snd.snd.snd.snd.snd.snd.snd.snd.snd.fst v.snd.snd.snd.snd.snd.snd.snd.snd.snd.snd.snd.snd.snd.fst
                            K)
                        (depth, t18, t19, t20, Node.attrs (nth t18 t20 (Vi.Node.mk 0 0 [] [] [] [])), (↑(Node.attrs (nth t18 t20 (Vi.Node.mk 0 0 [] [] [] []))).length : Int), 0,
                          room - 1 - (↑(List.length (Node.text (nth t18 t20 (Vi.Node.mk 0 0 [] [] [] [])))) : Int) / 16 -
                            (↑(Node.attrs (nth t18 t20 (Vi.Node.mk 0 0 [] [] [] []))).length : Int),
                          Vi.Node.kind (nth t18 t20 (Vi.Node.mk 0 0 [] [] [] [])), Node.space (nth t18 t20 (Vi.Node.mk 0 0 [] [] [] [])),
                          Node.name (nth t18 t20 (Vi.Node.mk 0 0 [] [] [] [])), Node.attrs (nth t18 t20 (Vi.Node.mk 0 0 [] [] [] [])), Node.text (nth t18 t20 (Vi.Node.mk 0 0 [] [] [] [])),
                          Node.kids (nth t18 t20 (Vi.Node.mk 0 0 [] [] [] [])), ())
  else R (decide (room < 0)) room
def rectoplain_Large.vc (R : Bool → Int → Prop) (nn : Nat) (l : List Vi.Node) (depth : Int) (room : Int) : Prop :=
  bif decide (60 < depth) then R true room
  else
    bif decide (500 < (↑l.length : Int)) then R true room
    else Lp (fun v K => rectoplain_Large.L0 nn R v.fst v.snd.fst v.snd.snd.fst v.snd.snd.snd.fst v.snd.snd.snd.snd.fst K) (depth, l, (↑l.length : Int), 0, room, ())
