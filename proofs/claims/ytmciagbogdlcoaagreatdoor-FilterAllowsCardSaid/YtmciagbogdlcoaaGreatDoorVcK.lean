/- Conditions of functions. Written by a program of this session. -/
import Derived.Test.YtmciagbogdlcoaaGreatDoorSpK
set_option linter.unnecessarySimpa false
set_option linter.unusedVariables false
set_option linter.unusedSectionVars false
set_option linter.unusedSimpArgs false
set_option autoImplicit false
set_option linter.unusedVariables false
open Go Vi

def rectoplain_Attrs.L0 (R : Bool →
  Prop) (a : List
  (List UInt8 ×
    List UInt8)) (b : List (List UInt8 × List UInt8)) (t7 : Int) (t8 : Int) (K0 : List (List UInt8 × List UInt8) × List (List UInt8 × List UInt8) × Int × Int × Unit → Prop) : Prop :=
  bif decide (t8 < t7) then
    bif decide ((↑b.length : Int) ≤ t8) then R false
    else
      Ix t8 a.length ∧
        Ix t8 b.length ∧
          bif !(eqS (nth a t8 ([], [])).fst (nth b t8 ([], [])).fst && eqS (nth a t8 ([], [])).snd (nth b t8 ([], [])).snd) then R false
          else Rg IntKind.i64 (t8 + 1) ∧ K0 (a, b, t7, t8 + 1, ())
  else R (decide ((↑a.length : Int) = (↑b.length : Int)))
def rectoplain_Attrs.vc (R : Bool → Prop) (a : List (Str × Str)) (b : List (Str × Str)) : Prop :=
  Lp (fun v K => rectoplain_Attrs.L0 R v.fst v.snd.fst v.snd.snd.fst v.snd.snd.snd.fst K) (a, b, (↑a.length : Int), 0, ())

def rectoplain_Node.vc (R : Bool → Prop) (nn : Nat) (a : Vi.Node) (b : Vi.Node) : Prop :=
  bif decide (a.kind = b.kind) then
    bif decide (a.space = b.space) then
      bif decide (a.name = b.name) then
        bif decide (a.text = b.text) then
          Sp.eqAt.pre a.attrs b.attrs ∧ bif Sp.eqAt a.attrs b.attrs then (Sp.eqNs.pre a.kids b.kids ∧ Sp.mNs a.kids b.kids < nn) ∧ R (Sp.eqNs a.kids b.kids) else R false
        else R false
      else R false
    else R false
  else R false

def rectoplain_Nodes.L0 (nn : Nat) (R : Bool → Prop) (a : List Vi.Node) (b : List Vi.Node) (t7 : Int) (t8 : Int) (K0 : List Vi.Node × List Vi.Node × Int × Int × Unit → Prop) : Prop :=
  bif decide (t8 < t7) then
    bif decide ((↑b.length : Int) ≤ t8) then R false
    else
      Ix t8 a.length ∧
        Ix t8 b.length ∧
          (Sp.eqNd.pre (nth a t8 (Vi.Node.mk 0 0 [] [] [] [])) (nth b t8 (Vi.Node.mk 0 0 [] [] [] [])) ∧
              Sp.mNd (nth a t8 (Vi.Node.mk 0 0 [] [] [] [])) (nth b t8 (Vi.Node.mk 0 0 [] [] [] [])) < nn) ∧
            bif !Sp.eqNd (nth a t8 (Vi.Node.mk 0 0 [] [] [] [])) (nth b t8 (Vi.Node.mk 0 0 [] [] [] [])) then R false else Rg IntKind.i64 (t8 + 1) ∧ K0 (a, b, t7, t8 + 1, ())
  else R (decide ((↑a.length : Int) = (↑b.length : Int)))
def rectoplain_Nodes.vc (R : Bool → Prop) (nn : Nat) (a : List Vi.Node) (b : List Vi.Node) : Prop :=
  Lp (fun v K => rectoplain_Nodes.L0 nn R v.fst v.snd.fst v.snd.snd.fst v.snd.snd.snd.fst K) (a, b, (↑a.length : Int), 0, ())

def rectoref02_Is.vc (R : Bool → Prop) (c : Int) : Prop :=
  bif decide (0 ≤ c) then bif decide (c ≤ 1114111) then bif decide (55296 ≤ c) then R !decide (c ≤ 57343) else R true else R false else R false

def rectoref02_low.vc (R : Int → Prop) (s : Str) (i : Int) : Prop :=
  bif decide ((↑(List.length s) : Int) ≤ i) then R (-1)
  else
    Ix i (List.length s) ∧
      bif decide ((↑(nth s i 0).toNat : Int) < 128) then R (-1)
      else
        Ix i (List.length s) ∧
          bif decide (191 < (↑(nth s i 0).toNat : Int)) then R (-1) else Ix i (List.length s) ∧ Rg IntKind.i64 ((↑(nth s i 0).toNat : Int) - 128) ∧ R ((↑(nth s i 0).toNat : Int) - 128)

def rectoref02_Bytes.vc (R : List UInt8 → Prop) (nn : Nat) (c : Int) : Prop :=
  bif !Sp.isC c then (Sp.any 65533 ∧ 0 < nn) ∧ R (Sp.bytesC 65533)
  else
    bif decide (c < 128) then R (bytesOf [IntKind.u8.wrap c])
    else
      bif decide (c < 2048) then
        Dv c 64 ∧ Rg IntKind.i64 (192 + c / 64) ∧ Dv c 64 ∧ Rg IntKind.i64 (128 + c % 64) ∧ R (bytesOf [IntKind.u8.wrap (192 + c / 64), IntKind.u8.wrap (128 + c % 64)])
      else
        bif decide (c < 65536) then
          Dv c 4096 ∧
            Rg IntKind.i64 (224 + c / 4096) ∧
              Dv c 64 ∧
                Dv (c / 64) 64 ∧
                  Rg IntKind.i64 (128 + c / 64 % 64) ∧
                    Dv c 64 ∧ Rg IntKind.i64 (128 + c % 64) ∧ R (bytesOf [IntKind.u8.wrap (224 + c / 4096), IntKind.u8.wrap (128 + c / 64 % 64), IntKind.u8.wrap (128 + c % 64)])
        else
          Dv c 262144 ∧
            Rg IntKind.i64 (240 + c / 262144) ∧
              Dv c 4096 ∧
                Dv (c / 4096) 64 ∧
                  Rg IntKind.i64 (128 + c / 4096 % 64) ∧
                    Dv c 64 ∧
                      Dv (c / 64) 64 ∧
                        Rg IntKind.i64 (128 + c / 64 % 64) ∧
                          Dv c 64 ∧
                            Rg IntKind.i64 (128 + c % 64) ∧
                              R (bytesOf [IntKind.u8.wrap (240 + c / 262144), IntKind.u8.wrap (128 + c / 4096 % 64), IntKind.u8.wrap (128 + c / 64 % 64), IntKind.u8.wrap (128 + c % 64)])

def rectoref02_At.vc (R : Int × Int × Bool → Prop) (s : Str) (i : Int) : Prop :=
  Ix i (List.length s) ∧
    Rg IntKind.i64 (i + 1) ∧
      Sp.lowS.pre s (i + 1) ∧
        Rg IntKind.i64 (i + 2) ∧
          Sp.lowS.pre s (i + 2) ∧
            Rg IntKind.i64 (i + 3) ∧
              Sp.lowS.pre s (i + 3) ∧
                bif decide ((↑(nth s i 0).toNat : Int) < 128) then
                  bif !Sp.isC (↑(nth s i 0).toNat : Int) then R (65533, 1, false)
                  else
                    Sp.any (↑(nth s i 0).toNat : Int) ∧
                      Rg IntKind.i64 ((↑(List.length s) : Int) - i) ∧
                        bif decide ((↑(List.length s) : Int) - i < (↑(List.length (Sp.bytesC (↑(nth s i 0).toNat : Int))) : Int)) then R (65533, 1, false)
                        else
                          Rg IntKind.i64 (i + (↑(List.length (Sp.bytesC (↑(nth s i 0).toNat : Int))) : Int)) ∧
                            Sb i (i + (↑(List.length (Sp.bytesC (↑(nth s i 0).toNat : Int))) : Int)) (List.length s) ∧
                              bif !decide (sub s i (i + (↑(List.length (Sp.bytesC (↑(nth s i 0).toNat : Int))) : Int)) = Sp.bytesC (↑(nth s i 0).toNat : Int)) then R (65533, 1, false)
                              else R ((↑(nth s i 0).toNat : Int), (↑(List.length (Sp.bytesC (↑(nth s i 0).toNat : Int))) : Int), true)
                else
                  bif decide (192 ≤ (↑(nth s i 0).toNat : Int)) then
                    bif decide ((↑(nth s i 0).toNat : Int) < 224) then
                      bif decide (0 ≤ Sp.lowS s (i + 1)) then
                        Rg IntKind.i64 ((↑(nth s i 0).toNat : Int) - 192) ∧
                          Rg IntKind.i64 (64 * ((↑(nth s i 0).toNat : Int) - 192)) ∧
                            Rg IntKind.i64 (64 * ((↑(nth s i 0).toNat : Int) - 192) + Sp.lowS s (i + 1)) ∧
                              bif !Sp.isC (64 * ((↑(nth s i 0).toNat : Int) - 192) + Sp.lowS s (i + 1)) then R (65533, 1, false)
                              else
                                Sp.any (64 * ((↑(nth s i 0).toNat : Int) - 192) + Sp.lowS s (i + 1)) ∧
                                  Rg IntKind.i64 ((↑(List.length s) : Int) - i) ∧
                                    bif decide ((↑(List.length s) : Int) - i < (↑(List.length (Sp.bytesC (64 * ((↑(nth s i 0).toNat : Int) - 192) + Sp.lowS s (i + 1)))) : Int)) then
                                      R (65533, 1, false)
                                    else
                                      Rg IntKind.i64 (i + (↑(List.length (Sp.bytesC (64 * ((↑(nth s i 0).toNat : Int) - 192) + Sp.lowS s (i + 1)))) : Int)) ∧
                                        Sb i (i + (↑(List.length (Sp.bytesC (64 * ((↑(nth s i 0).toNat : Int) - 192) + Sp.lowS s (i + 1)))) : Int)) (List.length s) ∧
                                          bif
                                              !decide
                                                  (sub s i (i + (↑(List.length (Sp.bytesC (64 * ((↑(nth s i 0).toNat : Int) - 192) + Sp.lowS s (i + 1)))) : Int)) =
                                                    Sp.bytesC (64 * ((↑(nth s i 0).toNat : Int) - 192) + Sp.lowS s (i + 1))) then
                                            R (65533, 1, false)
                                          else
                                            R
                                              (64 * ((↑(nth s i 0).toNat : Int) - 192) + Sp.lowS s (i + 1),
                                                (↑(List.length (Sp.bytesC (64 * ((↑(nth s i 0).toNat : Int) - 192) + Sp.lowS s (i + 1)))) : Int), true)
                      else
                        bif decide (224 ≤ (↑(nth s i 0).toNat : Int)) then
                          bif decide ((↑(nth s i 0).toNat : Int) < 240) then
                            bif decide (0 ≤ Sp.lowS s (i + 1)) then
                              bif decide (0 ≤ Sp.lowS s (i + 2)) then
                                Rg IntKind.i64 ((↑(nth s i 0).toNat : Int) - 224) ∧
                                  Rg IntKind.i64 (4096 * ((↑(nth s i 0).toNat : Int) - 224)) ∧
                                    Rg IntKind.i64 (64 * Sp.lowS s (i + 1)) ∧
                                      Rg IntKind.i64 (4096 * ((↑(nth s i 0).toNat : Int) - 224) + 64 * Sp.lowS s (i + 1)) ∧
                                        Rg IntKind.i64 (4096 * ((↑(nth s i 0).toNat : Int) - 224) + 64 * Sp.lowS s (i + 1) + Sp.lowS s (i + 2)) ∧
                                          bif !Sp.isC (4096 * ((↑(nth s i 0).toNat : Int) - 224) + 64 * Sp.lowS s (i + 1) + Sp.lowS s (i + 2)) then R (65533, 1, false)
                                          else
                                            Sp.any (4096 * ((↑(nth s i 0).toNat : Int) - 224) + 64 * Sp.lowS s (i + 1) + Sp.lowS s (i + 2)) ∧
                                              Rg IntKind.i64 ((↑(List.length s) : Int) - i) ∧
                                                bif
                                                    decide
                                                      ((↑(List.length s) : Int) - i <
                                                        (↑(List.length (Sp.bytesC (4096 * ((↑(nth s i 0).toNat : Int) - 224) + 64 * Sp.lowS s (i + 1) + Sp.lowS s (i + 2)))) : Int)) then
                                                  R (65533, 1, false)
                                                else
                                                  Rg IntKind.i64
                                                      (i + (↑(List.length (Sp.bytesC (4096 * ((↑(nth s i 0).toNat : Int) - 224) + 64 * Sp.lowS s (i + 1) + Sp.lowS s (i + 2)))) : Int)) ∧
                                                    Sb i (i + (↑(List.length (Sp.bytesC (4096 * ((↑(nth s i 0).toNat : Int) - 224) + 64 * Sp.lowS s (i + 1) + Sp.lowS s (i + 2)))) : Int))
                                                        (List.length s) ∧
                                                      bif
                                                          !decide
                                                              (sub s i
                                                                  (i +
                                                                    (↑(List.length (Sp.bytesC (4096 * ((↑(nth s i 0).toNat : Int) - 224) + 64 * Sp.lowS s (i + 1) + Sp.lowS s (i + 2)))) :
                                                                      Int)) =
                                                                Sp.bytesC (4096 * ((↑(nth s i 0).toNat : Int) - 224) + 64 * Sp.lowS s (i + 1) + Sp.lowS s (i + 2))) then
                                                        R (65533, 1, false)
                                                      else
                                                        R
                                                          (4096 * ((↑(nth s i 0).toNat : Int) - 224) + 64 * Sp.lowS s (i + 1) + Sp.lowS s (i + 2),
                                                            (↑(List.length (Sp.bytesC (4096 * ((↑(nth s i 0).toNat : Int) - 224) + 64 * Sp.lowS s (i + 1) + Sp.lowS s (i + 2)))) : Int), true)
                              else
                                bif decide (240 ≤ (↑(nth s i 0).toNat : Int)) then
                                  bif decide ((↑(nth s i 0).toNat : Int) < 248) then
                                    bif decide (0 ≤ Sp.lowS s (i + 1)) then
                                      bif decide (0 ≤ Sp.lowS s (i + 2)) then
                                        bif decide (0 ≤ Sp.lowS s (i + 3)) then
                                          Rg IntKind.i64 ((↑(nth s i 0).toNat : Int) - 240) ∧
                                            Rg IntKind.i64 (262144 * ((↑(nth s i 0).toNat : Int) - 240)) ∧
                                              Rg IntKind.i64 (4096 * Sp.lowS s (i + 1)) ∧
                                                Rg IntKind.i64 (262144 * ((↑(nth s i 0).toNat : Int) - 240) + 4096 * Sp.lowS s (i + 1)) ∧
                                                  Rg IntKind.i64 (64 * Sp.lowS s (i + 2)) ∧
                                                    Rg IntKind.i64 (262144 * ((↑(nth s i 0).toNat : Int) - 240) + 4096 * Sp.lowS s (i + 1) + 64 * Sp.lowS s (i + 2)) ∧
                                                      Rg IntKind.i64 (262144 * ((↑(nth s i 0).toNat : Int) - 240) + 4096 * Sp.lowS s (i + 1) + 64 * Sp.lowS s (i + 2) + Sp.lowS s (i + 3)) ∧
                                                        bif !Sp.isC (262144 * ((↑(nth s i 0).toNat : Int) - 240) + 4096 * Sp.lowS s (i + 1) + 64 * Sp.lowS s (i + 2) + Sp.lowS s (i + 3)) then
                                                          R (65533, 1, false)
                                                        else
                                                          Sp.any (262144 * ((↑(nth s i 0).toNat : Int) - 240) + 4096 * Sp.lowS s (i + 1) + 64 * Sp.lowS s (i + 2) + Sp.lowS s (i + 3)) ∧
                                                            Rg IntKind.i64 ((↑(List.length s) : Int) - i) ∧
                                                              bif
                                                                  decide
                                                                    ((↑(List.length s) : Int) - i <
                                                                      (↑(List.length
                                                                            (Sp.bytesC
                                                                              (262144 * ((↑(nth s i 0).toNat : Int) - 240) + 4096 * Sp.lowS s (i + 1) + 64 * Sp.lowS s (i + 2) +
                                                                                Sp.lowS s (i + 3)))) :
                                                                        Int)) then
                                                                R (65533, 1, false)
                                                              else
                                                                Rg IntKind.i64
                                                                    (i +
                                                                      (↑(List.length
                                                                            (Sp.bytesC
                                                                              (262144 * ((↑(nth s i 0).toNat : Int) - 240) + 4096 * Sp.lowS s (i + 1) + 64 * Sp.lowS s (i + 2) +
                                                                                Sp.lowS s (i + 3)))) :
                                                                        Int)) ∧
                                                                  Sb i
                                                                      (i +
                                                                        (↑(List.length
                                                                              (Sp.bytesC
                                                                                (262144 * ((↑(nth s i 0).toNat : Int) - 240) + 4096 * Sp.lowS s (i + 1) + 64 * Sp.lowS s (i + 2) +
                                                                                  Sp.lowS s (i + 3)))) :
                                                                          Int))
                                                                      (List.length s) ∧
                                                                    bif
                                                                        !decide
                                                                            (sub s i
                                                                                (i +
                                                                                  (↑(List.length
                                                                                        (Sp.bytesC
                                                                                          (262144 * ((↑(nth s i 0).toNat : Int) - 240) + 4096 * Sp.lowS s (i + 1) + 64 * Sp.lowS s (i + 2) +
                                                                                            Sp.lowS s (i + 3)))) :
                                                                                    Int)) =
                                                                              Sp.bytesC
                                                                                (262144 * ((↑(nth s i 0).toNat : Int) - 240) + 4096 * Sp.lowS s (i + 1) + 64 * Sp.lowS s (i + 2) +
                                                                                  Sp.lowS s (i + 3))) then
                                                                      R (65533, 1, false)
                                                                    else
                                                                      R
                                                                        (262144 * ((↑(nth s i 0).toNat : Int) - 240) + 4096 * Sp.lowS s (i + 1) + 64 * Sp.lowS s (i + 2) + Sp.lowS s (i + 3),
                                                                          (↑(List.length
                                                                                (Sp.bytesC
                                                                                  (262144 * ((↑(nth s i 0).toNat : Int) - 240) + 4096 * Sp.lowS s (i + 1) + 64 * Sp.lowS s (i + 2) +
                                                                                    Sp.lowS s (i + 3)))) :
                                                                            Int),
                                                                          true)
                                        else R (65533, 1, false)
                                      else R (65533, 1, false)
                                    else R (65533, 1, false)
                                  else R (65533, 1, false)
                                else R (65533, 1, false)
                            else
                              bif decide (240 ≤ (↑(nth s i 0).toNat : Int)) then
                                bif decide ((↑(nth s i 0).toNat : Int) < 248) then
                                  bif decide (0 ≤ Sp.lowS s (i + 1)) then
                                    bif decide (0 ≤ Sp.lowS s (i + 2)) then
                                      bif decide (0 ≤ Sp.lowS s (i + 3)) then
                                        Rg IntKind.i64 ((↑(nth s i 0).toNat : Int) - 240) ∧
                                          Rg IntKind.i64 (262144 * ((↑(nth s i 0).toNat : Int) - 240)) ∧
                                            Rg IntKind.i64 (4096 * Sp.lowS s (i + 1)) ∧
                                              Rg IntKind.i64 (262144 * ((↑(nth s i 0).toNat : Int) - 240) + 4096 * Sp.lowS s (i + 1)) ∧
                                                Rg IntKind.i64 (64 * Sp.lowS s (i + 2)) ∧
                                                  Rg IntKind.i64 (262144 * ((↑(nth s i 0).toNat : Int) - 240) + 4096 * Sp.lowS s (i + 1) + 64 * Sp.lowS s (i + 2)) ∧
                                                    Rg IntKind.i64 (262144 * ((↑(nth s i 0).toNat : Int) - 240) + 4096 * Sp.lowS s (i + 1) + 64 * Sp.lowS s (i + 2) + Sp.lowS s (i + 3)) ∧
                                                      bif !Sp.isC (262144 * ((↑(nth s i 0).toNat : Int) - 240) + 4096 * Sp.lowS s (i + 1) + 64 * Sp.lowS s (i + 2) + Sp.lowS s (i + 3)) then
                                                        R (65533, 1, false)
                                                      else
                                                        Sp.any (262144 * ((↑(nth s i 0).toNat : Int) - 240) + 4096 * Sp.lowS s (i + 1) + 64 * Sp.lowS s (i + 2) + Sp.lowS s (i + 3)) ∧
                                                          Rg IntKind.i64 ((↑(List.length s) : Int) - i) ∧
                                                            bif
                                                                decide
                                                                  ((↑(List.length s) : Int) - i <
                                                                    (↑(List.length
                                                                          (Sp.bytesC
                                                                            (262144 * ((↑(nth s i 0).toNat : Int) - 240) + 4096 * Sp.lowS s (i + 1) + 64 * Sp.lowS s (i + 2) +
                                                                              Sp.lowS s (i + 3)))) :
                                                                      Int)) then
                                                              R (65533, 1, false)
                                                            else
                                                              Rg IntKind.i64
                                                                  (i +
                                                                    (↑(List.length
                                                                          (Sp.bytesC
                                                                            (262144 * ((↑(nth s i 0).toNat : Int) - 240) + 4096 * Sp.lowS s (i + 1) + 64 * Sp.lowS s (i + 2) +
                                                                              Sp.lowS s (i + 3)))) :
                                                                      Int)) ∧
                                                                Sb i
                                                                    (i +
                                                                      (↑(List.length
                                                                            (Sp.bytesC
                                                                              (262144 * ((↑(nth s i 0).toNat : Int) - 240) + 4096 * Sp.lowS s (i + 1) + 64 * Sp.lowS s (i + 2) +
                                                                                Sp.lowS s (i + 3)))) :
                                                                        Int))
                                                                    (List.length s) ∧
                                                                  bif
                                                                      !decide
                                                                          (sub s i
                                                                              (i +
                                                                                (↑(List.length
                                                                                      (Sp.bytesC
                                                                                        (262144 * ((↑(nth s i 0).toNat : Int) - 240) + 4096 * Sp.lowS s (i + 1) + 64 * Sp.lowS s (i + 2) +
                                                                                          Sp.lowS s (i + 3)))) :
                                                                                  Int)) =
                                                                            Sp.bytesC
                                                                              (262144 * ((↑(nth s i 0).toNat : Int) - 240) + 4096 * Sp.lowS s (i + 1) + 64 * Sp.lowS s (i + 2) +
                                                                                Sp.lowS s (i + 3))) then
                                                                    R (65533, 1, false)
                                                                  else
                                                                    R
                                                                      (262144 * ((↑(nth s i 0).toNat : Int) - 240) + 4096 * Sp.lowS s (i + 1) + 64 * Sp.lowS s (i + 2) + Sp.lowS s (i + 3),
                                                                        (↑(List.length
                                                                              (Sp.bytesC
                                                                                (262144 * ((↑(nth s i 0).toNat : Int) - 240) + 4096 * Sp.lowS s (i + 1) + 64 * Sp.lowS s (i + 2) +
                                                                                  Sp.lowS s (i + 3)))) :
                                                                          Int),
                                                                        true)
                                      else R (65533, 1, false)
                                    else R (65533, 1, false)
                                  else R (65533, 1, false)
                                else R (65533, 1, false)
                              else R (65533, 1, false)
                          else
                            bif decide (240 ≤ (↑(nth s i 0).toNat : Int)) then
                              bif decide ((↑(nth s i 0).toNat : Int) < 248) then
                                bif decide (0 ≤ Sp.lowS s (i + 1)) then
                                  bif decide (0 ≤ Sp.lowS s (i + 2)) then
                                    bif decide (0 ≤ Sp.lowS s (i + 3)) then
                                      Rg IntKind.i64 ((↑(nth s i 0).toNat : Int) - 240) ∧
                                        Rg IntKind.i64 (262144 * ((↑(nth s i 0).toNat : Int) - 240)) ∧
                                          Rg IntKind.i64 (4096 * Sp.lowS s (i + 1)) ∧
                                            Rg IntKind.i64 (262144 * ((↑(nth s i 0).toNat : Int) - 240) + 4096 * Sp.lowS s (i + 1)) ∧
                                              Rg IntKind.i64 (64 * Sp.lowS s (i + 2)) ∧
                                                Rg IntKind.i64 (262144 * ((↑(nth s i 0).toNat : Int) - 240) + 4096 * Sp.lowS s (i + 1) + 64 * Sp.lowS s (i + 2)) ∧
                                                  Rg IntKind.i64 (262144 * ((↑(nth s i 0).toNat : Int) - 240) + 4096 * Sp.lowS s (i + 1) + 64 * Sp.lowS s (i + 2) + Sp.lowS s (i + 3)) ∧
                                                    bif !Sp.isC (262144 * ((↑(nth s i 0).toNat : Int) - 240) + 4096 * Sp.lowS s (i + 1) + 64 * Sp.lowS s (i + 2) + Sp.lowS s (i + 3)) then
                                                      R (65533, 1, false)
                                                    else
                                                      Sp.any (262144 * ((↑(nth s i 0).toNat : Int) - 240) + 4096 * Sp.lowS s (i + 1) + 64 * Sp.lowS s (i + 2) + Sp.lowS s (i + 3)) ∧
                                                        Rg IntKind.i64 ((↑(List.length s) : Int) - i) ∧
                                                          bif
                                                              decide
                                                                ((↑(List.length s) : Int) - i <
                                                                  (↑(List.length
                                                                        (Sp.bytesC
                                                                          (262144 * ((↑(nth s i 0).toNat : Int) - 240) + 4096 * Sp.lowS s (i + 1) + 64 * Sp.lowS s (i + 2) +
                                                                            Sp.lowS s (i + 3)))) :
                                                                    Int)) then
                                                            R (65533, 1, false)
                                                          else
                                                            Rg IntKind.i64
                                                                (i +
                                                                  (↑(List.length
                                                                        (Sp.bytesC
                                                                          (262144 * ((↑(nth s i 0).toNat : Int) - 240) + 4096 * Sp.lowS s (i + 1) + 64 * Sp.lowS s (i + 2) +
                                                                            Sp.lowS s (i + 3)))) :
                                                                    Int)) ∧
                                                              Sb i
                                                                  (i +
                                                                    (↑(List.length
                                                                          (Sp.bytesC
                                                                            (262144 * ((↑(nth s i 0).toNat : Int) - 240) + 4096 * Sp.lowS s (i + 1) + 64 * Sp.lowS s (i + 2) +
                                                                              Sp.lowS s (i + 3)))) :
                                                                      Int))
                                                                  (List.length s) ∧
                                                                bif
                                                                    !decide
                                                                        (sub s i
                                                                            (i +
                                                                              (↑(List.length
                                                                                    (Sp.bytesC
                                                                                      (262144 * ((↑(nth s i 0).toNat : Int) - 240) + 4096 * Sp.lowS s (i + 1) + 64 * Sp.lowS s (i + 2) +
                                                                                        Sp.lowS s (i + 3)))) :
                                                                                Int)) =
                                                                          Sp.bytesC
                                                                            (262144 * ((↑(nth s i 0).toNat : Int) - 240) + 4096 * Sp.lowS s (i + 1) + 64 * Sp.lowS s (i + 2) +
                                                                              Sp.lowS s (i + 3))) then
                                                                  R (65533, 1, false)
                                                                else
                                                                  R
                                                                    (262144 * ((↑(nth s i 0).toNat : Int) - 240) + 4096 * Sp.lowS s (i + 1) + 64 * Sp.lowS s (i + 2) + Sp.lowS s (i + 3),
                                                                      (↑(List.length
                                                                            (Sp.bytesC
                                                                              (262144 * ((↑(nth s i 0).toNat : Int) - 240) + 4096 * Sp.lowS s (i + 1) + 64 * Sp.lowS s (i + 2) +
                                                                                Sp.lowS s (i + 3)))) :
                                                                        Int),
                                                                      true)
                                    else R (65533, 1, false)
                                  else R (65533, 1, false)
                                else R (65533, 1, false)
                              else R (65533, 1, false)
                            else R (65533, 1, false)
                        else
                          bif decide (240 ≤ (↑(nth s i 0).toNat : Int)) then
                            bif decide ((↑(nth s i 0).toNat : Int) < 248) then
                              bif decide (0 ≤ Sp.lowS s (i + 1)) then
                                bif decide (0 ≤ Sp.lowS s (i + 2)) then
                                  bif decide (0 ≤ Sp.lowS s (i + 3)) then
                                    Rg IntKind.i64 ((↑(nth s i 0).toNat : Int) - 240) ∧
                                      Rg IntKind.i64 (262144 * ((↑(nth s i 0).toNat : Int) - 240)) ∧
                                        Rg IntKind.i64 (4096 * Sp.lowS s (i + 1)) ∧
                                          Rg IntKind.i64 (262144 * ((↑(nth s i 0).toNat : Int) - 240) + 4096 * Sp.lowS s (i + 1)) ∧
                                            Rg IntKind.i64 (64 * Sp.lowS s (i + 2)) ∧
                                              Rg IntKind.i64 (262144 * ((↑(nth s i 0).toNat : Int) - 240) + 4096 * Sp.lowS s (i + 1) + 64 * Sp.lowS s (i + 2)) ∧
                                                Rg IntKind.i64 (262144 * ((↑(nth s i 0).toNat : Int) - 240) + 4096 * Sp.lowS s (i + 1) + 64 * Sp.lowS s (i + 2) + Sp.lowS s (i + 3)) ∧
                                                  bif !Sp.isC (262144 * ((↑(nth s i 0).toNat : Int) - 240) + 4096 * Sp.lowS s (i + 1) + 64 * Sp.lowS s (i + 2) + Sp.lowS s (i + 3)) then
                                                    R (65533, 1, false)
                                                  else
                                                    Sp.any (262144 * ((↑(nth s i 0).toNat : Int) - 240) + 4096 * Sp.lowS s (i + 1) + 64 * Sp.lowS s (i + 2) + Sp.lowS s (i + 3)) ∧
                                                      Rg IntKind.i64 ((↑(List.length s) : Int) - i) ∧
                                                        bif
                                                            decide
                                                              ((↑(List.length s) : Int) - i <
                                                                (↑(List.length
                                                                      (Sp.bytesC
                                                                        (262144 * ((↑(nth s i 0).toNat : Int) - 240) + 4096 * Sp.lowS s (i + 1) + 64 * Sp.lowS s (i + 2) +
                                                                          Sp.lowS s (i + 3)))) :
                                                                  Int)) then
                                                          R (65533, 1, false)
                                                        else
                                                          Rg IntKind.i64
                                                              (i +
                                                                (↑(List.length
                                                                      (Sp.bytesC
                                                                        (262144 * ((↑(nth s i 0).toNat : Int) - 240) + 4096 * Sp.lowS s (i + 1) + 64 * Sp.lowS s (i + 2) +
                                                                          Sp.lowS s (i + 3)))) :
                                                                  Int)) ∧
                                                            Sb i
                                                                (i +
                                                                  (↑(List.length
                                                                        (Sp.bytesC
                                                                          (262144 * ((↑(nth s i 0).toNat : Int) - 240) + 4096 * Sp.lowS s (i + 1) + 64 * Sp.lowS s (i + 2) +
                                                                            Sp.lowS s (i + 3)))) :
                                                                    Int))
                                                                (List.length s) ∧
                                                              bif
                                                                  !decide
                                                                      (sub s i
                                                                          (i +
                                                                            (↑(List.length
                                                                                  (Sp.bytesC
                                                                                    (262144 * ((↑(nth s i 0).toNat : Int) - 240) + 4096 * Sp.lowS s (i + 1) + 64 * Sp.lowS s (i + 2) +
                                                                                      Sp.lowS s (i + 3)))) :
                                                                              Int)) =
                                                                        Sp.bytesC
                                                                          (262144 * ((↑(nth s i 0).toNat : Int) - 240) + 4096 * Sp.lowS s (i + 1) + 64 * Sp.lowS s (i + 2) +
                                                                            Sp.lowS s (i + 3))) then
                                                                R (65533, 1, false)
                                                              else
                                                                R
                                                                  (262144 * ((↑(nth s i 0).toNat : Int) - 240) + 4096 * Sp.lowS s (i + 1) + 64 * Sp.lowS s (i + 2) + Sp.lowS s (i + 3),
                                                                    (↑(List.length
                                                                          (Sp.bytesC
                                                                            (262144 * ((↑(nth s i 0).toNat : Int) - 240) + 4096 * Sp.lowS s (i + 1) + 64 * Sp.lowS s (i + 2) +
                                                                              Sp.lowS s (i + 3)))) :
                                                                      Int),
                                                                    true)
                                  else R (65533, 1, false)
                                else R (65533, 1, false)
                              else R (65533, 1, false)
                            else R (65533, 1, false)
                          else R (65533, 1, false)
                    else
                      bif decide (224 ≤ (↑(nth s i 0).toNat : Int)) then
                        bif decide ((↑(nth s i 0).toNat : Int) < 240) then
                          bif decide (0 ≤ Sp.lowS s (i + 1)) then
                            bif decide (0 ≤ Sp.lowS s (i + 2)) then
                              Rg IntKind.i64 ((↑(nth s i 0).toNat : Int) - 224) ∧
                                Rg IntKind.i64 (4096 * ((↑(nth s i 0).toNat : Int) - 224)) ∧
                                  Rg IntKind.i64 (64 * Sp.lowS s (i + 1)) ∧
                                    Rg IntKind.i64 (4096 * ((↑(nth s i 0).toNat : Int) - 224) + 64 * Sp.lowS s (i + 1)) ∧
                                      Rg IntKind.i64 (4096 * ((↑(nth s i 0).toNat : Int) - 224) + 64 * Sp.lowS s (i + 1) + Sp.lowS s (i + 2)) ∧
                                        bif !Sp.isC (4096 * ((↑(nth s i 0).toNat : Int) - 224) + 64 * Sp.lowS s (i + 1) + Sp.lowS s (i + 2)) then R (65533, 1, false)
                                        else
                                          Sp.any (4096 * ((↑(nth s i 0).toNat : Int) - 224) + 64 * Sp.lowS s (i + 1) + Sp.lowS s (i + 2)) ∧
                                            Rg IntKind.i64 ((↑(List.length s) : Int) - i) ∧
                                              bif
                                                  decide
                                                    ((↑(List.length s) : Int) - i <
                                                      (↑(List.length (Sp.bytesC (4096 * ((↑(nth s i 0).toNat : Int) - 224) + 64 * Sp.lowS s (i + 1) + Sp.lowS s (i + 2)))) : Int)) then
                                                R (65533, 1, false)
                                              else
                                                Rg IntKind.i64
                                                    (i + (↑(List.length (Sp.bytesC (4096 * ((↑(nth s i 0).toNat : Int) - 224) + 64 * Sp.lowS s (i + 1) + Sp.lowS s (i + 2)))) : Int)) ∧
                                                  Sb i (i + (↑(List.length (Sp.bytesC (4096 * ((↑(nth s i 0).toNat : Int) - 224) + 64 * Sp.lowS s (i + 1) + Sp.lowS s (i + 2)))) : Int))
                                                      (List.length s) ∧
                                                    bif
                                                        !decide
                                                            (sub s i
                                                                (i +
                                                                  (↑(List.length (Sp.bytesC (4096 * ((↑(nth s i 0).toNat : Int) - 224) + 64 * Sp.lowS s (i + 1) + Sp.lowS s (i + 2)))) :
                                                                    Int)) =
                                                              Sp.bytesC (4096 * ((↑(nth s i 0).toNat : Int) - 224) + 64 * Sp.lowS s (i + 1) + Sp.lowS s (i + 2))) then
                                                      R (65533, 1, false)
                                                    else
                                                      R
                                                        (4096 * ((↑(nth s i 0).toNat : Int) - 224) + 64 * Sp.lowS s (i + 1) + Sp.lowS s (i + 2),
                                                          (↑(List.length (Sp.bytesC (4096 * ((↑(nth s i 0).toNat : Int) - 224) + 64 * Sp.lowS s (i + 1) + Sp.lowS s (i + 2)))) : Int), true)
                            else
                              bif decide (240 ≤ (↑(nth s i 0).toNat : Int)) then
                                bif decide ((↑(nth s i 0).toNat : Int) < 248) then
                                  bif decide (0 ≤ Sp.lowS s (i + 1)) then
                                    bif decide (0 ≤ Sp.lowS s (i + 2)) then
                                      bif decide (0 ≤ Sp.lowS s (i + 3)) then
                                        Rg IntKind.i64 ((↑(nth s i 0).toNat : Int) - 240) ∧
                                          Rg IntKind.i64 (262144 * ((↑(nth s i 0).toNat : Int) - 240)) ∧
                                            Rg IntKind.i64 (4096 * Sp.lowS s (i + 1)) ∧
                                              Rg IntKind.i64 (262144 * ((↑(nth s i 0).toNat : Int) - 240) + 4096 * Sp.lowS s (i + 1)) ∧
                                                Rg IntKind.i64 (64 * Sp.lowS s (i + 2)) ∧
                                                  Rg IntKind.i64 (262144 * ((↑(nth s i 0).toNat : Int) - 240) + 4096 * Sp.lowS s (i + 1) + 64 * Sp.lowS s (i + 2)) ∧
                                                    Rg IntKind.i64 (262144 * ((↑(nth s i 0).toNat : Int) - 240) + 4096 * Sp.lowS s (i + 1) + 64 * Sp.lowS s (i + 2) + Sp.lowS s (i + 3)) ∧
                                                      bif !Sp.isC (262144 * ((↑(nth s i 0).toNat : Int) - 240) + 4096 * Sp.lowS s (i + 1) + 64 * Sp.lowS s (i + 2) + Sp.lowS s (i + 3)) then
                                                        R (65533, 1, false)
                                                      else
                                                        Sp.any (262144 * ((↑(nth s i 0).toNat : Int) - 240) + 4096 * Sp.lowS s (i + 1) + 64 * Sp.lowS s (i + 2) + Sp.lowS s (i + 3)) ∧
                                                          Rg IntKind.i64 ((↑(List.length s) : Int) - i) ∧
                                                            bif
                                                                decide
                                                                  ((↑(List.length s) : Int) - i <
                                                                    (↑(List.length
                                                                          (Sp.bytesC
                                                                            (262144 * ((↑(nth s i 0).toNat : Int) - 240) + 4096 * Sp.lowS s (i + 1) + 64 * Sp.lowS s (i + 2) +
                                                                              Sp.lowS s (i + 3)))) :
                                                                      Int)) then
                                                              R (65533, 1, false)
                                                            else
                                                              Rg IntKind.i64
                                                                  (i +
                                                                    (↑(List.length
                                                                          (Sp.bytesC
                                                                            (262144 * ((↑(nth s i 0).toNat : Int) - 240) + 4096 * Sp.lowS s (i + 1) + 64 * Sp.lowS s (i + 2) +
                                                                              Sp.lowS s (i + 3)))) :
                                                                      Int)) ∧
                                                                Sb i
                                                                    (i +
                                                                      (↑(List.length
                                                                            (Sp.bytesC
                                                                              (262144 * ((↑(nth s i 0).toNat : Int) - 240) + 4096 * Sp.lowS s (i + 1) + 64 * Sp.lowS s (i + 2) +
                                                                                Sp.lowS s (i + 3)))) :
                                                                        Int))
                                                                    (List.length s) ∧
                                                                  bif
                                                                      !decide
                                                                          (sub s i
                                                                              (i +
                                                                                (↑(List.length
                                                                                      (Sp.bytesC
                                                                                        (262144 * ((↑(nth s i 0).toNat : Int) - 240) + 4096 * Sp.lowS s (i + 1) + 64 * Sp.lowS s (i + 2) +
                                                                                          Sp.lowS s (i + 3)))) :
                                                                                  Int)) =
                                                                            Sp.bytesC
                                                                              (262144 * ((↑(nth s i 0).toNat : Int) - 240) + 4096 * Sp.lowS s (i + 1) + 64 * Sp.lowS s (i + 2) +
                                                                                Sp.lowS s (i + 3))) then
                                                                    R (65533, 1, false)
                                                                  else
                                                                    R
                                                                      (262144 * ((↑(nth s i 0).toNat : Int) - 240) + 4096 * Sp.lowS s (i + 1) + 64 * Sp.lowS s (i + 2) + Sp.lowS s (i + 3),
                                                                        (↑(List.length
                                                                              (Sp.bytesC
                                                                                (262144 * ((↑(nth s i 0).toNat : Int) - 240) + 4096 * Sp.lowS s (i + 1) + 64 * Sp.lowS s (i + 2) +
                                                                                  Sp.lowS s (i + 3)))) :
                                                                          Int),
                                                                        true)
                                      else R (65533, 1, false)
                                    else R (65533, 1, false)
                                  else R (65533, 1, false)
                                else R (65533, 1, false)
                              else R (65533, 1, false)
                          else
                            bif decide (240 ≤ (↑(nth s i 0).toNat : Int)) then
                              bif decide ((↑(nth s i 0).toNat : Int) < 248) then
                                bif decide (0 ≤ Sp.lowS s (i + 1)) then
                                  bif decide (0 ≤ Sp.lowS s (i + 2)) then
                                    bif decide (0 ≤ Sp.lowS s (i + 3)) then
                                      Rg IntKind.i64 ((↑(nth s i 0).toNat : Int) - 240) ∧
                                        Rg IntKind.i64 (262144 * ((↑(nth s i 0).toNat : Int) - 240)) ∧
                                          Rg IntKind.i64 (4096 * Sp.lowS s (i + 1)) ∧
                                            Rg IntKind.i64 (262144 * ((↑(nth s i 0).toNat : Int) - 240) + 4096 * Sp.lowS s (i + 1)) ∧
                                              Rg IntKind.i64 (64 * Sp.lowS s (i + 2)) ∧
                                                Rg IntKind.i64 (262144 * ((↑(nth s i 0).toNat : Int) - 240) + 4096 * Sp.lowS s (i + 1) + 64 * Sp.lowS s (i + 2)) ∧
                                                  Rg IntKind.i64 (262144 * ((↑(nth s i 0).toNat : Int) - 240) + 4096 * Sp.lowS s (i + 1) + 64 * Sp.lowS s (i + 2) + Sp.lowS s (i + 3)) ∧
                                                    bif !Sp.isC (262144 * ((↑(nth s i 0).toNat : Int) - 240) + 4096 * Sp.lowS s (i + 1) + 64 * Sp.lowS s (i + 2) + Sp.lowS s (i + 3)) then
                                                      R (65533, 1, false)
                                                    else
                                                      Sp.any (262144 * ((↑(nth s i 0).toNat : Int) - 240) + 4096 * Sp.lowS s (i + 1) + 64 * Sp.lowS s (i + 2) + Sp.lowS s (i + 3)) ∧
                                                        Rg IntKind.i64 ((↑(List.length s) : Int) - i) ∧
                                                          bif
                                                              decide
                                                                ((↑(List.length s) : Int) - i <
                                                                  (↑(List.length
                                                                        (Sp.bytesC
                                                                          (262144 * ((↑(nth s i 0).toNat : Int) - 240) + 4096 * Sp.lowS s (i + 1) + 64 * Sp.lowS s (i + 2) +
                                                                            Sp.lowS s (i + 3)))) :
                                                                    Int)) then
                                                            R (65533, 1, false)
                                                          else
                                                            Rg IntKind.i64
                                                                (i +
                                                                  (↑(List.length
                                                                        (Sp.bytesC
                                                                          (262144 * ((↑(nth s i 0).toNat : Int) - 240) + 4096 * Sp.lowS s (i + 1) + 64 * Sp.lowS s (i + 2) +
                                                                            Sp.lowS s (i + 3)))) :
                                                                    Int)) ∧
                                                              Sb i
                                                                  (i +
                                                                    (↑(List.length
                                                                          (Sp.bytesC
                                                                            (262144 * ((↑(nth s i 0).toNat : Int) - 240) + 4096 * Sp.lowS s (i + 1) + 64 * Sp.lowS s (i + 2) +
                                                                              Sp.lowS s (i + 3)))) :
                                                                      Int))
                                                                  (List.length s) ∧
                                                                bif
                                                                    !decide
                                                                        (sub s i
                                                                            (i +
                                                                              (↑(List.length
                                                                                    (Sp.bytesC
                                                                                      (262144 * ((↑(nth s i 0).toNat : Int) - 240) + 4096 * Sp.lowS s (i + 1) + 64 * Sp.lowS s (i + 2) +
                                                                                        Sp.lowS s (i + 3)))) :
                                                                                Int)) =
                                                                          Sp.bytesC
                                                                            (262144 * ((↑(nth s i 0).toNat : Int) - 240) + 4096 * Sp.lowS s (i + 1) + 64 * Sp.lowS s (i + 2) +
                                                                              Sp.lowS s (i + 3))) then
                                                                  R (65533, 1, false)
                                                                else
                                                                  R
                                                                    (262144 * ((↑(nth s i 0).toNat : Int) - 240) + 4096 * Sp.lowS s (i + 1) + 64 * Sp.lowS s (i + 2) + Sp.lowS s (i + 3),
                                                                      (↑(List.length
                                                                            (Sp.bytesC
                                                                              (262144 * ((↑(nth s i 0).toNat : Int) - 240) + 4096 * Sp.lowS s (i + 1) + 64 * Sp.lowS s (i + 2) +
                                                                                Sp.lowS s (i + 3)))) :
                                                                        Int),
                                                                      true)
                                    else R (65533, 1, false)
                                  else R (65533, 1, false)
                                else R (65533, 1, false)
                              else R (65533, 1, false)
                            else R (65533, 1, false)
                        else
                          bif decide (240 ≤ (↑(nth s i 0).toNat : Int)) then
                            bif decide ((↑(nth s i 0).toNat : Int) < 248) then
                              bif decide (0 ≤ Sp.lowS s (i + 1)) then
                                bif decide (0 ≤ Sp.lowS s (i + 2)) then
                                  bif decide (0 ≤ Sp.lowS s (i + 3)) then
                                    Rg IntKind.i64 ((↑(nth s i 0).toNat : Int) - 240) ∧
                                      Rg IntKind.i64 (262144 * ((↑(nth s i 0).toNat : Int) - 240)) ∧
                                        Rg IntKind.i64 (4096 * Sp.lowS s (i + 1)) ∧
                                          Rg IntKind.i64 (262144 * ((↑(nth s i 0).toNat : Int) - 240) + 4096 * Sp.lowS s (i + 1)) ∧
                                            Rg IntKind.i64 (64 * Sp.lowS s (i + 2)) ∧
                                              Rg IntKind.i64 (262144 * ((↑(nth s i 0).toNat : Int) - 240) + 4096 * Sp.lowS s (i + 1) + 64 * Sp.lowS s (i + 2)) ∧
                                                Rg IntKind.i64 (262144 * ((↑(nth s i 0).toNat : Int) - 240) + 4096 * Sp.lowS s (i + 1) + 64 * Sp.lowS s (i + 2) + Sp.lowS s (i + 3)) ∧
                                                  bif !Sp.isC (262144 * ((↑(nth s i 0).toNat : Int) - 240) + 4096 * Sp.lowS s (i + 1) + 64 * Sp.lowS s (i + 2) + Sp.lowS s (i + 3)) then
                                                    R (65533, 1, false)
                                                  else
                                                    Sp.any (262144 * ((↑(nth s i 0).toNat : Int) - 240) + 4096 * Sp.lowS s (i + 1) + 64 * Sp.lowS s (i + 2) + Sp.lowS s (i + 3)) ∧
                                                      Rg IntKind.i64 ((↑(List.length s) : Int) - i) ∧
                                                        bif
                                                            decide
                                                              ((↑(List.length s) : Int) - i <
                                                                (↑(List.length
                                                                      (Sp.bytesC
                                                                        (262144 * ((↑(nth s i 0).toNat : Int) - 240) + 4096 * Sp.lowS s (i + 1) + 64 * Sp.lowS s (i + 2) +
                                                                          Sp.lowS s (i + 3)))) :
                                                                  Int)) then
                                                          R (65533, 1, false)
                                                        else
                                                          Rg IntKind.i64
                                                              (i +
                                                                (↑(List.length
                                                                      (Sp.bytesC
                                                                        (262144 * ((↑(nth s i 0).toNat : Int) - 240) + 4096 * Sp.lowS s (i + 1) + 64 * Sp.lowS s (i + 2) +
                                                                          Sp.lowS s (i + 3)))) :
                                                                  Int)) ∧
                                                            Sb i
                                                                (i +
                                                                  (↑(List.length
                                                                        (Sp.bytesC
                                                                          (262144 * ((↑(nth s i 0).toNat : Int) - 240) + 4096 * Sp.lowS s (i + 1) + 64 * Sp.lowS s (i + 2) +
                                                                            Sp.lowS s (i + 3)))) :
                                                                    Int))
                                                                (List.length s) ∧
                                                              bif
                                                                  !decide
                                                                      (sub s i
                                                                          (i +
                                                                            (↑(List.length
                                                                                  (Sp.bytesC
                                                                                    (262144 * ((↑(nth s i 0).toNat : Int) - 240) + 4096 * Sp.lowS s (i + 1) + 64 * Sp.lowS s (i + 2) +
                                                                                      Sp.lowS s (i + 3)))) :
                                                                              Int)) =
                                                                        Sp.bytesC
                                                                          (262144 * ((↑(nth s i 0).toNat : Int) - 240) + 4096 * Sp.lowS s (i + 1) + 64 * Sp.lowS s (i + 2) +
                                                                            Sp.lowS s (i + 3))) then
                                                                R (65533, 1, false)
                                                              else
                                                                R
                                                                  (262144 * ((↑(nth s i 0).toNat : Int) - 240) + 4096 * Sp.lowS s (i + 1) + 64 * Sp.lowS s (i + 2) + Sp.lowS s (i + 3),
                                                                    (↑(List.length
                                                                          (Sp.bytesC
                                                                            (262144 * ((↑(nth s i 0).toNat : Int) - 240) + 4096 * Sp.lowS s (i + 1) + 64 * Sp.lowS s (i + 2) +
                                                                              Sp.lowS s (i + 3)))) :
                                                                      Int),
                                                                    true)
                                  else R (65533, 1, false)
                                else R (65533, 1, false)
                              else R (65533, 1, false)
                            else R (65533, 1, false)
                          else R (65533, 1, false)
                      else
                        bif decide (240 ≤ (↑(nth s i 0).toNat : Int)) then
                          bif decide ((↑(nth s i 0).toNat : Int) < 248) then
                            bif decide (0 ≤ Sp.lowS s (i + 1)) then
                              bif decide (0 ≤ Sp.lowS s (i + 2)) then
                                bif decide (0 ≤ Sp.lowS s (i + 3)) then
                                  Rg IntKind.i64 ((↑(nth s i 0).toNat : Int) - 240) ∧
                                    Rg IntKind.i64 (262144 * ((↑(nth s i 0).toNat : Int) - 240)) ∧
                                      Rg IntKind.i64 (4096 * Sp.lowS s (i + 1)) ∧
                                        Rg IntKind.i64 (262144 * ((↑(nth s i 0).toNat : Int) - 240) + 4096 * Sp.lowS s (i + 1)) ∧
                                          Rg IntKind.i64 (64 * Sp.lowS s (i + 2)) ∧
                                            Rg IntKind.i64 (262144 * ((↑(nth s i 0).toNat : Int) - 240) + 4096 * Sp.lowS s (i + 1) + 64 * Sp.lowS s (i + 2)) ∧
                                              Rg IntKind.i64 (262144 * ((↑(nth s i 0).toNat : Int) - 240) + 4096 * Sp.lowS s (i + 1) + 64 * Sp.lowS s (i + 2) + Sp.lowS s (i + 3)) ∧
                                                bif !Sp.isC (262144 * ((↑(nth s i 0).toNat : Int) - 240) + 4096 * Sp.lowS s (i + 1) + 64 * Sp.lowS s (i + 2) + Sp.lowS s (i + 3)) then
                                                  R (65533, 1, false)
                                                else
                                                  Sp.any (262144 * ((↑(nth s i 0).toNat : Int) - 240) + 4096 * Sp.lowS s (i + 1) + 64 * Sp.lowS s (i + 2) + Sp.lowS s (i + 3)) ∧
                                                    Rg IntKind.i64 ((↑(List.length s) : Int) - i) ∧
                                                      bif
                                                          decide
                                                            ((↑(List.length s) : Int) - i <
                                                              (↑(List.length
                                                                    (Sp.bytesC
                                                                      (262144 * ((↑(nth s i 0).toNat : Int) - 240) + 4096 * Sp.lowS s (i + 1) + 64 * Sp.lowS s (i + 2) +
                                                                        Sp.lowS s (i + 3)))) :
                                                                Int)) then
                                                        R (65533, 1, false)
                                                      else
                                                        Rg IntKind.i64
                                                            (i +
                                                              (↑(List.length
                                                                    (Sp.bytesC
                                                                      (262144 * ((↑(nth s i 0).toNat : Int) - 240) + 4096 * Sp.lowS s (i + 1) + 64 * Sp.lowS s (i + 2) +
                                                                        Sp.lowS s (i + 3)))) :
                                                                Int)) ∧
                                                          Sb i
                                                              (i +
                                                                (↑(List.length
                                                                      (Sp.bytesC
                                                                        (262144 * ((↑(nth s i 0).toNat : Int) - 240) + 4096 * Sp.lowS s (i + 1) + 64 * Sp.lowS s (i + 2) +
                                                                          Sp.lowS s (i + 3)))) :
                                                                  Int))
                                                              (List.length s) ∧
                                                            bif
                                                                !decide
                                                                    (sub s i
                                                                        (i +
                                                                          (↑(List.length
                                                                                (Sp.bytesC
                                                                                  (262144 * ((↑(nth s i 0).toNat : Int) - 240) + 4096 * Sp.lowS s (i + 1) + 64 * Sp.lowS s (i + 2) +
                                                                                    Sp.lowS s (i + 3)))) :
                                                                            Int)) =
                                                                      Sp.bytesC
                                                                        (262144 * ((↑(nth s i 0).toNat : Int) - 240) + 4096 * Sp.lowS s (i + 1) + 64 * Sp.lowS s (i + 2) +
                                                                          Sp.lowS s (i + 3))) then
                                                              R (65533, 1, false)
                                                            else
                                                              R
                                                                (262144 * ((↑(nth s i 0).toNat : Int) - 240) + 4096 * Sp.lowS s (i + 1) + 64 * Sp.lowS s (i + 2) + Sp.lowS s (i + 3),
                                                                  (↑(List.length
                                                                        (Sp.bytesC
                                                                          (262144 * ((↑(nth s i 0).toNat : Int) - 240) + 4096 * Sp.lowS s (i + 1) + 64 * Sp.lowS s (i + 2) +
                                                                            Sp.lowS s (i + 3)))) :
                                                                    Int),
                                                                  true)
                                else R (65533, 1, false)
                              else R (65533, 1, false)
                            else R (65533, 1, false)
                          else R (65533, 1, false)
                        else R (65533, 1, false)
                  else
                    bif decide (224 ≤ (↑(nth s i 0).toNat : Int)) then
                      bif decide ((↑(nth s i 0).toNat : Int) < 240) then
                        bif decide (0 ≤ Sp.lowS s (i + 1)) then
                          bif decide (0 ≤ Sp.lowS s (i + 2)) then
                            Rg IntKind.i64 ((↑(nth s i 0).toNat : Int) - 224) ∧
                              Rg IntKind.i64 (4096 * ((↑(nth s i 0).toNat : Int) - 224)) ∧
                                Rg IntKind.i64 (64 * Sp.lowS s (i + 1)) ∧
                                  Rg IntKind.i64 (4096 * ((↑(nth s i 0).toNat : Int) - 224) + 64 * Sp.lowS s (i + 1)) ∧
                                    Rg IntKind.i64 (4096 * ((↑(nth s i 0).toNat : Int) - 224) + 64 * Sp.lowS s (i + 1) + Sp.lowS s (i + 2)) ∧
                                      bif !Sp.isC (4096 * ((↑(nth s i 0).toNat : Int) - 224) + 64 * Sp.lowS s (i + 1) + Sp.lowS s (i + 2)) then R (65533, 1, false)
                                      else
                                        Sp.any (4096 * ((↑(nth s i 0).toNat : Int) - 224) + 64 * Sp.lowS s (i + 1) + Sp.lowS s (i + 2)) ∧
                                          Rg IntKind.i64 ((↑(List.length s) : Int) - i) ∧
                                            bif
                                                decide
                                                  ((↑(List.length s) : Int) - i <
                                                    (↑(List.length (Sp.bytesC (4096 * ((↑(nth s i 0).toNat : Int) - 224) + 64 * Sp.lowS s (i + 1) + Sp.lowS s (i + 2)))) : Int)) then
                                              R (65533, 1, false)
                                            else
                                              Rg IntKind.i64
                                                  (i + (↑(List.length (Sp.bytesC (4096 * ((↑(nth s i 0).toNat : Int) - 224) + 64 * Sp.lowS s (i + 1) + Sp.lowS s (i + 2)))) : Int)) ∧
                                                Sb i (i + (↑(List.length (Sp.bytesC (4096 * ((↑(nth s i 0).toNat : Int) - 224) + 64 * Sp.lowS s (i + 1) + Sp.lowS s (i + 2)))) : Int))
                                                    (List.length s) ∧
                                                  bif
                                                      !decide
                                                          (sub s i
                                                              (i +
                                                                (↑(List.length (Sp.bytesC (4096 * ((↑(nth s i 0).toNat : Int) - 224) + 64 * Sp.lowS s (i + 1) + Sp.lowS s (i + 2)))) : Int)) =
                                                            Sp.bytesC (4096 * ((↑(nth s i 0).toNat : Int) - 224) + 64 * Sp.lowS s (i + 1) + Sp.lowS s (i + 2))) then
                                                    R (65533, 1, false)
                                                  else
                                                    R
                                                      (4096 * ((↑(nth s i 0).toNat : Int) - 224) + 64 * Sp.lowS s (i + 1) + Sp.lowS s (i + 2),
                                                        (↑(List.length (Sp.bytesC (4096 * ((↑(nth s i 0).toNat : Int) - 224) + 64 * Sp.lowS s (i + 1) + Sp.lowS s (i + 2)))) : Int), true)
                          else
                            bif decide (240 ≤ (↑(nth s i 0).toNat : Int)) then
                              bif decide ((↑(nth s i 0).toNat : Int) < 248) then
                                bif decide (0 ≤ Sp.lowS s (i + 1)) then
                                  bif decide (0 ≤ Sp.lowS s (i + 2)) then
                                    bif decide (0 ≤ Sp.lowS s (i + 3)) then
                                      Rg IntKind.i64 ((↑(nth s i 0).toNat : Int) - 240) ∧
                                        Rg IntKind.i64 (262144 * ((↑(nth s i 0).toNat : Int) - 240)) ∧
                                          Rg IntKind.i64 (4096 * Sp.lowS s (i + 1)) ∧
                                            Rg IntKind.i64 (262144 * ((↑(nth s i 0).toNat : Int) - 240) + 4096 * Sp.lowS s (i + 1)) ∧
                                              Rg IntKind.i64 (64 * Sp.lowS s (i + 2)) ∧
                                                Rg IntKind.i64 (262144 * ((↑(nth s i 0).toNat : Int) - 240) + 4096 * Sp.lowS s (i + 1) + 64 * Sp.lowS s (i + 2)) ∧
                                                  Rg IntKind.i64 (262144 * ((↑(nth s i 0).toNat : Int) - 240) + 4096 * Sp.lowS s (i + 1) + 64 * Sp.lowS s (i + 2) + Sp.lowS s (i + 3)) ∧
                                                    bif !Sp.isC (262144 * ((↑(nth s i 0).toNat : Int) - 240) + 4096 * Sp.lowS s (i + 1) + 64 * Sp.lowS s (i + 2) + Sp.lowS s (i + 3)) then
                                                      R (65533, 1, false)
                                                    else
                                                      Sp.any (262144 * ((↑(nth s i 0).toNat : Int) - 240) + 4096 * Sp.lowS s (i + 1) + 64 * Sp.lowS s (i + 2) + Sp.lowS s (i + 3)) ∧
                                                        Rg IntKind.i64 ((↑(List.length s) : Int) - i) ∧
                                                          bif
                                                              decide
                                                                ((↑(List.length s) : Int) - i <
                                                                  (↑(List.length
                                                                        (Sp.bytesC
                                                                          (262144 * ((↑(nth s i 0).toNat : Int) - 240) + 4096 * Sp.lowS s (i + 1) + 64 * Sp.lowS s (i + 2) +
                                                                            Sp.lowS s (i + 3)))) :
                                                                    Int)) then
                                                            R (65533, 1, false)
                                                          else
                                                            Rg IntKind.i64
                                                                (i +
                                                                  (↑(List.length
                                                                        (Sp.bytesC
                                                                          (262144 * ((↑(nth s i 0).toNat : Int) - 240) + 4096 * Sp.lowS s (i + 1) + 64 * Sp.lowS s (i + 2) +
                                                                            Sp.lowS s (i + 3)))) :
                                                                    Int)) ∧
                                                              Sb i
                                                                  (i +
                                                                    (↑(List.length
                                                                          (Sp.bytesC
                                                                            (262144 * ((↑(nth s i 0).toNat : Int) - 240) + 4096 * Sp.lowS s (i + 1) + 64 * Sp.lowS s (i + 2) +
                                                                              Sp.lowS s (i + 3)))) :
                                                                      Int))
                                                                  (List.length s) ∧
                                                                bif
                                                                    !decide
                                                                        (sub s i
                                                                            (i +
                                                                              (↑(List.length
                                                                                    (Sp.bytesC
                                                                                      (262144 * ((↑(nth s i 0).toNat : Int) - 240) + 4096 * Sp.lowS s (i + 1) + 64 * Sp.lowS s (i + 2) +
                                                                                        Sp.lowS s (i + 3)))) :
                                                                                Int)) =
                                                                          Sp.bytesC
                                                                            (262144 * ((↑(nth s i 0).toNat : Int) - 240) + 4096 * Sp.lowS s (i + 1) + 64 * Sp.lowS s (i + 2) +
                                                                              Sp.lowS s (i + 3))) then
                                                                  R (65533, 1, false)
                                                                else
                                                                  R
                                                                    (262144 * ((↑(nth s i 0).toNat : Int) - 240) + 4096 * Sp.lowS s (i + 1) + 64 * Sp.lowS s (i + 2) + Sp.lowS s (i + 3),
                                                                      (↑(List.length
                                                                            (Sp.bytesC
                                                                              (262144 * ((↑(nth s i 0).toNat : Int) - 240) + 4096 * Sp.lowS s (i + 1) + 64 * Sp.lowS s (i + 2) +
                                                                                Sp.lowS s (i + 3)))) :
                                                                        Int),
                                                                      true)
                                    else R (65533, 1, false)
                                  else R (65533, 1, false)
                                else R (65533, 1, false)
                              else R (65533, 1, false)
                            else R (65533, 1, false)
                        else
                          bif decide (240 ≤ (↑(nth s i 0).toNat : Int)) then
                            bif decide ((↑(nth s i 0).toNat : Int) < 248) then
                              bif decide (0 ≤ Sp.lowS s (i + 1)) then
                                bif decide (0 ≤ Sp.lowS s (i + 2)) then
                                  bif decide (0 ≤ Sp.lowS s (i + 3)) then
                                    Rg IntKind.i64 ((↑(nth s i 0).toNat : Int) - 240) ∧
                                      Rg IntKind.i64 (262144 * ((↑(nth s i 0).toNat : Int) - 240)) ∧
                                        Rg IntKind.i64 (4096 * Sp.lowS s (i + 1)) ∧
                                          Rg IntKind.i64 (262144 * ((↑(nth s i 0).toNat : Int) - 240) + 4096 * Sp.lowS s (i + 1)) ∧
                                            Rg IntKind.i64 (64 * Sp.lowS s (i + 2)) ∧
                                              Rg IntKind.i64 (262144 * ((↑(nth s i 0).toNat : Int) - 240) + 4096 * Sp.lowS s (i + 1) + 64 * Sp.lowS s (i + 2)) ∧
                                                Rg IntKind.i64 (262144 * ((↑(nth s i 0).toNat : Int) - 240) + 4096 * Sp.lowS s (i + 1) + 64 * Sp.lowS s (i + 2) + Sp.lowS s (i + 3)) ∧
                                                  bif !Sp.isC (262144 * ((↑(nth s i 0).toNat : Int) - 240) + 4096 * Sp.lowS s (i + 1) + 64 * Sp.lowS s (i + 2) + Sp.lowS s (i + 3)) then
                                                    R (65533, 1, false)
                                                  else
                                                    Sp.any (262144 * ((↑(nth s i 0).toNat : Int) - 240) + 4096 * Sp.lowS s (i + 1) + 64 * Sp.lowS s (i + 2) + Sp.lowS s (i + 3)) ∧
                                                      Rg IntKind.i64 ((↑(List.length s) : Int) - i) ∧
                                                        bif
                                                            decide
                                                              ((↑(List.length s) : Int) - i <
                                                                (↑(List.length
                                                                      (Sp.bytesC
                                                                        (262144 * ((↑(nth s i 0).toNat : Int) - 240) + 4096 * Sp.lowS s (i + 1) + 64 * Sp.lowS s (i + 2) +
                                                                          Sp.lowS s (i + 3)))) :
                                                                  Int)) then
                                                          R (65533, 1, false)
                                                        else
                                                          Rg IntKind.i64
                                                              (i +
                                                                (↑(List.length
                                                                      (Sp.bytesC
                                                                        (262144 * ((↑(nth s i 0).toNat : Int) - 240) + 4096 * Sp.lowS s (i + 1) + 64 * Sp.lowS s (i + 2) +
                                                                          Sp.lowS s (i + 3)))) :
                                                                  Int)) ∧
                                                            Sb i
                                                                (i +
                                                                  (↑(List.length
                                                                        (Sp.bytesC
                                                                          (262144 * ((↑(nth s i 0).toNat : Int) - 240) + 4096 * Sp.lowS s (i + 1) + 64 * Sp.lowS s (i + 2) +
                                                                            Sp.lowS s (i + 3)))) :
                                                                    Int))
                                                                (List.length s) ∧
                                                              bif
                                                                  !decide
                                                                      (sub s i
                                                                          (i +
                                                                            (↑(List.length
                                                                                  (Sp.bytesC
                                                                                    (262144 * ((↑(nth s i 0).toNat : Int) - 240) + 4096 * Sp.lowS s (i + 1) + 64 * Sp.lowS s (i + 2) +
                                                                                      Sp.lowS s (i + 3)))) :
                                                                              Int)) =
                                                                        Sp.bytesC
                                                                          (262144 * ((↑(nth s i 0).toNat : Int) - 240) + 4096 * Sp.lowS s (i + 1) + 64 * Sp.lowS s (i + 2) +
                                                                            Sp.lowS s (i + 3))) then
                                                                R (65533, 1, false)
                                                              else
                                                                R
                                                                  (262144 * ((↑(nth s i 0).toNat : Int) - 240) + 4096 * Sp.lowS s (i + 1) + 64 * Sp.lowS s (i + 2) + Sp.lowS s (i + 3),
                                                                    (↑(List.length
                                                                          (Sp.bytesC
                                                                            (262144 * ((↑(nth s i 0).toNat : Int) - 240) + 4096 * Sp.lowS s (i + 1) + 64 * Sp.lowS s (i + 2) +
                                                                              Sp.lowS s (i + 3)))) :
                                                                      Int),
                                                                    true)
                                  else R (65533, 1, false)
                                else R (65533, 1, false)
                              else R (65533, 1, false)
                            else R (65533, 1, false)
                          else R (65533, 1, false)
                      else
                        bif decide (240 ≤ (↑(nth s i 0).toNat : Int)) then
                          bif decide ((↑(nth s i 0).toNat : Int) < 248) then
                            bif decide (0 ≤ Sp.lowS s (i + 1)) then
                              bif decide (0 ≤ Sp.lowS s (i + 2)) then
                                bif decide (0 ≤ Sp.lowS s (i + 3)) then
                                  Rg IntKind.i64 ((↑(nth s i 0).toNat : Int) - 240) ∧
                                    Rg IntKind.i64 (262144 * ((↑(nth s i 0).toNat : Int) - 240)) ∧
                                      Rg IntKind.i64 (4096 * Sp.lowS s (i + 1)) ∧
                                        Rg IntKind.i64 (262144 * ((↑(nth s i 0).toNat : Int) - 240) + 4096 * Sp.lowS s (i + 1)) ∧
                                          Rg IntKind.i64 (64 * Sp.lowS s (i + 2)) ∧
                                            Rg IntKind.i64 (262144 * ((↑(nth s i 0).toNat : Int) - 240) + 4096 * Sp.lowS s (i + 1) + 64 * Sp.lowS s (i + 2)) ∧
                                              Rg IntKind.i64 (262144 * ((↑(nth s i 0).toNat : Int) - 240) + 4096 * Sp.lowS s (i + 1) + 64 * Sp.lowS s (i + 2) + Sp.lowS s (i + 3)) ∧
                                                bif !Sp.isC (262144 * ((↑(nth s i 0).toNat : Int) - 240) + 4096 * Sp.lowS s (i + 1) + 64 * Sp.lowS s (i + 2) + Sp.lowS s (i + 3)) then
                                                  R (65533, 1, false)
                                                else
                                                  Sp.any (262144 * ((↑(nth s i 0).toNat : Int) - 240) + 4096 * Sp.lowS s (i + 1) + 64 * Sp.lowS s (i + 2) + Sp.lowS s (i + 3)) ∧
                                                    Rg IntKind.i64 ((↑(List.length s) : Int) - i) ∧
                                                      bif
                                                          decide
                                                            ((↑(List.length s) : Int) - i <
                                                              (↑(List.length
                                                                    (Sp.bytesC
                                                                      (262144 * ((↑(nth s i 0).toNat : Int) - 240) + 4096 * Sp.lowS s (i + 1) + 64 * Sp.lowS s (i + 2) +
                                                                        Sp.lowS s (i + 3)))) :
                                                                Int)) then
                                                        R (65533, 1, false)
                                                      else
                                                        Rg IntKind.i64
                                                            (i +
                                                              (↑(List.length
                                                                    (Sp.bytesC
                                                                      (262144 * ((↑(nth s i 0).toNat : Int) - 240) + 4096 * Sp.lowS s (i + 1) + 64 * Sp.lowS s (i + 2) +
                                                                        Sp.lowS s (i + 3)))) :
                                                                Int)) ∧
                                                          Sb i
                                                              (i +
                                                                (↑(List.length
                                                                      (Sp.bytesC
                                                                        (262144 * ((↑(nth s i 0).toNat : Int) - 240) + 4096 * Sp.lowS s (i + 1) + 64 * Sp.lowS s (i + 2) +
                                                                          Sp.lowS s (i + 3)))) :
                                                                  Int))
                                                              (List.length s) ∧
                                                            bif
                                                                !decide
                                                                    (sub s i
                                                                        (i +
                                                                          (↑(List.length
                                                                                (Sp.bytesC
                                                                                  (262144 * ((↑(nth s i 0).toNat : Int) - 240) + 4096 * Sp.lowS s (i + 1) + 64 * Sp.lowS s (i + 2) +
                                                                                    Sp.lowS s (i + 3)))) :
                                                                            Int)) =
                                                                      Sp.bytesC
                                                                        (262144 * ((↑(nth s i 0).toNat : Int) - 240) + 4096 * Sp.lowS s (i + 1) + 64 * Sp.lowS s (i + 2) +
                                                                          Sp.lowS s (i + 3))) then
                                                              R (65533, 1, false)
                                                            else
                                                              R
                                                                (262144 * ((↑(nth s i 0).toNat : Int) - 240) + 4096 * Sp.lowS s (i + 1) + 64 * Sp.lowS s (i + 2) + Sp.lowS s (i + 3),
                                                                  (↑(List.length
                                                                        (Sp.bytesC
                                                                          (262144 * ((↑(nth s i 0).toNat : Int) - 240) + 4096 * Sp.lowS s (i + 1) + 64 * Sp.lowS s (i + 2) +
                                                                            Sp.lowS s (i + 3)))) :
                                                                    Int),
                                                                  true)
                                else R (65533, 1, false)
                              else R (65533, 1, false)
                            else R (65533, 1, false)
                          else R (65533, 1, false)
                        else R (65533, 1, false)
                    else
                      bif decide (240 ≤ (↑(nth s i 0).toNat : Int)) then
                        bif decide ((↑(nth s i 0).toNat : Int) < 248) then
                          bif decide (0 ≤ Sp.lowS s (i + 1)) then
                            bif decide (0 ≤ Sp.lowS s (i + 2)) then
                              bif decide (0 ≤ Sp.lowS s (i + 3)) then
                                Rg IntKind.i64 ((↑(nth s i 0).toNat : Int) - 240) ∧
                                  Rg IntKind.i64 (262144 * ((↑(nth s i 0).toNat : Int) - 240)) ∧
                                    Rg IntKind.i64 (4096 * Sp.lowS s (i + 1)) ∧
                                      Rg IntKind.i64 (262144 * ((↑(nth s i 0).toNat : Int) - 240) + 4096 * Sp.lowS s (i + 1)) ∧
                                        Rg IntKind.i64 (64 * Sp.lowS s (i + 2)) ∧
                                          Rg IntKind.i64 (262144 * ((↑(nth s i 0).toNat : Int) - 240) + 4096 * Sp.lowS s (i + 1) + 64 * Sp.lowS s (i + 2)) ∧
                                            Rg IntKind.i64 (262144 * ((↑(nth s i 0).toNat : Int) - 240) + 4096 * Sp.lowS s (i + 1) + 64 * Sp.lowS s (i + 2) + Sp.lowS s (i + 3)) ∧
                                              bif !Sp.isC (262144 * ((↑(nth s i 0).toNat : Int) - 240) + 4096 * Sp.lowS s (i + 1) + 64 * Sp.lowS s (i + 2) + Sp.lowS s (i + 3)) then
                                                R (65533, 1, false)
                                              else
                                                Sp.any (262144 * ((↑(nth s i 0).toNat : Int) - 240) + 4096 * Sp.lowS s (i + 1) + 64 * Sp.lowS s (i + 2) + Sp.lowS s (i + 3)) ∧
                                                  Rg IntKind.i64 ((↑(List.length s) : Int) - i) ∧
                                                    bif
                                                        decide
                                                          ((↑(List.length s) : Int) - i <
                                                            (↑(List.length
                                                                  (Sp.bytesC
                                                                    (262144 * ((↑(nth s i 0).toNat : Int) - 240) + 4096 * Sp.lowS s (i + 1) + 64 * Sp.lowS s (i + 2) + Sp.lowS s (i + 3)))) :
                                                              Int)) then
                                                      R (65533, 1, false)
                                                    else
                                                      Rg IntKind.i64
                                                          (i +
                                                            (↑(List.length
                                                                  (Sp.bytesC
                                                                    (262144 * ((↑(nth s i 0).toNat : Int) - 240) + 4096 * Sp.lowS s (i + 1) + 64 * Sp.lowS s (i + 2) + Sp.lowS s (i + 3)))) :
                                                              Int)) ∧
                                                        Sb i
                                                            (i +
                                                              (↑(List.length
                                                                    (Sp.bytesC
                                                                      (262144 * ((↑(nth s i 0).toNat : Int) - 240) + 4096 * Sp.lowS s (i + 1) + 64 * Sp.lowS s (i + 2) +
                                                                        Sp.lowS s (i + 3)))) :
                                                                Int))
                                                            (List.length s) ∧
                                                          bif
                                                              !decide
                                                                  (sub s i
                                                                      (i +
                                                                        (↑(List.length
                                                                              (Sp.bytesC
                                                                                (262144 * ((↑(nth s i 0).toNat : Int) - 240) + 4096 * Sp.lowS s (i + 1) + 64 * Sp.lowS s (i + 2) +
                                                                                  Sp.lowS s (i + 3)))) :
                                                                          Int)) =
                                                                    Sp.bytesC
                                                                      (262144 * ((↑(nth s i 0).toNat : Int) - 240) + 4096 * Sp.lowS s (i + 1) + 64 * Sp.lowS s (i + 2) +
                                                                        Sp.lowS s (i + 3))) then
                                                            R (65533, 1, false)
                                                          else
                                                            R
                                                              (262144 * ((↑(nth s i 0).toNat : Int) - 240) + 4096 * Sp.lowS s (i + 1) + 64 * Sp.lowS s (i + 2) + Sp.lowS s (i + 3),
                                                                (↑(List.length
                                                                      (Sp.bytesC
                                                                        (262144 * ((↑(nth s i 0).toNat : Int) - 240) + 4096 * Sp.lowS s (i + 1) + 64 * Sp.lowS s (i + 2) +
                                                                          Sp.lowS s (i + 3)))) :
                                                                  Int),
                                                                true)
                              else R (65533, 1, false)
                            else R (65533, 1, false)
                          else R (65533, 1, false)
                        else R (65533, 1, false)
                      else R (65533, 1, false)

def rectoref02_Of.L0 (R : List Int × Bool →
  Prop) (s : List
  UInt8) (i : Int) (t2_Right : Bool) (t2_L : List Int) (out_Right : Bool) (out_L : List Int) (K0 : List UInt8 × Int × Bool × List Int × Bool × List Int × Unit → Prop) : Prop :=
  bif decide (i < (↑s.length : Int)) then
    Sp.atG.pre s i ∧
      Gr out_L.length 1 8 ∧
        bif out_Right then Rg IntKind.i64 (i + (Sp.atG s i).snd.fst) ∧ K0 (s, i + (Sp.atG s i).snd.fst, t2_Right, t2_L, (Sp.atG s i).snd.snd, out_L ++ [(Sp.atG s i).fst], ())
        else Rg IntKind.i64 (i + (Sp.atG s i).snd.fst) ∧ K0 (s, i + (Sp.atG s i).snd.fst, t2_Right, t2_L, false, out_L ++ [(Sp.atG s i).fst], ())
  else R (out_L, out_Right)
def rectoref02_Of.vc (R : List Int × Bool → Prop) (s : Str) : Prop :=
  Lp (fun v K => rectoref02_Of.L0 R v.fst v.snd.fst v.snd.snd.fst v.snd.snd.snd.fst v.snd.snd.snd.snd.fst v.snd.snd.snd.snd.snd.fst K) (s, 0, false, [], true, [], ())

def rectoref06_Good.L0 (R : Bool → Prop) (s : List UInt8) (i : Int) (K0 : List UInt8 × Int × Unit → Prop) : Prop :=
  bif decide (i < (↑s.length : Int)) then
    Ix i s.length ∧
      bif decide ((↑(nth s i 0).toNat : Int) = 0) then R false else Ix i s.length ∧ bif decide ((↑(nth s i 0).toNat : Int) = 13) then R false else Rg IntKind.i64 (i + 1) ∧ K0 (s, i + 1, ())
  else Sp.ofS.pre s ∧ R (Sp.ofS s).snd
def rectoref06_Good.vc (R : Bool → Prop) (s : Str) : Prop :=
  Lp (fun v K => rectoref06_Good.L0 R v.fst v.snd.fst K) (s, 0, ())

def rectoref06_Wrong.L2 (R : Int →
  Prop) (K1 : List (List UInt8 × List UInt8) × List (List UInt8 × List UInt8) × Int × Int × Unit →
  Prop) (attrs : List
  (List UInt8 ×
    List
      UInt8)) (i : Int) (t31 : List
  (List UInt8 ×
    List
      UInt8)) (t32 : Int) (t33 : Int) (t38 : List
  (List UInt8 ×
    List
      UInt8)) (t39 : Int) (t40 : Int) (a_Name : List
  UInt8) (a_Value : List
  UInt8) (K2 : List (List UInt8 × List UInt8) × Int × List (List UInt8 × List UInt8) × Int × Int × List (List UInt8 × List UInt8) × Int × Int × List UInt8 × List UInt8 × Unit →
  Prop) : Prop :=
  bif decide (t40 < t39) then
    Ix t40 t38.length ∧
      bif decide (t40 < i) then bif decide (a_Name = (nth t38 t40 ([], [])).fst) then R 8 else Rg IntKind.i64 (t40 + 1) ∧ K2 (attrs, i, t31, t32, t33, t38, t39, t40 + 1, a_Name, a_Value, ())
      else Rg IntKind.i64 (t40 + 1) ∧ K2 (attrs, i, t31, t32, t33, t38, t39, t40 + 1, a_Name, a_Value, ())
  else Rg IntKind.i64 (t33 + 1) ∧ K1 (attrs, t31, t32, t33 + 1, ())
def rectoref06_Wrong.L1 (R : Int →
  Prop) (attrs : List
  (List UInt8 ×
    List UInt8)) (t31 : List (List UInt8 × List UInt8)) (t32 : Int) (t33 : Int) (K1 : List (List UInt8 × List UInt8) × List (List UInt8 × List UInt8) × Int × Int × Unit → Prop) : Prop :=
  bif decide (t33 < t32) then
    Ix t33 t31.length ∧
      Lp
        (fun v K =>
          rectoref06_Wrong.L2 R K1 v.fst v.snd.fst v.snd.snd.fst v.snd.snd.snd.fst v.snd.snd.snd.snd.fst v.snd.snd.snd.snd.snd.fst v.snd.snd.snd.snd.snd.snd.fst
            v.snd.snd.snd.snd.snd.snd.snd.fst v.snd.snd.snd.snd.snd.snd.snd.snd.fst v.snd.snd.snd.snd.snd.snd.snd.snd.snd.fst K)
        (attrs, t33, t31, t32, t33, attrs, (↑attrs.length : Int), 0, (nth t31 t33 ([], [])).fst, (nth t31 t33 ([], [])).snd, ())
  else bif decide (12 < (↑attrs.length : Int)) then R 2 else R 0
def rectoref06_Wrong.L0 (R : Int →
  Prop) (attrs : List
  (List UInt8 ×
    List UInt8)) (t14 : List (List UInt8 × List UInt8)) (t15 : Int) (t16 : Int) (K0 : List (List UInt8 × List UInt8) × List (List UInt8 × List UInt8) × Int × Int × Unit → Prop) : Prop :=
  bif decide (t16 < t15) then
    Ix t16 t14.length ∧
      Sp.nameS.pre (nth t14 t16 ([], [])).fst ∧
        bif !Sp.nameS (nth t14 t16 ([], [])).fst then R 4
        else Sp.ofS.pre (nth t14 t16 ([], [])).snd ∧ bif !Sp.goodS (nth t14 t16 ([], [])).snd then R 4 else Rg IntKind.i64 (t16 + 1) ∧ K0 (attrs, t14, t15, t16 + 1, ())
  else Lp (fun v K => rectoref06_Wrong.L1 R v.fst v.snd.fst v.snd.snd.fst v.snd.snd.snd.fst K) (attrs, attrs, (↑attrs.length : Int), 0, ())
def rectoref06_Wrong.vc (R : Int → Prop) (name : Str) (attrs : List (Str × Str)) : Prop :=
  Sp.nameS.pre name ∧ bif !Sp.nameS name then R 4 else Lp (fun v K => rectoref06_Wrong.L0 R v.fst v.snd.fst v.snd.snd.fst v.snd.snd.snd.fst K) (attrs, attrs, (↑attrs.length : Int), 0, ())

def rectoref08_leaf.vc (R : Bool → Prop) (n : Vi.Node) : Prop :=
  bif decide (n.kind = 2) then R true else R (decide (n.kind = 3))

def rectoref08_Depth.L0 (nn : Nat) (R : Int → Prop) (most : Int) (t7 : List Vi.Node) (t8 : Int) (t9 : Int) (K0 : Int × List Vi.Node × Int × Int × Unit → Prop) : Prop :=
  bif decide (t9 < t8) then
    Ix t9 t7.length ∧
      (Sp.prOk (Node.kids (nth t7 t9 (Vi.Node.mk 0 0 [] [] [] []))) ∧ Sp.mCt (Node.kids (nth t7 t9 (Vi.Node.mk 0 0 [] [] [] []))) < nn) ∧
        bif decide (0 < Sp.dpL (Node.kids (nth t7 t9 (Vi.Node.mk 0 0 [] [] [] [])))) then
          Rg IntKind.i64 (Sp.dpL (Node.kids (nth t7 t9 (Vi.Node.mk 0 0 [] [] [] []))) + 1) ∧
            bif decide (most < Sp.dpL (Node.kids (nth t7 t9 (Vi.Node.mk 0 0 [] [] [] []))) + 1) then
              Rg IntKind.i64 (t9 + 1) ∧ K0 (Sp.dpL (Node.kids (nth t7 t9 (Vi.Node.mk 0 0 [] [] [] []))) + 1, t7, t8, t9 + 1, ())
            else Rg IntKind.i64 (t9 + 1) ∧ K0 (most, t7, t8, t9 + 1, ())
        else
          bif
              !Sp.leafN
                  (Vi.Node.mk (Vi.Node.kind (nth t7 t9 (Vi.Node.mk 0 0 [] [] [] []))) (Node.space (nth t7 t9 (Vi.Node.mk 0 0 [] [] [] [])))
                    (Node.name (nth t7 t9 (Vi.Node.mk 0 0 [] [] [] []))) (Node.attrs (nth t7 t9 (Vi.Node.mk 0 0 [] [] [] []))) (Node.text (nth t7 t9 (Vi.Node.mk 0 0 [] [] [] [])))
                    (Node.kids (nth t7 t9 (Vi.Node.mk 0 0 [] [] [] [])))) then
            Rg IntKind.i64 (Sp.dpL (Node.kids (nth t7 t9 (Vi.Node.mk 0 0 [] [] [] []))) + 1) ∧
              bif decide (most < Sp.dpL (Node.kids (nth t7 t9 (Vi.Node.mk 0 0 [] [] [] []))) + 1) then
                Rg IntKind.i64 (t9 + 1) ∧ K0 (Sp.dpL (Node.kids (nth t7 t9 (Vi.Node.mk 0 0 [] [] [] []))) + 1, t7, t8, t9 + 1, ())
              else Rg IntKind.i64 (t9 + 1) ∧ K0 (most, t7, t8, t9 + 1, ())
          else
            bif decide (most < Sp.dpL (Node.kids (nth t7 t9 (Vi.Node.mk 0 0 [] [] [] [])))) then
              Rg IntKind.i64 (t9 + 1) ∧ K0 (Sp.dpL (Node.kids (nth t7 t9 (Vi.Node.mk 0 0 [] [] [] []))), t7, t8, t9 + 1, ())
            else Rg IntKind.i64 (t9 + 1) ∧ K0 (most, t7, t8, t9 + 1, ())
  else R most
def rectoref08_Depth.vc (R : Int → Prop) (nn : Nat) (l : List Vi.Node) : Prop :=
  Lp (fun v K => rectoref08_Depth.L0 nn R v.fst v.snd.fst v.snd.snd.fst v.snd.snd.snd.fst K) (0, l, (↑l.length : Int), 0, ())

def rectoref08_Right.L0 (nn : Nat) (R : Bool → Prop) (l : List Vi.Node) (t5 : List Vi.Node) (t6 : Int) (t7 : Int) (K0 : List Vi.Node × List Vi.Node × Int × Int × Unit → Prop) : Prop :=
  bif decide (t7 < t6) then
    Ix t7 t5.length ∧
      bif decide (Vi.Node.kind (nth t5 t7 (Vi.Node.mk 0 0 [] [] [] [])) = 2) then
        bif decide (0 < t7) then
          Rg IntKind.i64 (t7 - 1) ∧
            Ix (t7 - 1) l.length ∧
              bif decide (Vi.Node.kind (nth l (t7 - 1) (Vi.Node.mk 0 0 [] [] [] [])) = 2) then R false
              else
                bif
                    Sp.leafN
                      (Vi.Node.mk (Vi.Node.kind (nth t5 t7 (Vi.Node.mk 0 0 [] [] [] []))) (Node.space (nth t5 t7 (Vi.Node.mk 0 0 [] [] [] [])))
                        (Node.name (nth t5 t7 (Vi.Node.mk 0 0 [] [] [] []))) (Node.attrs (nth t5 t7 (Vi.Node.mk 0 0 [] [] [] []))) (Node.text (nth t5 t7 (Vi.Node.mk 0 0 [] [] [] [])))
                        (Node.kids (nth t5 t7 (Vi.Node.mk 0 0 [] [] [] [])))) then
                  bif !decide (Node.space (nth t5 t7 (Vi.Node.mk 0 0 [] [] [] [])) = 0) then R false
                  else
                    bif !decide (Node.name (nth t5 t7 (Vi.Node.mk 0 0 [] [] [] [])) = []) then R false
                    else
                      bif decide (0 < (↑(Node.attrs (nth t5 t7 (Vi.Node.mk 0 0 [] [] [] []))).length : Int)) then R false
                      else
                        bif decide (0 < (↑(Node.kids (nth t5 t7 (Vi.Node.mk 0 0 [] [] [] []))).length : Int)) then R false
                        else
                          Sp.ofS.pre (Node.text (nth t5 t7 (Vi.Node.mk 0 0 [] [] [] []))) ∧
                            bif !Sp.goodS (Node.text (nth t5 t7 (Vi.Node.mk 0 0 [] [] [] []))) then R false
                            else
                              bif decide (Vi.Node.kind (nth t5 t7 (Vi.Node.mk 0 0 [] [] [] [])) = 2) then
                                bif decide (Node.text (nth t5 t7 (Vi.Node.mk 0 0 [] [] [] [])) = []) then R false else Rg IntKind.i64 (t7 + 1) ∧ K0 (l, t5, t6, t7 + 1, ())
                              else Rg IntKind.i64 (t7 + 1) ∧ K0 (l, t5, t6, t7 + 1, ())
                else
                  bif !decide (Vi.Node.kind (nth t5 t7 (Vi.Node.mk 0 0 [] [] [] [])) = 1) then R false
                  else
                    bif decide (Node.space (nth t5 t7 (Vi.Node.mk 0 0 [] [] [] [])) < 0) then R false
                    else
                      bif decide (2 < Node.space (nth t5 t7 (Vi.Node.mk 0 0 [] [] [] []))) then R false
                      else
                        bif !decide (Node.text (nth t5 t7 (Vi.Node.mk 0 0 [] [] [] [])) = []) then R false
                        else
                          Sp.wrongT.pre (Node.name (nth t5 t7 (Vi.Node.mk 0 0 [] [] [] []))) (Node.attrs (nth t5 t7 (Vi.Node.mk 0 0 [] [] [] []))) ∧
                            bif !decide (Sp.wrongT (Node.name (nth t5 t7 (Vi.Node.mk 0 0 [] [] [] []))) (Node.attrs (nth t5 t7 (Vi.Node.mk 0 0 [] [] [] []))) = 0) then R false
                            else
                              (Sp.prOk (Node.kids (nth t5 t7 (Vi.Node.mk 0 0 [] [] [] []))) ∧ Sp.mCt (Node.kids (nth t5 t7 (Vi.Node.mk 0 0 [] [] [] []))) < nn) ∧
                                bif !Sp.rightP (Node.kids (nth t5 t7 (Vi.Node.mk 0 0 [] [] [] []))) then R false else Rg IntKind.i64 (t7 + 1) ∧ K0 (l, t5, t6, t7 + 1, ())
        else
          bif
              Sp.leafN
                (Vi.Node.mk (Vi.Node.kind (nth t5 t7 (Vi.Node.mk 0 0 [] [] [] []))) (Node.space (nth t5 t7 (Vi.Node.mk 0 0 [] [] [] []))) (Node.name (nth t5 t7 (Vi.Node.mk 0 0 [] [] [] [])))
                  (Node.attrs (nth t5 t7 (Vi.Node.mk 0 0 [] [] [] []))) (Node.text (nth t5 t7 (Vi.Node.mk 0 0 [] [] [] []))) (Node.kids (nth t5 t7 (Vi.Node.mk 0 0 [] [] [] [])))) then
            bif !decide (Node.space (nth t5 t7 (Vi.Node.mk 0 0 [] [] [] [])) = 0) then R false
            else
              bif !decide (Node.name (nth t5 t7 (Vi.Node.mk 0 0 [] [] [] [])) = []) then R false
              else
                bif decide (0 < (↑(Node.attrs (nth t5 t7 (Vi.Node.mk 0 0 [] [] [] []))).length : Int)) then R false
                else
                  bif decide (0 < (↑(Node.kids (nth t5 t7 (Vi.Node.mk 0 0 [] [] [] []))).length : Int)) then R false
                  else
                    Sp.ofS.pre (Node.text (nth t5 t7 (Vi.Node.mk 0 0 [] [] [] []))) ∧
                      bif !Sp.goodS (Node.text (nth t5 t7 (Vi.Node.mk 0 0 [] [] [] []))) then R false
                      else
                        bif decide (Vi.Node.kind (nth t5 t7 (Vi.Node.mk 0 0 [] [] [] [])) = 2) then
                          bif decide (Node.text (nth t5 t7 (Vi.Node.mk 0 0 [] [] [] [])) = []) then R false else Rg IntKind.i64 (t7 + 1) ∧ K0 (l, t5, t6, t7 + 1, ())
                        else Rg IntKind.i64 (t7 + 1) ∧ K0 (l, t5, t6, t7 + 1, ())
          else
            bif !decide (Vi.Node.kind (nth t5 t7 (Vi.Node.mk 0 0 [] [] [] [])) = 1) then R false
            else
              bif decide (Node.space (nth t5 t7 (Vi.Node.mk 0 0 [] [] [] [])) < 0) then R false
              else
                bif decide (2 < Node.space (nth t5 t7 (Vi.Node.mk 0 0 [] [] [] []))) then R false
                else
                  bif !decide (Node.text (nth t5 t7 (Vi.Node.mk 0 0 [] [] [] [])) = []) then R false
                  else
                    Sp.wrongT.pre (Node.name (nth t5 t7 (Vi.Node.mk 0 0 [] [] [] []))) (Node.attrs (nth t5 t7 (Vi.Node.mk 0 0 [] [] [] []))) ∧
                      bif !decide (Sp.wrongT (Node.name (nth t5 t7 (Vi.Node.mk 0 0 [] [] [] []))) (Node.attrs (nth t5 t7 (Vi.Node.mk 0 0 [] [] [] []))) = 0) then R false
                      else
                        (Sp.prOk (Node.kids (nth t5 t7 (Vi.Node.mk 0 0 [] [] [] []))) ∧ Sp.mCt (Node.kids (nth t5 t7 (Vi.Node.mk 0 0 [] [] [] []))) < nn) ∧
                          bif !Sp.rightP (Node.kids (nth t5 t7 (Vi.Node.mk 0 0 [] [] [] []))) then R false else Rg IntKind.i64 (t7 + 1) ∧ K0 (l, t5, t6, t7 + 1, ())
      else
        bif
            Sp.leafN
              (Vi.Node.mk (Vi.Node.kind (nth t5 t7 (Vi.Node.mk 0 0 [] [] [] []))) (Node.space (nth t5 t7 (Vi.Node.mk 0 0 [] [] [] []))) (Node.name (nth t5 t7 (Vi.Node.mk 0 0 [] [] [] [])))
                (Node.attrs (nth t5 t7 (Vi.Node.mk 0 0 [] [] [] []))) (Node.text (nth t5 t7 (Vi.Node.mk 0 0 [] [] [] []))) (Node.kids (nth t5 t7 (Vi.Node.mk 0 0 [] [] [] [])))) then
          bif !decide (Node.space (nth t5 t7 (Vi.Node.mk 0 0 [] [] [] [])) = 0) then R false
          else
            bif !decide (Node.name (nth t5 t7 (Vi.Node.mk 0 0 [] [] [] [])) = []) then R false
            else
              bif decide (0 < (↑(Node.attrs (nth t5 t7 (Vi.Node.mk 0 0 [] [] [] []))).length : Int)) then R false
              else
                bif decide (0 < (↑(Node.kids (nth t5 t7 (Vi.Node.mk 0 0 [] [] [] []))).length : Int)) then R false
                else
                  Sp.ofS.pre (Node.text (nth t5 t7 (Vi.Node.mk 0 0 [] [] [] []))) ∧
                    bif !Sp.goodS (Node.text (nth t5 t7 (Vi.Node.mk 0 0 [] [] [] []))) then R false
                    else
                      bif decide (Vi.Node.kind (nth t5 t7 (Vi.Node.mk 0 0 [] [] [] [])) = 2) then
                        bif decide (Node.text (nth t5 t7 (Vi.Node.mk 0 0 [] [] [] [])) = []) then R false else Rg IntKind.i64 (t7 + 1) ∧ K0 (l, t5, t6, t7 + 1, ())
                      else Rg IntKind.i64 (t7 + 1) ∧ K0 (l, t5, t6, t7 + 1, ())
        else
          bif !decide (Vi.Node.kind (nth t5 t7 (Vi.Node.mk 0 0 [] [] [] [])) = 1) then R false
          else
            bif decide (Node.space (nth t5 t7 (Vi.Node.mk 0 0 [] [] [] [])) < 0) then R false
            else
              bif decide (2 < Node.space (nth t5 t7 (Vi.Node.mk 0 0 [] [] [] []))) then R false
              else
                bif !decide (Node.text (nth t5 t7 (Vi.Node.mk 0 0 [] [] [] [])) = []) then R false
                else
                  Sp.wrongT.pre (Node.name (nth t5 t7 (Vi.Node.mk 0 0 [] [] [] []))) (Node.attrs (nth t5 t7 (Vi.Node.mk 0 0 [] [] [] []))) ∧
                    bif !decide (Sp.wrongT (Node.name (nth t5 t7 (Vi.Node.mk 0 0 [] [] [] []))) (Node.attrs (nth t5 t7 (Vi.Node.mk 0 0 [] [] [] []))) = 0) then R false
                    else
                      (Sp.prOk (Node.kids (nth t5 t7 (Vi.Node.mk 0 0 [] [] [] []))) ∧ Sp.mCt (Node.kids (nth t5 t7 (Vi.Node.mk 0 0 [] [] [] []))) < nn) ∧
                        bif !Sp.rightP (Node.kids (nth t5 t7 (Vi.Node.mk 0 0 [] [] [] []))) then R false else Rg IntKind.i64 (t7 + 1) ∧ K0 (l, t5, t6, t7 + 1, ())
  else R true
def rectoref08_Right.vc (R : Bool → Prop) (nn : Nat) (l : List Vi.Node) : Prop :=
  Lp (fun v K => rectoref08_Right.L0 nn R v.fst v.snd.fst v.snd.snd.fst v.snd.snd.snd.fst K) (l, l, (↑l.length : Int), 0, ())

def rectoref08_Check.vc (R : Int → Prop) (l : List Vi.Node) : Prop :=
  Sp.prOk l ∧ bif decide (300 < Sp.countP l) then R 2 else Sp.prOk l ∧ bif decide (40 < Sp.dpL l) then R 2 else Sp.prOk l ∧ bif !Sp.rightP l then R 4 else R 0
