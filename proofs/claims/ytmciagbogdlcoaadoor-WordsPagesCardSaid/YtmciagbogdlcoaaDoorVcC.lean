/- Conditions of functions. Written by a program of this session. -/
import Derived.Test.YtmciagbogdlcoaaDoorSpC
set_option linter.unnecessarySimpa false
set_option linter.unusedVariables false
set_option linter.unusedSectionVars false
set_option linter.unusedSimpArgs false
set_option autoImplicit false
set_option linter.unusedVariables false
open Go Vi

def match_counts.L2 (K1 : List (List UInt8) × List (List UInt8) × Int × Int × List (List Int) × Unit →
  Prop) (a : List
  (List
    UInt8)) (b : List
  (List UInt8)) (i : Int) (j : Int) (out_n : Int) (out : List (List Int)) (K2 : List (List UInt8) × List (List UInt8) × Int × Int × Int × List (List Int) × Unit → Prop) : Prop :=
  bif decide (0 ≤ j) then
    Ix i out_n.toNat ∧
      Rg IntKind.i64 (i + 1) ∧
        Ix (i + 1) out_n.toNat ∧
          Ix j (nth out (i + 1) []).length ∧
            Ix i out_n.toNat ∧
              Rg IntKind.i64 (j + 1) ∧
                Ix (j + 1) (nth out i []).length ∧
                  Ix j (nth out i []).length ∧
                    Ix i a.length ∧
                      Ix j b.length ∧
                        bif decide (nth a i [] = nth b j []) then
                          Ix i out_n.toNat ∧
                            Rg IntKind.i64 (i + 1) ∧
                              Ix (i + 1) out_n.toNat ∧
                                Rg IntKind.i64 (j + 1) ∧
                                  Ix (j + 1) (nth (out.set i.toNat ((nth out i []).set j.toNat (mx (nth (nth out (i + 1) []) j 0) (nth (nth out i []) (j + 1) 0)))) (i + 1) []).length ∧
                                    Rg IntKind.i64
                                        (1 +
                                          nth (nth (out.set i.toNat ((nth out i []).set j.toNat (mx (nth (nth out (i + 1) []) j 0) (nth (nth out i []) (j + 1) 0)))) (i + 1) []) (j + 1) 0) ∧
                                      Ix j (nth (out.set i.toNat ((nth out i []).set j.toNat (mx (nth (nth out (i + 1) []) j 0) (nth (nth out i []) (j + 1) 0)))) i []).length ∧
                                        Rg IntKind.i64 (j - 1) ∧
                                          K2
                                            (a, b, i, j - 1, (↑out_n.toNat : Int),
                                              (out.set i.toNat ((nth out i []).set j.toNat (mx (nth (nth out (i + 1) []) j 0) (nth (nth out i []) (j + 1) 0)))).set i.toNat
                                                ((nth (out.set i.toNat ((nth out i []).set j.toNat (mx (nth (nth out (i + 1) []) j 0) (nth (nth out i []) (j + 1) 0)))) i []).set j.toNat
                                                  (1 +
                                                    nth (nth (out.set i.toNat ((nth out i []).set j.toNat (mx (nth (nth out (i + 1) []) j 0) (nth (nth out i []) (j + 1) 0)))) (i + 1) [])
                                                      (j + 1) 0)),
                                              ())
                        else
                          Rg IntKind.i64 (j - 1) ∧
                            K2 (a, b, i, j - 1, (↑out_n.toNat : Int), out.set i.toNat ((nth out i []).set j.toNat (mx (nth (nth out (i + 1) []) j 0) (nth (nth out i []) (j + 1) 0))), ())
  else Rg IntKind.i64 (i - 1) ∧ K1 (a, b, i - 1, (↑out_n.toNat : Int), out, ())
def match_counts.L1 (R : Int →
  List (List Int) →
    Prop) (a : List
  (List UInt8)) (b : List (List UInt8)) (i : Int) (out_n : Int) (out : List (List Int)) (K1 : List (List UInt8) × List (List UInt8) × Int × Int × List (List Int) × Unit → Prop) : Prop :=
  bif decide (0 ≤ i) then
    Rg IntKind.i64 ((↑b.length : Int) - 1) ∧
      Lp (fun v K => match_counts.L2 K1 v.fst v.snd.fst v.snd.snd.fst v.snd.snd.snd.fst v.snd.snd.snd.snd.fst v.snd.snd.snd.snd.snd.fst K)
        (a, b, i, (↑b.length : Int) - 1, (↑out_n.toNat : Int), out, ())
  else R (↑out_n.toNat : Int) out
def match_counts.L0 (R : Int →
  List (List Int) →
    Prop) (a : List
  (List
    UInt8)) (b : List
  (List UInt8)) (t14 : Int) (t15 : Int) (out_n : Int) (out : List (List Int)) (K0 : List (List UInt8) × List (List UInt8) × Int × Int × Int × List (List Int) × Unit → Prop) : Prop :=
  bif decide (t15 < t14) then
    Rg IntKind.i64 ((↑b.length : Int) + 1) ∧
      Mk ((↑b.length : Int) + 1) ((↑b.length : Int) + 1) 8 ∧
        Ix t15 out_n.toNat ∧ Rg IntKind.i64 (t15 + 1) ∧ K0 (a, b, t14, t15 + 1, (↑out_n.toNat : Int), out.set t15.toNat (rep ((↑b.length : Int) + 1) 0), ())
  else
    Rg IntKind.i64 ((↑a.length : Int) - 1) ∧
      Lp (fun v K => match_counts.L1 R v.fst v.snd.fst v.snd.snd.fst v.snd.snd.snd.fst v.snd.snd.snd.snd.fst K) (a, b, (↑a.length : Int) - 1, (↑out_n.toNat : Int), out, ())
def match_counts.vc (R : Int → List (List Int) → Prop) (a : List Str) (b : List Str) : Prop :=
  Rg IntKind.i64 ((↑a.length : Int) + 1) ∧
    Mk ((↑a.length : Int) + 1) ((↑a.length : Int) + 1) 24 ∧
      Lp (fun v K => match_counts.L0 R v.fst v.snd.fst v.snd.snd.fst v.snd.snd.snd.fst v.snd.snd.snd.snd.fst v.snd.snd.snd.snd.snd.fst K)
        (a, b, (↑((↑a.length : Int) + 1).toNat : Int), 0, (↑((↑a.length : Int) + 1).toNat : Int), rep ((↑a.length : Int) + 1) [], ())

def match_Line.L0 (R : List (Int × Int × Bool) →
  Prop) (a : List
  (List
    UInt8)) (b : List
  (List
    UInt8)) (i : Int) (j : Int) (n_n : Int) (n : List
  (List Int)) (out : List (Int × Int × Bool)) (K0 : List (List UInt8) × List (List UInt8) × Int × Int × Int × List (List Int) × List (Int × Int × Bool) × Unit → Prop) : Prop :=
  bif decide (i < (↑a.length : Int)) then
    bif decide (j < (↑b.length : Int)) then
      Ix i a.length ∧
        Ix j b.length ∧
          bif decide (nth a i [] = nth b j []) then
            Gr out.length 1 24 ∧ Rg IntKind.i64 (i + 1) ∧ Rg IntKind.i64 (j + 1) ∧ K0 (a, b, i + 1, j + 1, (↑n_n.toNat : Int), n, out ++ [(i, j, true)], ())
          else
            Rg IntKind.i64 (i + 1) ∧
              Ix (i + 1) n_n.toNat ∧
                Ix j (nth n (i + 1) []).length ∧
                  Ix i n_n.toNat ∧
                    Rg IntKind.i64 (j + 1) ∧
                      Ix (j + 1) (nth n i []).length ∧
                        bif decide (nth (nth n i []) (j + 1) 0 ≤ nth (nth n (i + 1) []) j 0) then Rg IntKind.i64 (i + 1) ∧ K0 (a, b, i + 1, j, (↑n_n.toNat : Int), n, out, ())
                        else Rg IntKind.i64 (j + 1) ∧ K0 (a, b, i, j + 1, (↑n_n.toNat : Int), n, out, ())
    else R out
  else R out
def match_Line.vc (R : List (Int × Int × Bool) → Prop) (a : List Str) (b : List Str) : Prop :=
  Sp.table.pre a b ∧
    Lp (fun v K => match_Line.L0 R v.fst v.snd.fst v.snd.snd.fst v.snd.snd.snd.fst v.snd.snd.snd.snd.fst v.snd.snd.snd.snd.snd.fst v.snd.snd.snd.snd.snd.snd.fst K)
      (a, b, 0, 0, (↑(↑(Sp.table a b).length : Int).toNat : Int), Sp.table a b, [], ())

def rectoref20_best.L2 (K1 : List (List UInt8) × List (List UInt8) × Int × List (List Int) × Unit →
  Prop) (a : List
  (List
    UInt8)) (b : List
  (List
    UInt8)) (i : Int) (ahead : List
  Int) (j : Int) (out : List (List Int)) (row : List Int) (K2 : List (List UInt8) × List (List UInt8) × Int × List Int × Int × List (List Int) × List Int × Unit → Prop) : Prop :=
  bif decide (0 ≤ j) then
    Ix 0 row.length ∧
      Ix j ahead.length ∧
        bif decide (nth row 0 0 < nth ahead j 0) then
          Ix j ahead.length ∧
            Ix i a.length ∧
              Ix j b.length ∧
                bif decide (nth a i [] = nth b j []) then
                  Rg IntKind.i64 (j + 1) ∧
                    Ix (j + 1) ahead.length ∧
                      Rg IntKind.i64 (nth ahead (j + 1) 0 + 1) ∧
                        bif decide (nth ahead j 0 < nth ahead (j + 1) 0 + 1) then
                          Rg IntKind.i64 (j + 1) ∧
                            Ix (j + 1) ahead.length ∧
                              Rg IntKind.i64 (nth ahead (j + 1) 0 + 1) ∧ Gr 1 row.length 8 ∧ Rg IntKind.i64 (j - 1) ∧ K2 (a, b, i, ahead, j - 1, out, (nth ahead (j + 1) 0 + 1) :: row, ())
                        else Gr 1 row.length 8 ∧ Rg IntKind.i64 (j - 1) ∧ K2 (a, b, i, ahead, j - 1, out, nth ahead j 0 :: row, ())
                else Gr 1 row.length 8 ∧ Rg IntKind.i64 (j - 1) ∧ K2 (a, b, i, ahead, j - 1, out, nth ahead j 0 :: row, ())
        else
          Ix i a.length ∧
            Ix j b.length ∧
              bif decide (nth a i [] = nth b j []) then
                Rg IntKind.i64 (j + 1) ∧
                  Ix (j + 1) ahead.length ∧
                    Rg IntKind.i64 (nth ahead (j + 1) 0 + 1) ∧
                      bif decide (nth row 0 0 < nth ahead (j + 1) 0 + 1) then
                        Rg IntKind.i64 (j + 1) ∧
                          Ix (j + 1) ahead.length ∧
                            Rg IntKind.i64 (nth ahead (j + 1) 0 + 1) ∧ Gr 1 row.length 8 ∧ Rg IntKind.i64 (j - 1) ∧ K2 (a, b, i, ahead, j - 1, out, (nth ahead (j + 1) 0 + 1) :: row, ())
                      else Gr 1 row.length 8 ∧ Rg IntKind.i64 (j - 1) ∧ K2 (a, b, i, ahead, j - 1, out, nth row 0 0 :: row, ())
              else Gr 1 row.length 8 ∧ Rg IntKind.i64 (j - 1) ∧ K2 (a, b, i, ahead, j - 1, out, nth row 0 0 :: row, ())
  else Gr 1 out.length 24 ∧ Rg IntKind.i64 (i - 1) ∧ K1 (a, b, i - 1, row :: out, ())
def rectoref20_best.L1 (R : List (List Int) →
  Prop) (a : List (List UInt8)) (b : List (List UInt8)) (i : Int) (out : List (List Int)) (K1 : List (List UInt8) × List (List UInt8) × Int × List (List Int) × Unit → Prop) : Prop :=
  bif decide (0 ≤ i) then
    Ix 0 out.length ∧
      Rg IntKind.i64 ((↑b.length : Int) - 1) ∧
        Lp (fun v K => rectoref20_best.L2 K1 v.fst v.snd.fst v.snd.snd.fst v.snd.snd.snd.fst v.snd.snd.snd.snd.fst v.snd.snd.snd.snd.snd.fst v.snd.snd.snd.snd.snd.snd.fst K)
          (a, b, i, nth out 0 [], (↑b.length : Int) - 1, out, [0], ())
  else R out
def rectoref20_best.L0 (R : List (List Int) →
  Prop) (a : List
  (List UInt8)) (b : List (List UInt8)) (t16 : Int) (t17 : Int) (last_N : List Int) (K0 : List (List UInt8) × List (List UInt8) × Int × Int × List Int × Unit → Prop) : Prop :=
  bif decide (t17 < t16) then Gr last_N.length 1 8 ∧ Rg IntKind.i64 (t17 + 1) ∧ K0 (a, b, t16, t17 + 1, last_N ++ [0], ())
  else
    Gr last_N.length 1 8 ∧
      Rg IntKind.i64 ((↑a.length : Int) - 1) ∧ Lp (fun v K => rectoref20_best.L1 R v.fst v.snd.fst v.snd.snd.fst v.snd.snd.snd.fst K) (a, b, (↑a.length : Int) - 1, [last_N ++ [0]], ())
def rectoref20_best.vc (R : List (List Int) → Prop) (a : List Str) (b : List Str) : Prop :=
  Lp (fun v K => rectoref20_best.L0 R v.fst v.snd.fst v.snd.snd.fst v.snd.snd.snd.fst v.snd.snd.snd.snd.fst K) (a, b, (↑b.length : Int), 0, [], ())

def rectoref20_Line.L0 (R : List (Int × Int × Bool) →
  Prop) (a : List
  (List
    UInt8)) (b : List
  (List
    UInt8)) (i : Int) (j : Int) (rest : List
  (List Int)) (out : List (Int × Int × Bool)) (K0 : List (List UInt8) × List (List UInt8) × Int × Int × List (List Int) × List (Int × Int × Bool) × Unit → Prop) : Prop :=
  bif decide (i < (↑a.length : Int)) then
    bif decide (j < (↑b.length : Int)) then
      Ix i a.length ∧
        Ix j b.length ∧
          bif decide (nth a i [] = nth b j []) then Gr out.length 1 24 ∧ Rg IntKind.i64 (i + 1) ∧ Rg IntKind.i64 (j + 1) ∧ K0 (a, b, i + 1, j + 1, rest, out ++ [(i, j, true)], ())
          else
            Rg IntKind.i64 (i + 1) ∧
              Ix (i + 1) rest.length ∧
                Ix j (List.length (nth rest (i + 1) [])) ∧
                  Ix i rest.length ∧
                    Rg IntKind.i64 (j + 1) ∧
                      Ix (j + 1) (List.length (nth rest i [])) ∧
                        bif decide (nth (nth rest i []) (j + 1) 0 ≤ nth (nth rest (i + 1) []) j 0) then Rg IntKind.i64 (i + 1) ∧ K0 (a, b, i + 1, j, rest, out, ())
                        else Rg IntKind.i64 (j + 1) ∧ K0 (a, b, i, j + 1, rest, out, ())
    else R out
  else R out
def rectoref20_Line.vc (R : List (Int × Int × Bool) → Prop) (a : List Str) (b : List Str) : Prop :=
  Sp.table.pre a b ∧ Lp (fun v K => rectoref20_Line.L0 R v.fst v.snd.fst v.snd.snd.fst v.snd.snd.snd.fst v.snd.snd.snd.snd.fst v.snd.snd.snd.snd.snd.fst K) (a, b, 0, 0, Sp.table a b, [], ())

