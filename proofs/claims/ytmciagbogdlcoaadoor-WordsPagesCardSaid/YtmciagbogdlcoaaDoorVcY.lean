/- Conditions of functions. Written by a program of this session. -/
import Derived.Test.YtmciagbogdlcoaaDoorSpY
set_option linter.unnecessarySimpa false
set_option linter.unusedVariables false
set_option linter.unusedSectionVars false
set_option linter.unusedSimpArgs false
set_option autoImplicit false
set_option linter.unusedVariables false
open Go Vi

def chars_Space.vc (R : Bool → Prop) (b : Int) : Prop :=
  bif decide (b = 9) then R true else bif decide (b = 10) then R true else bif decide (b = 12) then R true else R (decide (b = 32))

def words_Split.L1 (K0 : List UInt8 × List (List UInt8) × Unit →
  Prop) (s : List UInt8) (n : Int) (out : List (List UInt8)) (K1 : List UInt8 × Int × List (List UInt8) × Unit → Prop) : Prop :=
  bif decide (n < (↑s.length : Int)) then
    Ix n s.length ∧
      Ix 0 s.length ∧
        bif eqB (Sp.spB (↑(nth s n 0).toNat : Int)) (Sp.spB (↑(nth s 0 0).toNat : Int)) then Rg IntKind.i64 (n + 1) ∧ K1 (s, n + 1, out, ())
        else Sb 0 n s.length ∧ Gr out.length 1 16 ∧ Sb n (↑s.length : Int) s.length ∧ K0 (sub s n (↑s.length : Int), out ++ [sub s 0 n], ())
  else Sb 0 n s.length ∧ Gr out.length 1 16 ∧ Sb n (↑s.length : Int) s.length ∧ K0 (sub s n (↑s.length : Int), out ++ [sub s 0 n], ())
def words_Split.L0 (R : List (List UInt8) → Prop) (s : List UInt8) (out : List (List UInt8)) (K0 : List UInt8 × List (List UInt8) × Unit → Prop) : Prop :=
  bif !decide (s = []) then Lp (fun v K => words_Split.L1 K0 v.fst v.snd.fst v.snd.snd.fst K) (s, 1, out, ()) else R out
def words_Split.vc (R : List (List UInt8) → Prop) (s : Str) : Prop :=
  Lp (fun v K => words_Split.L0 R v.fst v.snd.fst K) (s, [], ())

def words_Lists_1.L1 (R : Int →
  List (List UInt8) →
    Int →
      List (List UInt8) →
        List (Int × List UInt8) →
          Prop) (toB : Int) (i : Int) (a : List
  (List
    UInt8)) (j : Int) (b : List
  (List UInt8)) (out : List (Int × List UInt8)) (K1 : Int × Int × List (List UInt8) × Int × List (List UInt8) × List (Int × List UInt8) × Unit → Prop) : Prop :=
  bif decide (j < toB) then Ix j b.length ∧ Gr out.length 1 24 ∧ Rg IntKind.i64 (j + 1) ∧ K1 (toB, i, a, j + 1, b, out ++ [(3, nth b j [])], ()) else R i a j b out
def words_Lists_1.L0 (R : Int →
  List (List UInt8) →
    Int →
      List (List UInt8) →
        List (Int × List UInt8) →
          Prop) (toA : Int) (toB : Int) (i : Int) (a : List
  (List
    UInt8)) (j : Int) (b : List
  (List UInt8)) (out : List (Int × List UInt8)) (K0 : Int × Int × Int × List (List UInt8) × Int × List (List UInt8) × List (Int × List UInt8) × Unit → Prop) : Prop :=
  bif decide (i < toA) then Ix i a.length ∧ Gr out.length 1 24 ∧ Rg IntKind.i64 (i + 1) ∧ K0 (toA, toB, i + 1, a, j, b, out ++ [(2, nth a i [])], ())
  else Lp (fun v K => words_Lists_1.L1 R v.fst v.snd.fst v.snd.snd.fst v.snd.snd.snd.fst v.snd.snd.snd.snd.fst v.snd.snd.snd.snd.snd.fst K) (toB, i, a, j, b, out, ())
def words_Lists_1.vc (R : Int →
  List (List UInt8) → Int → List (List UInt8) → List (Int × List UInt8) → Prop) (toA : Int) (toB : Int) (i : Int) (a : List Str) (j : Int) (b : List Str) (out : List (Int × Str)) : Prop :=
  Lp (fun v K => words_Lists_1.L0 R v.fst v.snd.fst v.snd.snd.fst v.snd.snd.snd.fst v.snd.snd.snd.snd.fst v.snd.snd.snd.snd.snd.fst v.snd.snd.snd.snd.snd.snd.fst K)
    (toA, toB, i, a, j, b, out, ())

def words_Lists.L0 (R : List (Int × List UInt8) →
  Prop) (t15 : Int) (t16 : Int) (a : List
  (List
    UInt8)) (b : List
  (List
    UInt8)) (out : List
  (Int ×
    List
      UInt8)) (i : Int) (j : Int) (t14 : List
  (Int × Int × Bool)) (K0 : Int × Int × List (List UInt8) × List (List UInt8) × List (Int × List UInt8) × Int × Int × List (Int × Int × Bool) × Unit → Prop) : Prop :=
  bif decide (t16 < t15) then
    Ix t16 t14.length ∧
      Sp.up.pre (nth t14 t16 (0, 0, false)).fst (nth t14 t16 (0, 0, false)).snd.fst i out a j b ∧
        Ix (nth t14 t16 (0, 0, false)).fst a.length ∧
          Gr (Sp.up (nth t14 t16 (0, 0, false)).fst (nth t14 t16 (0, 0, false)).snd.fst i out a j b).length 1 24 ∧
            Rg IntKind.i64 ((nth t14 t16 (0, 0, false)).fst + 1) ∧
              Rg IntKind.i64 ((nth t14 t16 (0, 0, false)).snd.fst + 1) ∧
                Rg IntKind.i64 (t16 + 1) ∧
                  K0
                    (t15, t16 + 1, a, b, Sp.up (nth t14 t16 (0, 0, false)).fst (nth t14 t16 (0, 0, false)).snd.fst i out a j b ++ [(1, nth a (nth t14 t16 (0, 0, false)).fst [])],
                      (nth t14 t16 (0, 0, false)).fst + 1, (nth t14 t16 (0, 0, false)).snd.fst + 1, t14, ())
  else Sp.up.pre (↑a.length : Int) (↑b.length : Int) i out a j b ∧ R (Sp.up (↑a.length : Int) (↑b.length : Int) i out a j b)
def words_Lists.vc (R : List (Int × List UInt8) → Prop) (a : List Str) (b : List Str) : Prop :=
  Sp.lines.pre a b ∧
    Lp
      (fun v K =>
        words_Lists.L0 R v.fst v.snd.fst v.snd.snd.fst v.snd.snd.snd.fst v.snd.snd.snd.snd.fst v.snd.snd.snd.snd.snd.fst v.snd.snd.snd.snd.snd.snd.fst v.snd.snd.snd.snd.snd.snd.snd.fst K)
      ((↑(Sp.lines a b).length : Int), 0, a, b, [], 0, 0, Sp.lines a b, ())

def rectoref24_Lists.L2 (K0 : List (List UInt8) × List (List UInt8) × Int × Int × Int × List (Int × Int × Bool) × List (Int × List UInt8) × Unit →
  Prop) (a : List
  (List
    UInt8)) (b : List
  (List
    UInt8)) (i : Int) (j : Int) (k : Int) (pairs : List
  (Int ×
    Int ×
      Bool)) (out : List
  (Int ×
    List
      UInt8)) (p_A : Int) (p_B : Int) (p_Whole : Bool) (K2 : List (List UInt8) ×
    List (List UInt8) × Int × Int × Int × List (Int × Int × Bool) × List (Int × List UInt8) × Int × Int × Bool × Unit →
  Prop) : Prop :=
  bif decide (j < p_B) then Ix j b.length ∧ Gr out.length 1 24 ∧ Rg IntKind.i64 (j + 1) ∧ K2 (a, b, i, j + 1, k, pairs, out ++ [(3, nth b j [])], p_A, p_B, p_Whole, ())
  else
    bif decide (k < (↑pairs.length : Int)) then
      Ix i a.length ∧ Gr out.length 1 24 ∧ Rg IntKind.i64 (i + 1) ∧ Rg IntKind.i64 (j + 1) ∧ Rg IntKind.i64 (k + 1) ∧ K0 (a, b, i + 1, j + 1, k + 1, pairs, out ++ [(1, nth a i [])], ())
    else Rg IntKind.i64 (i + 1) ∧ Rg IntKind.i64 (j + 1) ∧ Rg IntKind.i64 (k + 1) ∧ K0 (a, b, i + 1, j + 1, k + 1, pairs, out, ())
def rectoref24_Lists.L1 (K0 : List (List UInt8) × List (List UInt8) × Int × Int × Int × List (Int × Int × Bool) × List (Int × List UInt8) × Unit →
  Prop) (a : List
  (List
    UInt8)) (b : List
  (List
    UInt8)) (i : Int) (j : Int) (k : Int) (pairs : List
  (Int ×
    Int ×
      Bool)) (out : List
  (Int ×
    List
      UInt8)) (p_A : Int) (p_B : Int) (p_Whole : Bool) (K1 : List (List UInt8) ×
    List (List UInt8) × Int × Int × Int × List (Int × Int × Bool) × List (Int × List UInt8) × Int × Int × Bool × Unit →
  Prop) : Prop :=
  bif decide (i < p_A) then Ix i a.length ∧ Gr out.length 1 24 ∧ Rg IntKind.i64 (i + 1) ∧ K1 (a, b, i + 1, j, k, pairs, out ++ [(2, nth a i [])], p_A, p_B, p_Whole, ())
  else
    Lp
      (fun v K =>
        rectoref24_Lists.L2 K0 v.fst v.snd.fst v.snd.snd.fst v.snd.snd.snd.fst v.snd.snd.snd.snd.fst v.snd.snd.snd.snd.snd.fst v.snd.snd.snd.snd.snd.snd.fst v.snd.snd.snd.snd.snd.snd.snd.fst
          v.snd.snd.snd.snd.snd.snd.snd.snd.fst v.snd.snd.snd.snd.snd.snd.snd.snd.snd.fst K)
      (a, b, i, j, k, pairs, out, p_A, p_B, p_Whole, ())
def rectoref24_Lists.L4 (K0 : List (List UInt8) × List (List UInt8) × Int × Int × Int × List (Int × Int × Bool) × List (Int × List UInt8) × Unit →
  Prop) (x40 : List
  (List
    UInt8)) (x41 : List
  (List
    UInt8)) (x42 : Int) (x43 : Int) (x44 : Int) (x45 : List
  (Int ×
    Int ×
      Bool)) (x46 : List
  (Int ×
    List
      UInt8)) (x47 : Int) (x48 : Int) (x49 : Bool) (K4 : List (List UInt8) ×
    List (List UInt8) × Int × Int × Int × List (Int × Int × Bool) × List (Int × List UInt8) × Int × Int × Bool × Unit →
  Prop) : Prop :=
  bif decide (x43 < x48) then Ix x43 x41.length ∧ Gr x46.length 1 24 ∧ Rg IntKind.i64 (x43 + 1) ∧ K4 (x40, x41, x42, x43 + 1, x44, x45, x46 ++ [(3, nth x41 x43 [])], x47, x48, x49, ())
  else
    bif decide (x44 < (↑x45.length : Int)) then
      Ix x42 x40.length ∧
        Gr x46.length 1 24 ∧ Rg IntKind.i64 (x42 + 1) ∧ Rg IntKind.i64 (x43 + 1) ∧ Rg IntKind.i64 (x44 + 1) ∧ K0 (x40, x41, x42 + 1, x43 + 1, x44 + 1, x45, x46 ++ [(1, nth x40 x42 [])], ())
    else Rg IntKind.i64 (x42 + 1) ∧ Rg IntKind.i64 (x43 + 1) ∧ Rg IntKind.i64 (x44 + 1) ∧ K0 (x40, x41, x42 + 1, x43 + 1, x44 + 1, x45, x46, ())
def rectoref24_Lists.L3 (K0 : List (List UInt8) × List (List UInt8) × Int × Int × Int × List (Int × Int × Bool) × List (Int × List UInt8) × Unit →
  Prop) (x30 : List
  (List
    UInt8)) (x31 : List
  (List
    UInt8)) (x32 : Int) (x33 : Int) (x34 : Int) (x35 : List
  (Int ×
    Int ×
      Bool)) (x36 : List
  (Int ×
    List
      UInt8)) (x37 : Int) (x38 : Int) (x39 : Bool) (K3 : List (List UInt8) ×
    List (List UInt8) × Int × Int × Int × List (Int × Int × Bool) × List (Int × List UInt8) × Int × Int × Bool × Unit →
  Prop) : Prop :=
  bif decide (x32 < x37) then Ix x32 x30.length ∧ Gr x36.length 1 24 ∧ Rg IntKind.i64 (x32 + 1) ∧ K3 (x30, x31, x32 + 1, x33, x34, x35, x36 ++ [(2, nth x30 x32 [])], x37, x38, x39, ())
  else
    Lp
      (fun v K =>
        rectoref24_Lists.L4 K0 v.fst v.snd.fst v.snd.snd.fst v.snd.snd.snd.fst v.snd.snd.snd.snd.fst v.snd.snd.snd.snd.snd.fst v.snd.snd.snd.snd.snd.snd.fst v.snd.snd.snd.snd.snd.snd.snd.fst
          v.snd.snd.snd.snd.snd.snd.snd.snd.fst v.snd.snd.snd.snd.snd.snd.snd.snd.snd.fst K)
      (x30, x31, x32, x33, x34, x35, x36, x37, x38, x39, ())
def rectoref24_Lists.L0 (R : List (Int × List UInt8) →
  Prop) (a : List
  (List
    UInt8)) (b : List
  (List
    UInt8)) (i : Int) (j : Int) (k : Int) (pairs : List
  (Int ×
    Int × Bool)) (out : List (Int × List UInt8)) (K0 : List (List UInt8) × List (List UInt8) × Int × Int × Int × List (Int × Int × Bool) × List (Int × List UInt8) × Unit → Prop) : Prop :=
  bif decide (k ≤ (↑pairs.length : Int)) then
    bif decide (k < (↑pairs.length : Int)) then
      Ix k pairs.length ∧
        Lp
          (fun v K =>
            rectoref24_Lists.L1 K0 v.fst v.snd.fst v.snd.snd.fst v.snd.snd.snd.fst v.snd.snd.snd.snd.fst v.snd.snd.snd.snd.snd.fst v.snd.snd.snd.snd.snd.snd.fst
              v.snd.snd.snd.snd.snd.snd.snd.fst v.snd.snd.snd.snd.snd.snd.snd.snd.fst v.snd.snd.snd.snd.snd.snd.snd.snd.snd.fst K)
          (a, b, i, j, k, pairs, out, (nth pairs k (0, 0, false)).fst, (nth pairs k (0, 0, false)).snd.fst, (nth pairs k (0, 0, false)).snd.snd, ())
    else
      Lp
        (fun v K =>
          rectoref24_Lists.L3 K0 v.fst v.snd.fst v.snd.snd.fst v.snd.snd.snd.fst v.snd.snd.snd.snd.fst v.snd.snd.snd.snd.snd.fst v.snd.snd.snd.snd.snd.snd.fst
            v.snd.snd.snd.snd.snd.snd.snd.fst v.snd.snd.snd.snd.snd.snd.snd.snd.fst v.snd.snd.snd.snd.snd.snd.snd.snd.snd.fst K)
        (a, b, i, j, k, pairs, out, (↑a.length : Int), (↑b.length : Int), false, ())
  else R out
def rectoref24_Lists.vc (R : List (Int × List UInt8) → Prop) (a : List Str) (b : List Str) : Prop :=
  Sp.lines.pre a b ∧
    Lp (fun v K => rectoref24_Lists.L0 R v.fst v.snd.fst v.snd.snd.fst v.snd.snd.snd.fst v.snd.snd.snd.snd.fst v.snd.snd.snd.snd.snd.fst v.snd.snd.snd.snd.snd.snd.fst K)
      (a, b, 0, 0, 0, Sp.lines a b, [], ())

def words_melted.L0 (R : List (Int × List UInt8) →
  Prop) (t7 : List (Int × List UInt8)) (t8 : Int) (t9 : Int) (out : List (Int × List UInt8)) (K0 : List (Int × List UInt8) × Int × Int × List (Int × List UInt8) × Unit → Prop) : Prop :=
  bif decide (t9 < t8) then
    Ix t9 t7.length ∧
      Rg IntKind.i64 ((↑out.length : Int) - 1) ∧
        bif decide ((nth t7 t9 (0, [])).snd = []) then Rg IntKind.i64 (t9 + 1) ∧ K0 (t7, t8, t9 + 1, out, ())
        else
          bif decide (0 ≤ (↑out.length : Int) - 1) then
            Ix ((↑out.length : Int) - 1) out.length ∧
              bif decide ((nth out ((↑out.length : Int) - 1) (0, [])).fst = (nth t7 t9 (0, [])).fst) then
                Ix ((↑out.length : Int) - 1) out.length ∧
                  (↑(List.length (nth out ((↑out.length : Int) - 1) (0, [])).snd) : Int) + (↑(List.length (nth t7 t9 (0, [])).snd) : Int) ≤ 9223372036854775807 ∧
                    Ix ((↑out.length : Int) - 1) out.length ∧
                      Rg IntKind.i64 (t9 + 1) ∧
                        K0
                          (t7, t8, t9 + 1,
                            out.set ((↑out.length : Int) - 1).toNat
                              ((nth out ((↑out.length : Int) - 1) (0, [])).fst, (nth out ((↑out.length : Int) - 1) (0, [])).snd ++ (nth t7 t9 (0, [])).snd),
                            ())
              else Gr out.length 1 24 ∧ Rg IntKind.i64 (t9 + 1) ∧ K0 (t7, t8, t9 + 1, out ++ [nth t7 t9 (0, [])], ())
          else Gr out.length 1 24 ∧ Rg IntKind.i64 (t9 + 1) ∧ K0 (t7, t8, t9 + 1, out ++ [nth t7 t9 (0, [])], ())
  else R out
def words_melted.vc (R : List (Int × List UInt8) → Prop) (l : List (Int × Str)) : Prop :=
  Lp (fun v K => words_melted.L0 R v.fst v.snd.fst v.snd.snd.fst v.snd.snd.snd.fst K) (l, (↑l.length : Int), 0, [], ())

def words_Texts.vc (R : List (Int × List UInt8) → Prop) (a : Str) (b : Str) : Prop :=
  Sp.wordsOf.pre a ∧
    Sp.wordsOf.pre b ∧
      bif decide (400 < (↑(Sp.wordsOf a).length : Int)) then Sp.melted.pre [(2, a), (3, b)] ∧ R (Sp.melted [(2, a), (3, b)])
      else
        bif decide (400 < (↑(Sp.wordsOf b).length : Int)) then Sp.melted.pre [(2, a), (3, b)] ∧ R (Sp.melted [(2, a), (3, b)])
        else Sp.listsP.pre (Sp.wordsOf a) (Sp.wordsOf b) ∧ Sp.melted.pre (Sp.listsP (Sp.wordsOf a) (Sp.wordsOf b)) ∧ R (Sp.melted (Sp.listsP (Sp.wordsOf a) (Sp.wordsOf b)))

def words_but_1.vc (R : List UInt8 → Int → Prop) (p : Int × Str) (k : Int) : Prop :=
  bif decide (p.fst = 1) then R p.snd k else bif decide (p.fst = k) then R p.snd k else R [] k

def words_but.vc (R : Int → Prop) (k : Int) : Prop :=
  R k

def words_Marked_1.vc (R : List UInt8 → Prop) (p : Int × Str) : Prop :=
  bif decide (p.fst = 1) then R p.snd
  else
    bif decide (p.fst = 2) then
      (↑2 : Int) + (↑(List.length p.snd) : Int) ≤ 9223372036854775807 ∧ (↑(91 :: 45 :: p.snd).length : Int) + (↑2 : Int) ≤ 9223372036854775807 ∧ R (91 :: 45 :: p.snd ++ [45, 93])
    else
      bif decide (p.fst = 3) then
        (↑2 : Int) + (↑(List.length p.snd) : Int) ≤ 9223372036854775807 ∧ (↑(91 :: 43 :: p.snd).length : Int) + (↑2 : Int) ≤ 9223372036854775807 ∧ R (91 :: 43 :: p.snd ++ [43, 93])
      else R []

def words_told.L0 (R : List UInt8 →
  Int → Prop) (t8 : List (Int × List UInt8)) (t9 : Int) (t10 : Int) (k : Int) (out_buf : List Int) (K0 : List (Int × List UInt8) × Int × Int × Int × List Int × Unit → Prop) : Prop :=
  bif decide (t10 < t9) then
    Ix t10 t8.length ∧ Sp.wr.pre out_buf (Sp.butF k (nth t8 t10 (0, []))) ∧ Rg IntKind.i64 (t10 + 1) ∧ K0 (t8, t9, t10 + 1, k, Sp.wr out_buf (Sp.butF k (nth t8 t10 (0, []))), ())
  else R (bytesOf out_buf) k
def words_told.vc (R : List UInt8 → Int → Prop) (l : List (Int × Str)) (k : Int) : Prop :=
  Lp (fun v K => words_told.L0 R v.fst v.snd.fst v.snd.snd.fst v.snd.snd.snd.fst v.snd.snd.snd.snd.fst K) (l, (↑l.length : Int), 0, k, [], ())

def words_told_m.L0 (R : List UInt8 →
  Prop) (t8 : List (Int × List UInt8)) (t9 : Int) (t10 : Int) (out_buf : List Int) (K0 : List (Int × List UInt8) × Int × Int × List Int × Unit → Prop) : Prop :=
  bif decide (t10 < t9) then
    Ix t10 t8.length ∧
      Sp.markF.pre (nth t8 t10 (0, [])) ∧
        Sp.wr.pre out_buf (Sp.markF (nth t8 t10 (0, []))) ∧ Rg IntKind.i64 (t10 + 1) ∧ K0 (t8, t9, t10 + 1, Sp.wr out_buf (Sp.markF (nth t8 t10 (0, []))), ())
  else R (bytesOf out_buf)
def words_told_m.vc (R : List UInt8 → Prop) (l : List (Int × Str)) : Prop :=
  Lp (fun v K => words_told_m.L0 R v.fst v.snd.fst v.snd.snd.fst v.snd.snd.snd.fst K) (l, (↑l.length : Int), 0, [], ())

def words_Old.vc (R : List UInt8 → Prop) (l : List (Int × Str)) : Prop :=
  Sp.toldK.pre l 2 ∧ R (Sp.toldK l 2)

def words_Marked.vc (R : List UInt8 → Prop) (l : List (Int × Str)) : Prop :=
  Sp.marks.pre l ∧ R (Sp.marks l)

def rectolaw24_abc.vc (R : Bool → Prop) : Prop :=
  Sp.textsP.pre [97, 32, 98, 32, 99] [97, 32, 120, 32, 99] ∧
    Ix 0 4 ∧ Ix 1 4 ∧ Ix 2 4 ∧ Sp.marks.pre (Sp.textsP [97, 32, 98, 32, 99] [97, 32, 120, 32, 99]) ∧ Sp.oldP.pre (Sp.textsP [97, 32, 98, 32, 99] [97, 32, 120, 32, 99]) ∧ R true

def words_Pages.L0 (R : List (List UInt8) →
  Prop) (t12 : List (Int × List UInt8)) (t13 : Int) (t14 : Int) (out : List (List UInt8)) (K0 : List (Int × List UInt8) × Int × Int × List (List UInt8) × Unit → Prop) : Prop :=
  bif decide (t14 < t13) then
    Ix t14 t12.length ∧
      Rg IntKind.i64 ((nth t12 t14 (0, [])).fst + 1) ∧
        Sb (nth t12 t14 (0, [])).fst ((nth t12 t14 (0, [])).fst + 1) 4 ∧
          (↑(sub ([63, 32, 45, 43] : List UInt8) (nth t12 t14 (0, [])).fst ((nth t12 t14 (0, [])).fst + 1)).length : Int) + (↑1 : Int) ≤ 9223372036854775807 ∧
            (↑(List.length (sub ([63, 32, 45, 43] : List UInt8) (nth t12 t14 (0, [])).fst ((nth t12 t14 (0, [])).fst + 1) ++ [32])) : Int) + (↑(List.length (nth t12 t14 (0, [])).snd) : Int) ≤
                9223372036854775807 ∧
              Gr out.length 1 16 ∧
                Rg IntKind.i64 (t14 + 1) ∧
                  K0 (t12, t13, t14 + 1, out ++ [sub ([63, 32, 45, 43] : List UInt8) (nth t12 t14 (0, [])).fst ((nth t12 t14 (0, [])).fst + 1) ++ [32] ++ (nth t12 t14 (0, [])).snd], ())
  else R out
def words_Pages.vc (R : List (List UInt8) → Prop) (a : List Vi.Node) (b : List Vi.Node) : Prop :=
  (Sp.prOk a ∧ Sp.szL a ≤ 900000) ∧
    (Sp.prOk b ∧ Sp.szL b ≤ 900000) ∧
      Sp.listsP.pre (Sp.linesP a) (Sp.linesP b) ∧
        Lp (fun v K => words_Pages.L0 R v.fst v.snd.fst v.snd.snd.fst v.snd.snd.snd.fst K)
          (Sp.listsP (Sp.linesP a) (Sp.linesP b), (↑(Sp.listsP (Sp.linesP a) (Sp.linesP b)).length : Int), 0, [], ())

def rectoref24_Pages.L0 (R : List (List UInt8) →
  Prop) (t12 : List (Int × List UInt8)) (t13 : Int) (t14 : Int) (out : List (List UInt8)) (K0 : List (Int × List UInt8) × Int × Int × List (List UInt8) × Unit → Prop) : Prop :=
  bif decide (t14 < t13) then
    Ix t14 t12.length ∧
      bif decide ((nth t12 t14 (0, [])).fst = 1) then
        (↑2 : Int) + (↑(List.length (nth t12 t14 (0, [])).snd) : Int) ≤ 9223372036854775807 ∧
          Gr out.length 1 16 ∧ Rg IntKind.i64 (t14 + 1) ∧ K0 (t12, t13, t14 + 1, out ++ [32 :: 32 :: (nth t12 t14 (0, [])).snd], ())
      else
        bif decide ((nth t12 t14 (0, [])).fst = 2) then
          (↑2 : Int) + (↑(List.length (nth t12 t14 (0, [])).snd) : Int) ≤ 9223372036854775807 ∧
            Gr out.length 1 16 ∧ Rg IntKind.i64 (t14 + 1) ∧ K0 (t12, t13, t14 + 1, out ++ [45 :: 32 :: (nth t12 t14 (0, [])).snd], ())
        else
          (↑2 : Int) + (↑(List.length (nth t12 t14 (0, [])).snd) : Int) ≤ 9223372036854775807 ∧
            Gr out.length 1 16 ∧ Rg IntKind.i64 (t14 + 1) ∧ K0 (t12, t13, t14 + 1, out ++ [43 :: 32 :: (nth t12 t14 (0, [])).snd], ())
  else R out
def rectoref24_Pages.vc (R : List (List UInt8) → Prop) (a : List Vi.Node) (b : List Vi.Node) : Prop :=
  Sp.linesR.pre a [] ∧
    Sp.linesR.pre b [] ∧
      Sp.listsP.pre (Sp.linesR a []) (Sp.linesR b []) ∧
        Lp (fun v K => rectoref24_Pages.L0 R v.fst v.snd.fst v.snd.snd.fst v.snd.snd.snd.fst K)
          (Sp.listsP (Sp.linesR a []) (Sp.linesR b []), (↑(Sp.listsP (Sp.linesR a []) (Sp.linesR b [])).length : Int), 0, [], ())

def rectolaw24_large.vc (R : Bool → Prop) (l : List Vi.Node) : Prop :=
  Sp.lg.pre l 1 200 ∧ R (Sp.lg l 1 200).fst

def rectolaw24_WordsPages.vc (R : Bool → Prop) (a : List Vi.Node) (b : List Vi.Node) : Prop :=
  bif Sp.large2 a then R Sp.tt
  else
    bif Sp.large2 b then R Sp.tt
    else Sp.pagesP.pre a b ∧ Sp.pagesP.pre a b ∧ Sp.eqL.pre (Sp.pagesP a b) (Sp.pagesP a b) ∧ bif Sp.eqL (Sp.pagesP a b) (Sp.pagesP a b) then R Sp.tt else R false

