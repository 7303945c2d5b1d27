/- Conditions of functions. Written by a program of this session. -/
import Derived.Test.YtniobmaoangdmaaSpW
set_option linter.unnecessarySimpa false
set_option linter.unusedVariables false
set_option linter.unusedSectionVars false
set_option linter.unusedSimpArgs false
set_option autoImplicit false
set_option linter.unusedVariables false
open Go Vi

def strings_Builder_WriteString.vc (R : Int → List Int → Prop) (s : Str) (x : List Int) : Prop :=
  Gr x.length (ints s).length 1 ∧ R (↑(List.length s) : Int) (x ++ ints s)

def strings_Builder_String.vc (R : List UInt8 → Prop) (x : List Int) : Prop :=
  Mt (↑x.length : Int) x.length ∧ R (bytesOf x)

def chars_Space.vc (R : Bool → Prop) (b : Int) : Prop :=
  bif decide (b = 9) then R true else bif decide (b = 10) then R true else bif decide (b = 12) then R true else R (decide (b = 32))

def words_Split.L1 (K0 : List UInt8 × List (List UInt8) × Unit →
  Prop) (s : List UInt8) (n : Int) (out : List (List UInt8)) (K1 : List UInt8 × Int × List (List UInt8) × Unit → Prop) : Prop :=
  bif decide (n < (↑s.length : Int)) then
    Ix n s.length ∧
      Ix 0 s.length ∧
        bif eqB (Sp.spB (↑(nth s n 0).toNat : Int)) (Sp.spB (↑(nth s 0 0).toNat : Int)) then Rg IntKind.i64 (n + 1) ∧ K1 (s, n + 1, out, ())
        else Sb 0 n s.length ∧ Gr out.length 1 16 ∧ Sb n (↑s.length : Int) s.length ∧ K0 (sub s n (↑s.length : Int), out ++ [sub s 0 n], ())
  else Sb 0 n s.length ∧ Gr out.length 1 16 ∧ Sb n (↑s.length : Int) s.length ∧ K0 (sub s n (↑s.length : Int), out ++ [sub s 0 n], ())
def words_Split.L0 (R : List (List UInt8) → Prop) (s : List UInt8) (out : List (List UInt8)) (K0 : List UInt8 × List (List UInt8) × Unit → Prop) : Prop :=
  bif !decide (s = []) then Lp (fun v K => words_Split.L1 K0 v.fst v.snd.fst v.snd.snd.fst K) (s, 1, out, ()) else R out
def words_Split.vc (R : List (List UInt8) → Prop) (s : Str) : Prop :=
  Lp (fun v K => words_Split.L0 R v.fst v.snd.fst K) (s, [], ())

def words_Lists_1.L1 (R : Int →
  List (List UInt8) →
    Int →
      List (List UInt8) →
        List (Int × List UInt8) →
          Prop) (toB : Int) (i : Int) (a : List
  (List
    UInt8)) (j : Int) (b : List
  (List UInt8)) (out : List (Int × List UInt8)) (K1 : Int × Int × List (List UInt8) × Int × List (List UInt8) × List (Int × List UInt8) × Unit → Prop) : Prop :=
  bif decide (j < toB) then Ix j b.length ∧ Gr out.length 1 24 ∧ Rg IntKind.i64 (j + 1) ∧ K1 (toB, i, a, j + 1, b, out ++ [(3, nth b j [])], ()) else R i a j b out
def words_Lists_1.L0 (R : Int →
  List (List UInt8) →
    Int →
      List (List UInt8) →
        List (Int × List UInt8) →
          Prop) (toA : Int) (toB : Int) (i : Int) (a : List
  (List
    UInt8)) (j : Int) (b : List
  (List UInt8)) (out : List (Int × List UInt8)) (K0 : Int × Int × Int × List (List UInt8) × Int × List (List UInt8) × List (Int × List UInt8) × Unit → Prop) : Prop :=
  bif decide (i < toA) then Ix i a.length ∧ Gr out.length 1 24 ∧ Rg IntKind.i64 (i + 1) ∧ K0 (toA, toB, i + 1, a, j, b, out ++ [(2, nth a i [])], ())
  else Lp (fun v K => words_Lists_1.L1 R v.fst v.snd.fst v.snd.snd.fst v.snd.snd.snd.fst v.snd.snd.snd.snd.fst v.snd.snd.snd.snd.snd.fst K) (toB, i, a, j, b, out, ())
def words_Lists_1.vc (R : Int →
  List (List UInt8) → Int → List (List UInt8) → List (Int × List UInt8) → Prop) (toA : Int) (toB : Int) (i : Int) (a : List Str) (j : Int) (b : List Str) (out : List (Int × Str)) : Prop :=
  Lp (fun v K => words_Lists_1.L0 R v.fst v.snd.fst v.snd.snd.fst v.snd.snd.snd.fst v.snd.snd.snd.snd.fst v.snd.snd.snd.snd.snd.fst v.snd.snd.snd.snd.snd.snd.fst K)
    (toA, toB, i, a, j, b, out, ())

def words_Lists.L0 (R : List (Int × List UInt8) →
  Prop) (t15 : Int) (t16 : Int) (a : List
  (List
    UInt8)) (b : List
  (List
    UInt8)) (out : List
  (Int ×
    List
      UInt8)) (i : Int) (j : Int) (t14 : List
  (Int × Int × Bool)) (K0 : Int × Int × List (List UInt8) × List (List UInt8) × List (Int × List UInt8) × Int × Int × List (Int × Int × Bool) × Unit → Prop) : Prop :=
  bif decide (t16 < t15) then
    Ix t16 t14.length ∧
      Sp.up.pre (nth t14 t16 (0, 0, false)).fst (nth t14 t16 (0, 0, false)).snd.fst i out a j b ∧
        Ix (nth t14 t16 (0, 0, false)).fst a.length ∧
          Gr (Sp.up (nth t14 t16 (0, 0, false)).fst (nth t14 t16 (0, 0, false)).snd.fst i out a j b).length 1 24 ∧
            Rg IntKind.i64 ((nth t14 t16 (0, 0, false)).fst + 1) ∧
              Rg IntKind.i64 ((nth t14 t16 (0, 0, false)).snd.fst + 1) ∧
                Rg IntKind.i64 (t16 + 1) ∧
                  K0
                    (t15, t16 + 1, a, b, Sp.up (nth t14 t16 (0, 0, false)).fst (nth t14 t16 (0, 0, false)).snd.fst i out a j b ++ [(1, nth a (nth t14 t16 (0, 0, false)).fst [])],
                      (nth t14 t16 (0, 0, false)).fst + 1, (nth t14 t16 (0, 0, false)).snd.fst + 1, t14, ())
  else Sp.up.pre (↑a.length : Int) (↑b.length : Int) i out a j b ∧ R (Sp.up (↑a.length : Int) (↑b.length : Int) i out a j b)
def words_Lists.vc (R : List (Int × List UInt8) → Prop) (a : List Str) (b : List Str) : Prop :=
  Sp.lines.pre a b ∧
    Lp
      (fun v K =>
        words_Lists.L0 R v.fst v.snd.fst v.snd.snd.fst v.snd.snd.snd.fst v.snd.snd.snd.snd.fst v.snd.snd.snd.snd.snd.fst v.snd.snd.snd.snd.snd.snd.fst v.snd.snd.snd.snd.snd.snd.snd.fst K)
      ((↑(Sp.lines a b).length : Int), 0, a, b, [], 0, 0, Sp.lines a b, ())

def words_melted.L0 (R : List (Int × List UInt8) →
  Prop) (t7 : List (Int × List UInt8)) (t8 : Int) (t9 : Int) (out : List (Int × List UInt8)) (K0 : List (Int × List UInt8) × Int × Int × List (Int × List UInt8) × Unit → Prop) : Prop :=
  bif decide (t9 < t8) then
    Ix t9 t7.length ∧
      Rg IntKind.i64 ((↑out.length : Int) - 1) ∧
        bif decide ((nth t7 t9 (0, [])).snd = []) then Rg IntKind.i64 (t9 + 1) ∧ K0 (t7, t8, t9 + 1, out, ())
        else
          bif decide (0 ≤ (↑out.length : Int) - 1) then
            Ix ((↑out.length : Int) - 1) out.length ∧
              bif decide ((nth out ((↑out.length : Int) - 1) (0, [])).fst = (nth t7 t9 (0, [])).fst) then
                Ix ((↑out.length : Int) - 1) out.length ∧
                  (↑(List.length (nth out ((↑out.length : Int) - 1) (0, [])).snd) : Int) + (↑(List.length (nth t7 t9 (0, [])).snd) : Int) ≤ 9223372036854775807 ∧
                    Ix ((↑out.length : Int) - 1) out.length ∧
                      Rg IntKind.i64 (t9 + 1) ∧
                        K0
                          (t7, t8, t9 + 1,
                            out.set ((↑out.length : Int) - 1).toNat
                              ((nth out ((↑out.length : Int) - 1) (0, [])).fst, (nth out ((↑out.length : Int) - 1) (0, [])).snd ++ (nth t7 t9 (0, [])).snd),
                            ())
              else Gr out.length 1 24 ∧ Rg IntKind.i64 (t9 + 1) ∧ K0 (t7, t8, t9 + 1, out ++ [((nth t7 t9 (0, [])).fst, (nth t7 t9 (0, [])).snd)], ())
          else Gr out.length 1 24 ∧ Rg IntKind.i64 (t9 + 1) ∧ K0 (t7, t8, t9 + 1, out ++ [((nth t7 t9 (0, [])).fst, (nth t7 t9 (0, [])).snd)], ())
  else R out
def words_melted.vc (R : List (Int × List UInt8) → Prop) (l : List (Int × Str)) : Prop :=
  Lp (fun v K => words_melted.L0 R v.fst v.snd.fst v.snd.snd.fst v.snd.snd.snd.fst K) (l, (↑l.length : Int), 0, [], ())

def words_Texts.vc (R : List (Int × List UInt8) → Prop) (a : Str) (b : Str) : Prop :=
  Sp.wordsOf.pre a ∧
    Sp.wordsOf.pre b ∧
      bif decide (400 < (↑(Sp.wordsOf a).length : Int)) then Sp.melted.pre [(2, a), (3, b)] ∧ R (Sp.melted [(2, a), (3, b)])
      else
        bif decide (400 < (↑(Sp.wordsOf b).length : Int)) then Sp.melted.pre [(2, a), (3, b)] ∧ R (Sp.melted [(2, a), (3, b)])
        else Sp.listsP.pre (Sp.wordsOf a) (Sp.wordsOf b) ∧ Sp.melted.pre (Sp.listsP (Sp.wordsOf a) (Sp.wordsOf b)) ∧ R (Sp.melted (Sp.listsP (Sp.wordsOf a) (Sp.wordsOf b)))

def words_but_1.vc (R : List UInt8 → Int → Prop) (p : Int × Str) (k : Int) : Prop :=
  bif decide (p.fst = 1) then R p.snd k else bif decide (p.fst = k) then R p.snd k else R [] k

def words_but.vc (R : Int → Prop) (k : Int) : Prop :=
  R k

def words_Marked_1.vc (R : List UInt8 → Prop) (p : Int × Str) : Prop :=
  bif decide (p.fst = 1) then R p.snd
  else
    bif decide (p.fst = 2) then
      (↑2 : Int) + (↑(List.length p.snd) : Int) ≤ 9223372036854775807 ∧ (↑(91 :: 45 :: p.snd).length : Int) + (↑2 : Int) ≤ 9223372036854775807 ∧ R (91 :: 45 :: p.snd ++ [45, 93])
    else
      bif decide (p.fst = 3) then
        (↑2 : Int) + (↑(List.length p.snd) : Int) ≤ 9223372036854775807 ∧ (↑(91 :: 43 :: p.snd).length : Int) + (↑2 : Int) ≤ 9223372036854775807 ∧ R (91 :: 43 :: p.snd ++ [43, 93])
      else R []

def words_told.L0 (R : List UInt8 →
  Int → Prop) (t8 : List (Int × List UInt8)) (t9 : Int) (t10 : Int) (k : Int) (out_buf : List Int) (K0 : List (Int × List UInt8) × Int × Int × Int × List Int × Unit → Prop) : Prop :=
  bif decide (t10 < t9) then
    Ix t10 t8.length ∧
      Sp.wr.pre out_buf (Sp.butF k ((nth t8 t10 (0, [])).fst, (nth t8 t10 (0, [])).snd)) ∧
        Rg IntKind.i64 (t10 + 1) ∧ K0 (t8, t9, t10 + 1, k, Sp.wr out_buf (Sp.butF k ((nth t8 t10 (0, [])).fst, (nth t8 t10 (0, [])).snd)), ())
  else R (bytesOf out_buf) k
def words_told.vc (R : List UInt8 → Int → Prop) (l : List (Int × Str)) (k : Int) : Prop :=
  Lp (fun v K => words_told.L0 R v.fst v.snd.fst v.snd.snd.fst v.snd.snd.snd.fst v.snd.snd.snd.snd.fst K) (l, (↑l.length : Int), 0, k, [], ())

def words_told_m.L0 (R : List UInt8 →
  Prop) (t8 : List (Int × List UInt8)) (t9 : Int) (t10 : Int) (out_buf : List Int) (K0 : List (Int × List UInt8) × Int × Int × List Int × Unit → Prop) : Prop :=
  bif decide (t10 < t9) then
    Ix t10 t8.length ∧
      Sp.markF.pre ((nth t8 t10 (0, [])).fst, (nth t8 t10 (0, [])).snd) ∧
        Sp.wr.pre out_buf (Sp.markF ((nth t8 t10 (0, [])).fst, (nth t8 t10 (0, [])).snd)) ∧
          Rg IntKind.i64 (t10 + 1) ∧ K0 (t8, t9, t10 + 1, Sp.wr out_buf (Sp.markF ((nth t8 t10 (0, [])).fst, (nth t8 t10 (0, [])).snd)), ())
  else R (bytesOf out_buf)
def words_told_m.vc (R : List UInt8 → Prop) (l : List (Int × Str)) : Prop :=
  Lp (fun v K => words_told_m.L0 R v.fst v.snd.fst v.snd.snd.fst v.snd.snd.snd.fst K) (l, (↑l.length : Int), 0, [], ())

def words_Old.vc (R : List UInt8 → Prop) (l : List (Int × Str)) : Prop :=
  Sp.toldK.pre l 2 ∧ R (Sp.toldK l 2)

def words_New.vc (R : List UInt8 → Prop) (l : List (Int × Str)) : Prop :=
  Sp.toldK.pre l 3 ∧ R (Sp.toldK l 3)

def words_Marked.vc (R : List UInt8 → Prop) (l : List (Int × Str)) : Prop :=
  Sp.marks.pre l ∧ R (Sp.marks l)

def rectoref24_Told.L0 (R : List UInt8 →
  Prop) (kind : Int) (out : List UInt8) (t8 : List (Int × List UInt8)) (t9 : Int) (t10 : Int) (K0 : Int × List UInt8 × List (Int × List UInt8) × Int × Int × Unit → Prop) : Prop :=
  bif decide (t10 < t9) then
    Ix t10 t8.length ∧
      bif decide ((nth t8 t10 (0, [])).fst = 1) then
        (↑out.length : Int) + (↑(List.length (nth t8 t10 (0, [])).snd) : Int) ≤ 9223372036854775807 ∧
          Rg IntKind.i64 (t10 + 1) ∧ K0 (kind, out ++ (nth t8 t10 (0, [])).snd, t8, t9, t10 + 1, ())
      else
        bif decide ((nth t8 t10 (0, [])).fst = kind) then
          (↑out.length : Int) + (↑(List.length (nth t8 t10 (0, [])).snd) : Int) ≤ 9223372036854775807 ∧
            Rg IntKind.i64 (t10 + 1) ∧ K0 (kind, out ++ (nth t8 t10 (0, [])).snd, t8, t9, t10 + 1, ())
        else Rg IntKind.i64 (t10 + 1) ∧ K0 (kind, out, t8, t9, t10 + 1, ())
  else R out
def rectoref24_Told.vc (R : List UInt8 → Prop) (l : List (Int × Str)) (kind : Int) : Prop :=
  Lp (fun v K => rectoref24_Told.L0 R v.fst v.snd.fst v.snd.snd.fst v.snd.snd.snd.fst v.snd.snd.snd.snd.fst K) (kind, [], l, (↑l.length : Int), 0, ())

def rectoref24_Marked.L0 (R : List UInt8 →
  Prop) (out : List UInt8) (t6 : List (Int × List UInt8)) (t7 : Int) (t8 : Int) (K0 : List UInt8 × List (Int × List UInt8) × Int × Int × Unit → Prop) : Prop :=
  bif decide (t8 < t7) then
    Ix t8 t6.length ∧
      bif decide ((nth t6 t8 (0, [])).fst = 1) then
        (↑out.length : Int) + (↑(List.length (nth t6 t8 (0, [])).snd) : Int) ≤ 9223372036854775807 ∧ Rg IntKind.i64 (t8 + 1) ∧ K0 (out ++ (nth t6 t8 (0, [])).snd, t6, t7, t8 + 1, ())
      else
        bif decide ((nth t6 t8 (0, [])).fst = 2) then
          (↑out.length : Int) + (↑2 : Int) ≤ 9223372036854775807 ∧
            (↑(List.length (out ++ [91, 45])) : Int) + (↑(List.length (nth t6 t8 (0, [])).snd) : Int) ≤ 9223372036854775807 ∧
              (↑(List.length (out ++ [91, 45] ++ (nth t6 t8 (0, [])).snd)) : Int) + (↑2 : Int) ≤ 9223372036854775807 ∧
                Rg IntKind.i64 (t8 + 1) ∧ K0 (out ++ [91, 45] ++ (nth t6 t8 (0, [])).snd ++ [45, 93], t6, t7, t8 + 1, ())
        else
          bif decide ((nth t6 t8 (0, [])).fst = 3) then
            (↑out.length : Int) + (↑2 : Int) ≤ 9223372036854775807 ∧
              (↑(List.length (out ++ [91, 43])) : Int) + (↑(List.length (nth t6 t8 (0, [])).snd) : Int) ≤ 9223372036854775807 ∧
                (↑(List.length (out ++ [91, 43] ++ (nth t6 t8 (0, [])).snd)) : Int) + (↑2 : Int) ≤ 9223372036854775807 ∧
                  Rg IntKind.i64 (t8 + 1) ∧ K0 (out ++ [91, 43] ++ (nth t6 t8 (0, [])).snd ++ [43, 93], t6, t7, t8 + 1, ())
          else Rg IntKind.i64 (t8 + 1) ∧ K0 (out, t6, t7, t8 + 1, ())
  else R out
def rectoref24_Marked.vc (R : List UInt8 → Prop) (l : List (Int × Str)) : Prop :=
  Lp (fun v K => rectoref24_Marked.L0 R v.fst v.snd.fst v.snd.snd.fst v.snd.snd.snd.fst K) ([], l, (↑l.length : Int), 0, ())

def rectolaw24_abc.vc (R : Bool → Prop) : Prop :=
  Sp.textsP.pre [97, 32, 98, 32, 99] [97, 32, 120, 32, 99] ∧
    Ix 0 4 ∧ Ix 1 4 ∧ Ix 2 4 ∧ Sp.marks.pre (Sp.textsP [97, 32, 98, 32, 99] [97, 32, 120, 32, 99]) ∧ Sp.oldP.pre (Sp.textsP [97, 32, 98, 32, 99] [97, 32, 120, 32, 99]) ∧ R true

def rectolaw24_ref.L0 (R : List (Int × List UInt8) →
  Prop) (t6 : List (Int × List UInt8)) (t7 : Int) (t8 : Int) (out : List (Int × List UInt8)) (K0 : List (Int × List UInt8) × Int × Int × List (Int × List UInt8) × Unit → Prop) : Prop :=
  bif decide (t8 < t7) then Ix t8 t6.length ∧ Gr out.length 1 24 ∧ Rg IntKind.i64 (t8 + 1) ∧ K0 (t6, t7, t8 + 1, out ++ [((nth t6 t8 (0, [])).fst, (nth t6 t8 (0, [])).snd)], ()) else R out
def rectolaw24_ref.vc (R : List (Int × List UInt8) → Prop) (l : List (Int × Str)) : Prop :=
  Lp (fun v K => rectolaw24_ref.L0 R v.fst v.snd.fst v.snd.snd.fst v.snd.snd.snd.fst K) (l, (↑l.length : Int), 0, [], ())
