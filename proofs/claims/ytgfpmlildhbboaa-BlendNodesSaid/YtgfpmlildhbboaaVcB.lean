/- Conditions of functions. Written by a program of this session. -/
import Derived.Test.YtgfpmlildhbboaaSpB
set_option linter.unnecessarySimpa false
set_option linter.unusedVariables false
set_option linter.unusedSectionVars false
set_option linter.unusedSimpArgs false
set_option autoImplicit false
set_option linter.unusedVariables false
open Go Vi

def blend_of_string.vc (R : List (List UInt8) → Prop) (l : List Str) (r : Int × Int) : Prop :=
  Sb r.fst r.snd l.length ∧ R (sub l r.fst r.snd)

def slices_Equal_string_string.L0 (R : Bool →
  Prop) (s1 : List (List UInt8)) (s2 : List (List UInt8)) (t12 : Int) (t13 : Int) (K0 : List (List UInt8) × List (List UInt8) × Int × Int × Unit → Prop) : Prop :=
  bif decide (t13 < t12) then Ix t13 s1.length ∧ Ix t13 s2.length ∧ bif !decide (nth s1 t13 [] = nth s2 t13 []) then R false else Rg IntKind.i64 (t13 + 1) ∧ K0 (s1, s2, t12, t13 + 1, ())
  else R true
def slices_Equal_string_string.vc (R : Bool → Prop) (s1 : List Str) (s2 : List Str) : Prop :=
  bif !decide ((↑s1.length : Int) = (↑s2.length : Int)) then R false
  else Lp (fun v K => slices_Equal_string_string.L0 R v.fst v.snd.fst v.snd.snd.fst v.snd.snd.snd.fst K) (s1, s2, (↑s1.length : Int), 0, ())

def blend_kind_string.vc (R : Int → Prop) (o : List Str) (a : List Str) (b : List Str) (p : Int × (Int × Int) × (Int × Int) × Int × Int) : Prop :=
  Sp.ofS.pre o (p.snd.fst.fst, p.snd.fst.snd) ∧
    Sp.ofS.pre a (p.snd.snd.fst.fst, p.snd.snd.fst.snd) ∧
      Sp.ofS.pre b (p.snd.snd.snd.fst, p.snd.snd.snd.snd) ∧
        bif decide ((↑(Sp.ofS o (p.snd.fst.fst, p.snd.fst.snd)).length : Int) = 0) then
          bif decide ((↑(Sp.ofS a (p.snd.snd.fst.fst, p.snd.snd.fst.snd)).length : Int) = 0) then
            bif decide ((↑(Sp.ofS b (p.snd.snd.snd.fst, p.snd.snd.snd.snd)).length : Int) = 0) then R 0
            else
              Sp.eqL.pre (Sp.ofS o (p.snd.fst.fst, p.snd.fst.snd)) (Sp.ofS a (p.snd.snd.fst.fst, p.snd.snd.fst.snd)) ∧
                bif Sp.eqL (Sp.ofS o (p.snd.fst.fst, p.snd.fst.snd)) (Sp.ofS a (p.snd.snd.fst.fst, p.snd.snd.fst.snd)) then R 2
                else
                  Sp.eqL.pre (Sp.ofS o (p.snd.fst.fst, p.snd.fst.snd)) (Sp.ofS b (p.snd.snd.snd.fst, p.snd.snd.snd.snd)) ∧
                    bif Sp.eqL (Sp.ofS o (p.snd.fst.fst, p.snd.fst.snd)) (Sp.ofS b (p.snd.snd.snd.fst, p.snd.snd.snd.snd)) then R 3
                    else
                      Sp.eqL.pre (Sp.ofS a (p.snd.snd.fst.fst, p.snd.snd.fst.snd)) (Sp.ofS b (p.snd.snd.snd.fst, p.snd.snd.snd.snd)) ∧
                        bif Sp.eqL (Sp.ofS a (p.snd.snd.fst.fst, p.snd.snd.fst.snd)) (Sp.ofS b (p.snd.snd.snd.fst, p.snd.snd.snd.snd)) then R 4 else R 5
          else
            Sp.eqL.pre (Sp.ofS o (p.snd.fst.fst, p.snd.fst.snd)) (Sp.ofS a (p.snd.snd.fst.fst, p.snd.snd.fst.snd)) ∧
              bif Sp.eqL (Sp.ofS o (p.snd.fst.fst, p.snd.fst.snd)) (Sp.ofS a (p.snd.snd.fst.fst, p.snd.snd.fst.snd)) then R 2
              else
                Sp.eqL.pre (Sp.ofS o (p.snd.fst.fst, p.snd.fst.snd)) (Sp.ofS b (p.snd.snd.snd.fst, p.snd.snd.snd.snd)) ∧
                  bif Sp.eqL (Sp.ofS o (p.snd.fst.fst, p.snd.fst.snd)) (Sp.ofS b (p.snd.snd.snd.fst, p.snd.snd.snd.snd)) then R 3
                  else
                    Sp.eqL.pre (Sp.ofS a (p.snd.snd.fst.fst, p.snd.snd.fst.snd)) (Sp.ofS b (p.snd.snd.snd.fst, p.snd.snd.snd.snd)) ∧
                      bif Sp.eqL (Sp.ofS a (p.snd.snd.fst.fst, p.snd.snd.fst.snd)) (Sp.ofS b (p.snd.snd.snd.fst, p.snd.snd.snd.snd)) then R 4 else R 5
        else
          Sp.eqL.pre (Sp.ofS o (p.snd.fst.fst, p.snd.fst.snd)) (Sp.ofS a (p.snd.snd.fst.fst, p.snd.snd.fst.snd)) ∧
            bif Sp.eqL (Sp.ofS o (p.snd.fst.fst, p.snd.fst.snd)) (Sp.ofS a (p.snd.snd.fst.fst, p.snd.snd.fst.snd)) then R 2
            else
              Sp.eqL.pre (Sp.ofS o (p.snd.fst.fst, p.snd.fst.snd)) (Sp.ofS b (p.snd.snd.snd.fst, p.snd.snd.snd.snd)) ∧
                bif Sp.eqL (Sp.ofS o (p.snd.fst.fst, p.snd.fst.snd)) (Sp.ofS b (p.snd.snd.snd.fst, p.snd.snd.snd.snd)) then R 3
                else
                  Sp.eqL.pre (Sp.ofS a (p.snd.snd.fst.fst, p.snd.snd.fst.snd)) (Sp.ofS b (p.snd.snd.snd.fst, p.snd.snd.snd.snd)) ∧
                    bif Sp.eqL (Sp.ofS a (p.snd.snd.fst.fst, p.snd.snd.fst.snd)) (Sp.ofS b (p.snd.snd.snd.fst, p.snd.snd.snd.snd)) then R 4 else R 5

def blend_fellow_1.vc (R : Bool → Int → Prop) (p : Int × Int × Bool) (at_ : Int) : Prop :=
  R (decide (p.fst = at_)) at_

def slices_IndexFunc_match_Pair_match_Pair.L0 (R : Int →
  Int → Prop) (s : List (Int × Int × Bool)) (t7 : Int) (t8 : Int) (at_ : Int) (K0 : List (Int × Int × Bool) × Int × Int × Int × Unit → Prop) : Prop :=
  bif decide (t8 < t7) then Ix t8 s.length ∧ bif Sp.isA (nth s t8 (0, 0, false)) at_ then R t8 at_ else Rg IntKind.i64 (t8 + 1) ∧ K0 (s, t7, t8 + 1, at_, ()) else R (-1) at_
def slices_IndexFunc_match_Pair_match_Pair.vc (R : Int → Int → Prop) (l : List (Int × Int × Bool)) (at_ : Int) : Prop :=
  Lp (fun v K => slices_IndexFunc_match_Pair_match_Pair.L0 R v.fst v.snd.fst v.snd.snd.fst v.snd.snd.snd.fst K) (l, (↑l.length : Int), 0, at_, ())

def blend_fellow.vc (R : Int → Prop) (l : List (Int × Int × Bool)) (at_ : Int) : Prop :=
  Sp.idxA.pre l ∧ bif decide (0 ≤ Sp.idxA l at_) then Ix (Sp.idxA l at_) l.length ∧ R (nth l (Sp.idxA l at_) (0, 0, false)).snd.fst else R (-1)

def blend_parts_string_1.vc (R : Int →
  Int →
    Int →
      Int →
        Int →
          Int →
            Int →
              List (List UInt8) →
                List (List UInt8) →
                  List (List UInt8) →
                    List (Int × (Int × Int) × (Int × Int) × Int × Int) →
                      Prop) (x : Int) (y : Int) (z : Int) (f0 : Int) (f1 : Int) (f2 : Int) (f3 : Int) (f4 : Int) (f5 : Int) (f6 : Int) (o : List
  Str) (a : List Str) (b : List Str) (out : List (Int × (Int × Int) × (Int × Int) × Int × Int)) : Prop :=
  Sp.kindT.pre o a b (0, (f1, x), (f3, y), f5, z) ∧
    bif !decide (Sp.kindT o a b (0, (f1, x), (f3, y), f5, z) = 0) then
      Gr out.length 1 56 ∧ R f0 f1 f2 f3 f4 f5 f6 o a b (out ++ [(Sp.kindT o a b (0, (f1, x), (f3, y), f5, z), (f1, x), (f3, y), f5, z)])
    else R f0 f1 f2 f3 f4 f5 f6 o a b out

def blend_parts_string.L0 (R : List (Int × (Int × Int) × (Int × Int) × Int × Int) →
  Prop) (ours : List
  (Int ×
    Int ×
      Bool)) (theirs : List
  (Int ×
    Int ×
      Bool)) (t16 : Int) (t17 : Int) (t_o : List
  (List
    UInt8)) (t_a : List
  (List
    UInt8)) (t_b : List
  (List
    UInt8)) (out : List
  (Int ×
    (Int × Int) ×
      (Int × Int) ×
        Int ×
          Int)) (from__Kind : Int) (from__O_From : Int) (from__O_To : Int) (from__A_From : Int) (from__A_To : Int) (from__B_From : Int) (from__B_To : Int) (K0 : List (Int × Int × Bool) ×
    List (Int × Int × Bool) ×
      Int × Int × List (List UInt8) × List (List UInt8) × List (List UInt8) × List (Int × (Int × Int) × (Int × Int) × Int × Int) × Int × Int × Int × Int × Int × Int × Int × Unit →
  Prop) : Prop :=
  bif decide (t17 < t16) then
    Sp.fellow.pre ours t17 ∧
      Sp.fellow.pre theirs t17 ∧
        bif decide (Sp.fellow ours t17 < 0) then
          Rg IntKind.i64 (t17 + 1) ∧ K0 (ours, theirs, t16, t17 + 1, t_o, t_a, t_b, out, from__Kind, from__O_From, from__O_To, from__A_From, from__A_To, from__B_From, from__B_To, ())
        else
          bif decide (Sp.fellow theirs t17 < 0) then
            Rg IntKind.i64 (t17 + 1) ∧ K0 (ours, theirs, t16, t17 + 1, t_o, t_a, t_b, out, from__Kind, from__O_From, from__O_To, from__A_From, from__A_To, from__B_From, from__B_To, ())
          else
            Sp.upTo.pre t17 (Sp.fellow ours t17) (Sp.fellow theirs t17) from__O_From from__A_From from__B_From t_o t_a t_b out ∧
              Rg IntKind.i64 (t17 + 1) ∧
                Rg IntKind.i64 (Sp.fellow ours t17 + 1) ∧
                  Rg IntKind.i64 (Sp.fellow theirs t17 + 1) ∧
                    Gr (Sp.upTo t17 (Sp.fellow ours t17) (Sp.fellow theirs t17) from__O_From from__A_From from__B_From t_o t_a t_b out).length 1 56 ∧
                      Rg IntKind.i64 (t17 + 1) ∧
                        Rg IntKind.i64 (Sp.fellow ours t17 + 1) ∧
                          Rg IntKind.i64 (Sp.fellow theirs t17 + 1) ∧
                            Rg IntKind.i64 (t17 + 1) ∧
                              K0
                                (ours, theirs, t16, t17 + 1, t_o, t_a, t_b,
                                  Sp.upTo t17 (Sp.fellow ours t17) (Sp.fellow theirs t17) from__O_From from__A_From from__B_From t_o t_a t_b out ++
                                    [(1, (t17, t17 + 1), (Sp.fellow ours t17, Sp.fellow ours t17 + 1), Sp.fellow theirs t17, Sp.fellow theirs t17 + 1)],
                                  0, t17 + 1, 0, Sp.fellow ours t17 + 1, 0, Sp.fellow theirs t17 + 1, 0, ())
  else
    Sp.upTo.pre (↑t_o.length : Int) (↑t_a.length : Int) (↑t_b.length : Int) from__O_From from__A_From from__B_From t_o t_a t_b out ∧
      R (Sp.upTo (↑t_o.length : Int) (↑t_a.length : Int) (↑t_b.length : Int) from__O_From from__A_From from__B_From t_o t_a t_b out)
def blend_parts_string.vc (R : List (Int × (Int × Int) × (Int × Int) × Int × Int) →
  Prop) (o : List Str) (a : List Str) (b : List Str) (ours : List (Int × Int × Bool)) (theirs : List (Int × Int × Bool)) : Prop :=
  Lp
    (fun v K =>
      blend_parts_string.L0 R v.fst v.snd.fst v.snd.snd.fst v.snd.snd.snd.fst v.snd.snd.snd.snd.fst v.snd.snd.snd.snd.snd.fst v.snd.snd.snd.snd.snd.snd.fst v.snd.snd.snd.snd.snd.snd.snd.fst
        v.snd.snd.snd.snd.snd.snd.snd.snd.fst v.snd.snd.snd.snd.snd.snd.snd.snd.snd.fst v.snd.snd.snd.snd.snd.snd.snd.snd.snd.snd.fst v.snd.snd.snd.snd.snd.snd.snd.snd.snd.snd.snd.fst
        v.snd.snd.snd.snd.snd.snd.snd.snd.snd.snd.snd.snd.fst v.snd.snd.snd.snd.snd.snd.snd.snd.snd.snd.snd.snd.snd.fst v.snd.snd.snd.snd.snd.snd.snd.snd.snd.snd.snd.snd.snd.snd.fst K)
    (ours, theirs, (↑o.length : Int), 0, o, a, b, [], 0, 0, 0, 0, 0, 0, 0, ())

def blend_Texts.vc (R : List (Int × (Int × Int) × (Int × Int) × Int × Int) → Prop) (o : List Str) (a : List Str) (b : List Str) : Prop :=
  Sp.lines.pre o a ∧ Sp.lines.pre o b ∧ Sp.parts.pre o a b (Sp.lines o a) (Sp.lines o b) ∧ R (Sp.parts o a b (Sp.lines o a) (Sp.lines o b))

def blend_Join.L0 (R : List (List UInt8) →
  Int →
    Prop) (o : List
  (List
    UInt8)) (a : List
  (List
    UInt8)) (b : List
  (List
    UInt8)) (clashes : Int) (t15 : List
  (Int ×
    (Int × Int) ×
      (Int × Int) ×
        Int ×
          Int)) (t16 : Int) (t17 : Int) (out : List
  (List
    UInt8)) (K0 : List (List UInt8) × List (List UInt8) × List (List UInt8) × Int × List (Int × (Int × Int) × (Int × Int) × Int × Int) × Int × Int × List (List UInt8) × Unit →
  Prop) : Prop :=
  bif decide (t17 < t16) then
    Ix t17 t15.length ∧
      bif decide ((nth t15 t17 (0, (0, 0), (0, 0), 0, 0)).fst = 1) then
        Sp.ofS.pre o ((nth t15 t17 (0, (0, 0), (0, 0), 0, 0)).snd.fst.fst, (nth t15 t17 (0, (0, 0), (0, 0), 0, 0)).snd.fst.snd) ∧
          Gr out.length (Sp.ofS o ((nth t15 t17 (0, (0, 0), (0, 0), 0, 0)).snd.fst.fst, (nth t15 t17 (0, (0, 0), (0, 0), 0, 0)).snd.fst.snd)).length 16 ∧
            Rg IntKind.i64 (t17 + 1) ∧
              K0 (o, a, b, clashes, t15, t16, t17 + 1, out ++ Sp.ofS o ((nth t15 t17 (0, (0, 0), (0, 0), 0, 0)).snd.fst.fst, (nth t15 t17 (0, (0, 0), (0, 0), 0, 0)).snd.fst.snd), ())
      else
        bif decide ((nth t15 t17 (0, (0, 0), (0, 0), 0, 0)).fst = 2) then
          Sp.ofS.pre b ((nth t15 t17 (0, (0, 0), (0, 0), 0, 0)).snd.snd.snd.fst, (nth t15 t17 (0, (0, 0), (0, 0), 0, 0)).snd.snd.snd.snd) ∧
            Gr out.length (Sp.ofS b ((nth t15 t17 (0, (0, 0), (0, 0), 0, 0)).snd.snd.snd.fst, (nth t15 t17 (0, (0, 0), (0, 0), 0, 0)).snd.snd.snd.snd)).length 16 ∧
              Rg IntKind.i64 (t17 + 1) ∧
                K0
                  (o, a, b, clashes, t15, t16, t17 + 1, out ++ Sp.ofS b ((nth t15 t17 (0, (0, 0), (0, 0), 0, 0)).snd.snd.snd.fst, (nth t15 t17 (0, (0, 0), (0, 0), 0, 0)).snd.snd.snd.snd),
                    ())
        else
          bif decide ((nth t15 t17 (0, (0, 0), (0, 0), 0, 0)).fst = 5) then
            Rg IntKind.i64 (clashes + 1) ∧
              Sp.ofS.pre a ((nth t15 t17 (0, (0, 0), (0, 0), 0, 0)).snd.snd.fst.fst, (nth t15 t17 (0, (0, 0), (0, 0), 0, 0)).snd.snd.fst.snd) ∧
                Gr out.length (Sp.ofS a ((nth t15 t17 (0, (0, 0), (0, 0), 0, 0)).snd.snd.fst.fst, (nth t15 t17 (0, (0, 0), (0, 0), 0, 0)).snd.snd.fst.snd)).length 16 ∧
                  Sp.ofS.pre b ((nth t15 t17 (0, (0, 0), (0, 0), 0, 0)).snd.snd.snd.fst, (nth t15 t17 (0, (0, 0), (0, 0), 0, 0)).snd.snd.snd.snd) ∧
                    Gr (out ++ Sp.ofS a ((nth t15 t17 (0, (0, 0), (0, 0), 0, 0)).snd.snd.fst.fst, (nth t15 t17 (0, (0, 0), (0, 0), 0, 0)).snd.snd.fst.snd)).length
                        (Sp.ofS b ((nth t15 t17 (0, (0, 0), (0, 0), 0, 0)).snd.snd.snd.fst, (nth t15 t17 (0, (0, 0), (0, 0), 0, 0)).snd.snd.snd.snd)).length 16 ∧
                      Rg IntKind.i64 (t17 + 1) ∧
                        K0
                          (o, a, b, clashes + 1, t15, t16, t17 + 1,
                            out ++ Sp.ofS a ((nth t15 t17 (0, (0, 0), (0, 0), 0, 0)).snd.snd.fst.fst, (nth t15 t17 (0, (0, 0), (0, 0), 0, 0)).snd.snd.fst.snd) ++
                              Sp.ofS b ((nth t15 t17 (0, (0, 0), (0, 0), 0, 0)).snd.snd.snd.fst, (nth t15 t17 (0, (0, 0), (0, 0), 0, 0)).snd.snd.snd.snd),
                            ())
          else
            Sp.ofS.pre a ((nth t15 t17 (0, (0, 0), (0, 0), 0, 0)).snd.snd.fst.fst, (nth t15 t17 (0, (0, 0), (0, 0), 0, 0)).snd.snd.fst.snd) ∧
              Gr out.length (Sp.ofS a ((nth t15 t17 (0, (0, 0), (0, 0), 0, 0)).snd.snd.fst.fst, (nth t15 t17 (0, (0, 0), (0, 0), 0, 0)).snd.snd.fst.snd)).length 16 ∧
                Rg IntKind.i64 (t17 + 1) ∧
                  K0
                    (o, a, b, clashes, t15, t16, t17 + 1, out ++ Sp.ofS a ((nth t15 t17 (0, (0, 0), (0, 0), 0, 0)).snd.snd.fst.fst, (nth t15 t17 (0, (0, 0), (0, 0), 0, 0)).snd.snd.fst.snd),
                      ())
  else R out clashes
def blend_Join.vc (R : List (List UInt8) → Int → Prop) (o : List Str) (a : List Str) (b : List Str) : Prop :=
  Sp.blendT.pre o a b ∧
    Lp
      (fun v K =>
        blend_Join.L0 R v.fst v.snd.fst v.snd.snd.fst v.snd.snd.snd.fst v.snd.snd.snd.snd.fst v.snd.snd.snd.snd.snd.fst v.snd.snd.snd.snd.snd.snd.fst v.snd.snd.snd.snd.snd.snd.snd.fst K)
      (o, a, b, 0, Sp.blendT o a b, (↑(Sp.blendT o a b).length : Int), 0, [], ())

def blend_Clean_1.vc (R : Bool → Prop) (p : Int × (Int × Int) × (Int × Int) × Int × Int) : Prop :=
  R (decide (p.fst = 5))

def slices_IndexFunc_blend_Part_blend_Part.L0 (R : Int →
  Prop) (s : List (Int × (Int × Int) × (Int × Int) × Int × Int)) (t7 : Int) (t8 : Int) (K0 : List (Int × (Int × Int) × (Int × Int) × Int × Int) × Int × Int × Unit → Prop) : Prop :=
  bif decide (t8 < t7) then Ix t8 s.length ∧ bif Sp.isClash (nth s t8 (0, (0, 0), (0, 0), 0, 0)) then R t8 else Rg IntKind.i64 (t8 + 1) ∧ K0 (s, t7, t8 + 1, ()) else R (-1)
def slices_IndexFunc_blend_Part_blend_Part.vc (R : Int → Prop) (l : List (Int × (Int × Int) × (Int × Int) × Int × Int)) : Prop :=
  Lp (fun v K => slices_IndexFunc_blend_Part_blend_Part.L0 R v.fst v.snd.fst v.snd.snd.fst K) (l, (↑l.length : Int), 0, ())

def slices_ContainsFunc_blend_Part_blend_Part.vc (R : Bool → Prop) (l : List (Int × (Int × Int) × (Int × Int) × Int × Int)) : Prop :=
  Sp.idxClash.pre l ∧ R (decide (0 ≤ Sp.idxClash l))

def blend_Clean.vc (R : Bool → Prop) (l : List (Int × (Int × Int) × (Int × Int) × Int × Int)) : Prop :=
  Sp.idxClash.pre l ∧ R !Sp.hasClash l

def rectoref25_fellow.L0 (R : Int → Prop) (at_ : Int) (t7 : List (Int × Int × Bool)) (t8 : Int) (t9 : Int) (K0 : Int × List (Int × Int × Bool) × Int × Int × Unit → Prop) : Prop :=
  bif decide (t9 < t8) then
    Ix t9 t7.length ∧ bif decide ((nth t7 t9 (0, 0, false)).fst = at_) then R (nth t7 t9 (0, 0, false)).snd.fst else Rg IntKind.i64 (t9 + 1) ∧ K0 (at_, t7, t8, t9 + 1, ())
  else R (-1)
def rectoref25_fellow.vc (R : Int → Prop) (l : List (Int × Int × Bool)) (at_ : Int) : Prop :=
  Lp (fun v K => rectoref25_fellow.L0 R v.fst v.snd.fst v.snd.snd.fst v.snd.snd.snd.fst K) (at_, l, (↑l.length : Int), 0, ())

def rectoref25_Triples.L0 (R : List (List Int) →
  Prop) (ours : List
  (Int ×
    Int ×
      Bool)) (theirs : List
  (Int × Int × Bool)) (o : Int) (ends : List Int) (out : List (List Int)) (K0 : List (Int × Int × Bool) × List (Int × Int × Bool) × Int × List Int × List (List Int) × Unit → Prop) : Prop :=
  Ln 3 ends.length ∧
    Ix 0 3 ∧
      Ix 0 ends.length ∧
        bif decide (o < nth ends 0 0) then
          Sp.fellow.pre ours o ∧
            Sp.fellow.pre theirs o ∧
              bif decide (0 ≤ Sp.fellow ours o) then
                bif decide (0 ≤ Sp.fellow theirs o) then Gr out.length 1 24 ∧ Rg IntKind.i64 (o + 1) ∧ K0 (ours, theirs, o + 1, ends, out ++ [[o, Sp.fellow ours o, Sp.fellow theirs o]], ())
                else Rg IntKind.i64 (o + 1) ∧ K0 (ours, theirs, o + 1, ends, out, ())
              else Rg IntKind.i64 (o + 1) ∧ K0 (ours, theirs, o + 1, ends, out, ())
        else Ln 3 ends.length ∧ Gr out.length 1 24 ∧ R (out ++ [ends])
def rectoref25_Triples.vc (R : List (List Int) → Prop) (ours : List (Int × Int × Bool)) (theirs : List (Int × Int × Bool)) (ends : List Int) : Prop :=
  Lp (fun v K => rectoref25_Triples.L0 R v.fst v.snd.fst v.snd.snd.fst v.snd.snd.snd.fst v.snd.snd.snd.snd.fst K) (ours, theirs, 0, ends, [], ())

def rectoref25_kind.vc (R : Int → Prop) (oa : Bool) (ob : Bool) (ab : Bool) : Prop :=
  bif oa then R 2 else bif ob then R 3 else bif ab then R 4 else R 5

def rectoref25_empty.vc (R : Bool → Prop) (p : Int × List Int × List Int) : Prop :=
  R
    (eqI (List.headD p.snd.fst 0) (List.headD p.snd.snd 0) &&
      (eqI ((List.tail p.snd.fst).headD 0) ((List.tail p.snd.snd).headD 0) && (eqI ((List.tail p.snd.fst).tail.headD 0) ((List.tail p.snd.snd).tail.headD 0) && true)))

def rectoplain_Texts.L0 (R : Bool →
  Prop) (a : List (List UInt8)) (b : List (List UInt8)) (t7 : Int) (t8 : Int) (K0 : List (List UInt8) × List (List UInt8) × Int × Int × Unit → Prop) : Prop :=
  bif decide (t8 < t7) then
    bif decide ((↑b.length : Int) ≤ t8) then R false
    else Ix t8 a.length ∧ Ix t8 b.length ∧ bif !decide (nth a t8 [] = nth b t8 []) then R false else Rg IntKind.i64 (t8 + 1) ∧ K0 (a, b, t7, t8 + 1, ())
  else R (decide ((↑a.length : Int) = (↑b.length : Int)))
def rectoplain_Texts.vc (R : Bool → Prop) (a : List Str) (b : List Str) : Prop :=
  Lp (fun v K => rectoplain_Texts.L0 R v.fst v.snd.fst v.snd.snd.fst v.snd.snd.snd.fst K) (a, b, (↑a.length : Int), 0, ())

def rectolaw25_same.L0 (R : Bool →
  Prop) (a : List
  (Int ×
    (Int × Int) ×
      (Int × Int) ×
        Int ×
          Int)) (b : List
  (Int ×
    List Int ×
      List
        Int)) (t7 : List
  (Int ×
    (Int × Int) ×
      (Int × Int) ×
        Int ×
          Int)) (t8 : Int) (t9 : Int) (K0 : List (Int × (Int × Int) × (Int × Int) × Int × Int) ×
    List (Int × List Int × List Int) × List (Int × (Int × Int) × (Int × Int) × Int × Int) × Int × Int × Unit →
  Prop) : Prop :=
  bif decide (t9 < t8) then
    Ix t9 t7.length ∧
      bif decide ((↑b.length : Int) ≤ t9) then R false
      else
        Ix t9 b.length ∧
          bif !decide ((nth t7 t9 (0, (0, 0), (0, 0), 0, 0)).fst = (nth b t9 (0, List.replicate 3 0, List.replicate 3 0)).fst) then R false
          else
            Ix t9 b.length ∧
              bif
                  !(List.zipWith (fun x x_1 => eqI x x_1)
                          [(nth t7 t9 (0, (0, 0), (0, 0), 0, 0)).snd.fst.fst, (nth t7 t9 (0, (0, 0), (0, 0), 0, 0)).snd.snd.fst.fst, (nth t7 t9 (0, (0, 0), (0, 0), 0, 0)).snd.snd.snd.fst]
                          (nth b t9 (0, List.replicate 3 0, List.replicate 3 0)).snd.fst).all
                      fun a => a then
                R false
              else
                Ix t9 b.length ∧
                  bif
                      !(List.zipWith (fun x x_1 => eqI x x_1)
                              [(nth t7 t9 (0, (0, 0), (0, 0), 0, 0)).snd.fst.snd, (nth t7 t9 (0, (0, 0), (0, 0), 0, 0)).snd.snd.fst.snd,
                                (nth t7 t9 (0, (0, 0), (0, 0), 0, 0)).snd.snd.snd.snd]
                              (nth b t9 (0, List.replicate 3 0, List.replicate 3 0)).snd.snd).all
                          fun a => a then
                    R false
                  else Rg IntKind.i64 (t9 + 1) ∧ K0 (a, b, t7, t8, t9 + 1, ())
  else R (decide ((↑a.length : Int) = (↑b.length : Int)))
def rectolaw25_same.vc (R : Bool → Prop) (a : List (Int × (Int × Int) × (Int × Int) × Int × Int)) (b : List (Int × List Int × List Int)) : Prop :=
  Lp (fun v K => rectolaw25_same.L0 R v.fst v.snd.fst v.snd.snd.fst v.snd.snd.snd.fst v.snd.snd.snd.snd.fst K) (a, b, a, (↑a.length : Int), 0, ())

def rectolaw25_four.vc (R : Bool → Prop) : Prop :=
  Sp.joinP.pre [[97], [98], [99]] [[97], [120], [99]] [[97], [98], [99], [100]] ∧
    Sp.blendT.pre [[97]] [[98]] [[99]] ∧
      Sp.eqL.pre (Sp.joinP [[97], [98], [99]] [[97], [120], [99]] [[97], [98], [99], [100]]).fst [[97], [120], [99], [100]] ∧
        Ix 0 1 ∧ Sp.cleanP.pre (Sp.blendT [[97]] [[98]] [[99]]) ∧ Sp.cleanP.pre [] ∧ R true
