/- Conditions of functions. Written by a program of this session. -/
import Derived.Test.YtgfpmlildhbboaaSpE
set_option linter.unnecessarySimpa false
set_option linter.unusedVariables false
set_option linter.unusedSectionVars false
set_option linter.unusedSimpArgs false
set_option autoImplicit false
set_option linter.unusedVariables false
open Go Vi

def tree_Same_1_1.vc (R : Bool → Prop) (p : Str × Str) (q : Str × Str) : Prop :=
  R (eqS p.fst q.fst && eqS p.snd q.snd)

def EqualFunc_Attr.L0 (R : Bool →
  Prop) (s2 : List
  (List UInt8 ×
    List UInt8)) (t15 : List (List UInt8 × List UInt8)) (t16 : Int) (t17 : Int) (K0 : List (List UInt8 × List UInt8) × List (List UInt8 × List UInt8) × Int × Int × Unit → Prop) : Prop :=
  bif decide (t17 < t16) then
    Ix t17 t15.length ∧
      Ix t17 s2.length ∧
        bif !Sp.eqA1 ((nth t15 t17 ([], [])).fst, (nth t15 t17 ([], [])).snd) ((nth s2 t17 ([], [])).fst, (nth s2 t17 ([], [])).snd) then R false
        else Rg IntKind.i64 (t17 + 1) ∧ K0 (s2, t15, t16, t17 + 1, ())
  else R true
def EqualFunc_Attr.vc (R : Bool → Prop) (a : List (Str × Str)) (b : List (Str × Str)) : Prop :=
  bif !decide ((↑a.length : Int) = (↑b.length : Int)) then R false else Lp (fun v K => EqualFunc_Attr.L0 R v.fst v.snd.fst v.snd.snd.fst v.snd.snd.snd.fst K) (b, a, (↑a.length : Int), 0, ())

def tree_Same.vc (R : Bool → Prop) (nn : Nat) (a : List Vi.Node) (b : List Vi.Node) : Prop :=
  (Sp.eqNs.pre a b ∧ Sp.mEqF a b < nn) ∧ R (Sp.eqNs a b)

def EqualFunc_Node.L0 (nn : Nat) (R : Bool → Prop) (s2 : List Vi.Node) (t15 : List Vi.Node) (t16 : Int) (t17 : Int) (K0 : List Vi.Node × List Vi.Node × Int × Int × Unit → Prop) : Prop :=
  bif decide (t17 < t16) then
    Ix t17 t15.length ∧
      Ix t17 s2.length ∧
        (Sp.eqNd.pre
              (Vi.Node.mk (Vi.Node.kind (nth t15 t17 (Vi.Node.mk 0 0 [] [] [] []))) (Node.space (nth t15 t17 (Vi.Node.mk 0 0 [] [] [] [])))
                (Node.name (nth t15 t17 (Vi.Node.mk 0 0 [] [] [] []))) (Node.attrs (nth t15 t17 (Vi.Node.mk 0 0 [] [] [] []))) (Node.text (nth t15 t17 (Vi.Node.mk 0 0 [] [] [] [])))
                (Node.kids (nth t15 t17 (Vi.Node.mk 0 0 [] [] [] []))))
              (Vi.Node.mk (Vi.Node.kind (nth s2 t17 (Vi.Node.mk 0 0 [] [] [] []))) (Node.space (nth s2 t17 (Vi.Node.mk 0 0 [] [] [] [])))
                (Node.name (nth s2 t17 (Vi.Node.mk 0 0 [] [] [] []))) (Node.attrs (nth s2 t17 (Vi.Node.mk 0 0 [] [] [] []))) (Node.text (nth s2 t17 (Vi.Node.mk 0 0 [] [] [] [])))
                (Node.kids (nth s2 t17 (Vi.Node.mk 0 0 [] [] [] [])))) ∧
            Sp.mSm1
                (Vi.Node.mk (Vi.Node.kind (nth t15 t17 (Vi.Node.mk 0 0 [] [] [] []))) (Node.space (nth t15 t17 (Vi.Node.mk 0 0 [] [] [] [])))
                  (Node.name (nth t15 t17 (Vi.Node.mk 0 0 [] [] [] []))) (Node.attrs (nth t15 t17 (Vi.Node.mk 0 0 [] [] [] []))) (Node.text (nth t15 t17 (Vi.Node.mk 0 0 [] [] [] [])))
                  (Node.kids (nth t15 t17 (Vi.Node.mk 0 0 [] [] [] []))))
                (Vi.Node.mk (Vi.Node.kind (nth s2 t17 (Vi.Node.mk 0 0 [] [] [] []))) (Node.space (nth s2 t17 (Vi.Node.mk 0 0 [] [] [] [])))
                  (Node.name (nth s2 t17 (Vi.Node.mk 0 0 [] [] [] []))) (Node.attrs (nth s2 t17 (Vi.Node.mk 0 0 [] [] [] []))) (Node.text (nth s2 t17 (Vi.Node.mk 0 0 [] [] [] [])))
                  (Node.kids (nth s2 t17 (Vi.Node.mk 0 0 [] [] [] [])))) <
              nn) ∧
          bif
              !Sp.eqNd
                  (Vi.Node.mk (Vi.Node.kind (nth t15 t17 (Vi.Node.mk 0 0 [] [] [] []))) (Node.space (nth t15 t17 (Vi.Node.mk 0 0 [] [] [] [])))
                    (Node.name (nth t15 t17 (Vi.Node.mk 0 0 [] [] [] []))) (Node.attrs (nth t15 t17 (Vi.Node.mk 0 0 [] [] [] []))) (Node.text (nth t15 t17 (Vi.Node.mk 0 0 [] [] [] [])))
                    (Node.kids (nth t15 t17 (Vi.Node.mk 0 0 [] [] [] []))))
                  (Vi.Node.mk (Vi.Node.kind (nth s2 t17 (Vi.Node.mk 0 0 [] [] [] []))) (Node.space (nth s2 t17 (Vi.Node.mk 0 0 [] [] [] [])))
                    (Node.name (nth s2 t17 (Vi.Node.mk 0 0 [] [] [] []))) (Node.attrs (nth s2 t17 (Vi.Node.mk 0 0 [] [] [] []))) (Node.text (nth s2 t17 (Vi.Node.mk 0 0 [] [] [] [])))
                    (Node.kids (nth s2 t17 (Vi.Node.mk 0 0 [] [] [] [])))) then
            R false
          else Rg IntKind.i64 (t17 + 1) ∧ K0 (s2, t15, t16, t17 + 1, ())
  else R true
def EqualFunc_Node.vc (R : Bool → Prop) (nn : Nat) (a : List Vi.Node) (b : List Vi.Node) : Prop :=
  bif !decide ((↑a.length : Int) = (↑b.length : Int)) then R false
  else Lp (fun v K => EqualFunc_Node.L0 nn R v.fst v.snd.fst v.snd.snd.fst v.snd.snd.snd.fst K) (b, a, (↑a.length : Int), 0, ())

def tree_Same_1.vc (R : Bool → Prop) (nn : Nat) (x : Vi.Node) (y : Vi.Node) : Prop :=
  bif decide (x.kind = y.kind) then
    bif decide (x.space = y.space) then
      bif decide (x.name = y.name) then
        bif decide (x.text = y.text) then
          Sp.eqAt.pre x.attrs y.attrs ∧ bif Sp.eqAt x.attrs y.attrs then (Sp.eqNs.pre x.kids y.kids ∧ Sp.mSame x.kids y.kids < nn) ∧ R (Sp.eqNs x.kids y.kids) else R false
        else R false
      else R false
    else R false
  else R false

def blend_of_api_Node.vc (R : List Vi.Node → Prop) (l : List Vi.Node) (r : Int × Int) : Prop :=
  Sb r.fst r.snd l.length ∧ R (sub l r.fst r.snd)

def blend_kind_api_Node.vc (R : Int → Prop) (o : List Vi.Node) (a : List Vi.Node) (b : List Vi.Node) (p : Int × (Int × Int) × (Int × Int) × Int × Int) : Prop :=
  Sp.ofN.pre o (p.snd.fst.fst, p.snd.fst.snd) ∧
    Sp.ofN.pre a (p.snd.snd.fst.fst, p.snd.snd.fst.snd) ∧
      Sp.ofN.pre b (p.snd.snd.snd.fst, p.snd.snd.snd.snd) ∧
        bif decide ((↑(Sp.ofN o (p.snd.fst.fst, p.snd.fst.snd)).length : Int) = 0) then
          bif decide ((↑(Sp.ofN a (p.snd.snd.fst.fst, p.snd.snd.fst.snd)).length : Int) = 0) then
            bif decide ((↑(Sp.ofN b (p.snd.snd.snd.fst, p.snd.snd.snd.snd)).length : Int) = 0) then R 0
            else
              Sp.eqNs.pre (Sp.ofN o (p.snd.fst.fst, p.snd.fst.snd)) (Sp.ofN a (p.snd.snd.fst.fst, p.snd.snd.fst.snd)) ∧
                bif Sp.eqNs (Sp.ofN o (p.snd.fst.fst, p.snd.fst.snd)) (Sp.ofN a (p.snd.snd.fst.fst, p.snd.snd.fst.snd)) then R 2
                else
                  Sp.eqNs.pre (Sp.ofN o (p.snd.fst.fst, p.snd.fst.snd)) (Sp.ofN b (p.snd.snd.snd.fst, p.snd.snd.snd.snd)) ∧
                    bif Sp.eqNs (Sp.ofN o (p.snd.fst.fst, p.snd.fst.snd)) (Sp.ofN b (p.snd.snd.snd.fst, p.snd.snd.snd.snd)) then R 3
                    else
                      Sp.eqNs.pre (Sp.ofN a (p.snd.snd.fst.fst, p.snd.snd.fst.snd)) (Sp.ofN b (p.snd.snd.snd.fst, p.snd.snd.snd.snd)) ∧
                        bif Sp.eqNs (Sp.ofN a (p.snd.snd.fst.fst, p.snd.snd.fst.snd)) (Sp.ofN b (p.snd.snd.snd.fst, p.snd.snd.snd.snd)) then R 4 else R 5
          else
            Sp.eqNs.pre (Sp.ofN o (p.snd.fst.fst, p.snd.fst.snd)) (Sp.ofN a (p.snd.snd.fst.fst, p.snd.snd.fst.snd)) ∧
              bif Sp.eqNs (Sp.ofN o (p.snd.fst.fst, p.snd.fst.snd)) (Sp.ofN a (p.snd.snd.fst.fst, p.snd.snd.fst.snd)) then R 2
              else
                Sp.eqNs.pre (Sp.ofN o (p.snd.fst.fst, p.snd.fst.snd)) (Sp.ofN b (p.snd.snd.snd.fst, p.snd.snd.snd.snd)) ∧
                  bif Sp.eqNs (Sp.ofN o (p.snd.fst.fst, p.snd.fst.snd)) (Sp.ofN b (p.snd.snd.snd.fst, p.snd.snd.snd.snd)) then R 3
                  else
                    Sp.eqNs.pre (Sp.ofN a (p.snd.snd.fst.fst, p.snd.snd.fst.snd)) (Sp.ofN b (p.snd.snd.snd.fst, p.snd.snd.snd.snd)) ∧
                      bif Sp.eqNs (Sp.ofN a (p.snd.snd.fst.fst, p.snd.snd.fst.snd)) (Sp.ofN b (p.snd.snd.snd.fst, p.snd.snd.snd.snd)) then R 4 else R 5
        else
          Sp.eqNs.pre (Sp.ofN o (p.snd.fst.fst, p.snd.fst.snd)) (Sp.ofN a (p.snd.snd.fst.fst, p.snd.snd.fst.snd)) ∧
            bif Sp.eqNs (Sp.ofN o (p.snd.fst.fst, p.snd.fst.snd)) (Sp.ofN a (p.snd.snd.fst.fst, p.snd.snd.fst.snd)) then R 2
            else
              Sp.eqNs.pre (Sp.ofN o (p.snd.fst.fst, p.snd.fst.snd)) (Sp.ofN b (p.snd.snd.snd.fst, p.snd.snd.snd.snd)) ∧
                bif Sp.eqNs (Sp.ofN o (p.snd.fst.fst, p.snd.fst.snd)) (Sp.ofN b (p.snd.snd.snd.fst, p.snd.snd.snd.snd)) then R 3
                else
                  Sp.eqNs.pre (Sp.ofN a (p.snd.snd.fst.fst, p.snd.snd.fst.snd)) (Sp.ofN b (p.snd.snd.snd.fst, p.snd.snd.snd.snd)) ∧
                    bif Sp.eqNs (Sp.ofN a (p.snd.snd.fst.fst, p.snd.snd.fst.snd)) (Sp.ofN b (p.snd.snd.snd.fst, p.snd.snd.snd.snd)) then R 4 else R 5

def blend_parts_api_Node_1.vc (R : Int →
  Int →
    Int →
      Int →
        Int →
          Int →
            Int →
              List Vi.Node →
                List Vi.Node →
                  List Vi.Node →
                    List (Int × (Int × Int) × (Int × Int) × Int × Int) →
                      Prop) (x : Int) (y : Int) (z : Int) (f0 : Int) (f1 : Int) (f2 : Int) (f3 : Int) (f4 : Int) (f5 : Int) (f6 : Int) (o : List
  Vi.Node) (a : List Vi.Node) (b : List Vi.Node) (out : List (Int × (Int × Int) × (Int × Int) × Int × Int)) : Prop :=
  Sp.kindN.pre o a b (0, (f1, x), (f3, y), f5, z) ∧
    bif !decide (Sp.kindN o a b (0, (f1, x), (f3, y), f5, z) = 0) then
      Gr out.length 1 56 ∧ R f0 f1 f2 f3 f4 f5 f6 o a b (out ++ [(Sp.kindN o a b (0, (f1, x), (f3, y), f5, z), (f1, x), (f3, y), f5, z)])
    else R f0 f1 f2 f3 f4 f5 f6 o a b out

def blend_parts_api_Node.L0 (R : List (Int × (Int × Int) × (Int × Int) × Int × Int) →
  Prop) (ours : List
  (Int ×
    Int ×
      Bool)) (theirs : List
  (Int ×
    Int ×
      Bool)) (t16 : Int) (t17 : Int) (t_o : List
  Vi.Node) (t_a : List
  Vi.Node) (t_b : List
  Vi.Node) (out : List
  (Int ×
    (Int × Int) ×
      (Int × Int) ×
        Int ×
          Int)) (from__Kind : Int) (from__O_From : Int) (from__O_To : Int) (from__A_From : Int) (from__A_To : Int) (from__B_From : Int) (from__B_To : Int) (K0 : List (Int × Int × Bool) ×
    List (Int × Int × Bool) × Int × Int × List Vi.Node × List Vi.Node × List Vi.Node × List (Int × (Int × Int) × (Int × Int) × Int × Int) × Int × Int × Int × Int × Int × Int × Int × Unit →
  Prop) : Prop :=
  bif decide (t17 < t16) then
    Sp.fellow.pre ours t17 ∧
      Sp.fellow.pre theirs t17 ∧
        bif decide (Sp.fellow ours t17 < 0) then
          Rg IntKind.i64 (t17 + 1) ∧ K0 (ours, theirs, t16, t17 + 1, t_o, t_a, t_b, out, from__Kind, from__O_From, from__O_To, from__A_From, from__A_To, from__B_From, from__B_To, ())
        else
          bif decide (Sp.fellow theirs t17 < 0) then
            Rg IntKind.i64 (t17 + 1) ∧ K0 (ours, theirs, t16, t17 + 1, t_o, t_a, t_b, out, from__Kind, from__O_From, from__O_To, from__A_From, from__A_To, from__B_From, from__B_To, ())
          else
            Sp.upToN.pre t17 (Sp.fellow ours t17) (Sp.fellow theirs t17) from__O_From from__A_From from__B_From t_o t_a t_b out ∧
              Rg IntKind.i64 (t17 + 1) ∧
                Rg IntKind.i64 (Sp.fellow ours t17 + 1) ∧
                  Rg IntKind.i64 (Sp.fellow theirs t17 + 1) ∧
                    Gr (Sp.upToN t17 (Sp.fellow ours t17) (Sp.fellow theirs t17) from__O_From from__A_From from__B_From t_o t_a t_b out).length 1 56 ∧
                      Rg IntKind.i64 (t17 + 1) ∧
                        Rg IntKind.i64 (Sp.fellow ours t17 + 1) ∧
                          Rg IntKind.i64 (Sp.fellow theirs t17 + 1) ∧
                            Rg IntKind.i64 (t17 + 1) ∧
                              K0
                                (ours, theirs, t16, t17 + 1, t_o, t_a, t_b,
                                  Sp.upToN t17 (Sp.fellow ours t17) (Sp.fellow theirs t17) from__O_From from__A_From from__B_From t_o t_a t_b out ++
                                    [(1, (t17, t17 + 1), (Sp.fellow ours t17, Sp.fellow ours t17 + 1), Sp.fellow theirs t17, Sp.fellow theirs t17 + 1)],
                                  0, t17 + 1, 0, Sp.fellow ours t17 + 1, 0, Sp.fellow theirs t17 + 1, 0, ())
  else
    Sp.upToN.pre (↑t_o.length : Int) (↑t_a.length : Int) (↑t_b.length : Int) from__O_From from__A_From from__B_From t_o t_a t_b out ∧
      R (Sp.upToN (↑t_o.length : Int) (↑t_a.length : Int) (↑t_b.length : Int) from__O_From from__A_From from__B_From t_o t_a t_b out)
def blend_parts_api_Node.vc (R : List (Int × (Int × Int) × (Int × Int) × Int × Int) →
  Prop) (o : List Vi.Node) (a : List Vi.Node) (b : List Vi.Node) (ours : List (Int × Int × Bool)) (theirs : List (Int × Int × Bool)) : Prop :=
  Lp
    (fun v K =>
      blend_parts_api_Node.L0 R v.fst v.snd.fst v.snd.snd.fst v.snd.snd.snd.fst v.snd.snd.snd.snd.fst v.snd.snd.snd.snd.snd.fst v.snd.snd.snd.snd.snd.snd.fst
        v.snd.snd.snd.snd.snd.snd.snd.fst v.snd.snd.snd.snd.snd.snd.snd.snd.fst v.snd.snd.snd.snd.snd.snd.snd.snd.snd.fst v.snd.snd.snd.snd.snd.snd.snd.snd.snd.snd.fst
        v.snd.snd.snd.snd.snd.snd.snd.snd.snd.snd.snd.fst v.snd.snd.snd.snd.snd.snd.snd.snd.snd.snd.snd.snd.fst v.snd.snd.snd.snd.snd.snd.snd.snd.snd.snd.snd.snd.snd.fst
        v.snd.snd.snd.snd.snd.snd.snd.snd.snd.snd.snd.snd.snd.snd.fst K)
    (ours, theirs, (↑o.length : Int), 0, o, a, b, [], 0, 0, 0, 0, 0, 0, 0, ())

def blend_Nodes.vc (R : List (Int × (Int × Int) × (Int × Int) × Int × Int) → Prop) (o : List Vi.Node) (a : List Vi.Node) (b : List Vi.Node) : Prop :=
  Sp.lists.pre o a ∧ Sp.lists.pre o b ∧ Sp.partsN.pre o a b (Sp.lists o a) (Sp.lists o b) ∧ R (Sp.partsN o a b (Sp.lists o a) (Sp.lists o b))
