/- Conditions of functions. Written by a program of this session. -/
import Derived.Test.YtgfpmlildhbboaaSpG
set_option linter.unnecessarySimpa false
set_option linter.unusedVariables false
set_option linter.unusedSectionVars false
set_option linter.unusedSimpArgs false
set_option autoImplicit false
set_option linter.unusedVariables false
open Go Vi

def slices_Clone_api_Node_api_Node.vc (R : List Vi.Node → Prop) (s : List Vi.Node) : Prop :=
  Imp (Zr s.length) (R []) ∧ Gr 0 s.length 96 ∧ R s

def slices_Clone_api_Attr_api_Attr.vc (R : List (List UInt8 × List UInt8) → Prop) (s : List (Str × Str)) : Prop :=
  Imp (Zr s.length) (R []) ∧ Gr 0 s.length 32 ∧ R s

def tree_Copy.L0 (nn : Nat) (R : List Vi.Node → Prop) (t8 : Int) (t9 : Int) (out : List Vi.Node) (K0 : Int × Int × List Vi.Node × Unit → Prop) : Prop :=
  bif decide (t9 < t8) then
    Ix t9 out.length ∧
      Sp.idA.pre (Node.attrs (nth out t9 (Vi.Node.mk 0 0 [] [] [] []))) ∧
        Ix t9 out.length ∧
          Ix t9
              (out.set t9.toNat
                  (Vi.Node.mk (Vi.Node.kind (nth out t9 (Vi.Node.mk 0 0 [] [] [] []))) (Node.space (nth out t9 (Vi.Node.mk 0 0 [] [] [] [])))
                    (Node.name (nth out t9 (Vi.Node.mk 0 0 [] [] [] []))) (Sp.idA (Node.attrs (nth out t9 (Vi.Node.mk 0 0 [] [] [] []))))
                    (Node.text (nth out t9 (Vi.Node.mk 0 0 [] [] [] []))) (Node.kids (nth out t9 (Vi.Node.mk 0 0 [] [] [] []))))).length ∧
            (Sp.copyN.pre
                  (Node.kids
                    (nth
                      (out.set t9.toNat
                        (Vi.Node.mk (Vi.Node.kind (nth out t9 (Vi.Node.mk 0 0 [] [] [] []))) (Node.space (nth out t9 (Vi.Node.mk 0 0 [] [] [] [])))
                          (Node.name (nth out t9 (Vi.Node.mk 0 0 [] [] [] []))) (Sp.idA (Node.attrs (nth out t9 (Vi.Node.mk 0 0 [] [] [] []))))
                          (Node.text (nth out t9 (Vi.Node.mk 0 0 [] [] [] []))) (Node.kids (nth out t9 (Vi.Node.mk 0 0 [] [] [] [])))))
                      t9 (Vi.Node.mk 0 0 [] [] [] []))) ∧
                Sp.mCp
                    (Node.kids
                      (nth
                        (out.set t9.toNat
                          (Vi.Node.mk (Vi.Node.kind (nth out t9 (Vi.Node.mk 0 0 [] [] [] []))) (Node.space (nth out t9 (Vi.Node.mk 0 0 [] [] [] [])))
                            (Node.name (nth out t9 (Vi.Node.mk 0 0 [] [] [] []))) (Sp.idA (Node.attrs (nth out t9 (Vi.Node.mk 0 0 [] [] [] []))))
                            (Node.text (nth out t9 (Vi.Node.mk 0 0 [] [] [] []))) (Node.kids (nth out t9 (Vi.Node.mk 0 0 [] [] [] [])))))
                        t9 (Vi.Node.mk 0 0 [] [] [] []))) <
                  nn) ∧
              Ix t9
                  (out.set t9.toNat
                      (Vi.Node.mk (Vi.Node.kind (nth out t9 (Vi.Node.mk 0 0 [] [] [] []))) (Node.space (nth out t9 (Vi.Node.mk 0 0 [] [] [] [])))
                        (Node.name (nth out t9 (Vi.Node.mk 0 0 [] [] [] []))) (Sp.idA (Node.attrs (nth out t9 (Vi.Node.mk 0 0 [] [] [] []))))
                        (Node.text (nth out t9 (Vi.Node.mk 0 0 [] [] [] []))) (Node.kids (nth out t9 (Vi.Node.mk 0 0 [] [] [] []))))).length ∧
                Rg IntKind.i64 (t9 + 1) ∧
                  K0
                    (t8, t9 + 1,
                      (out.set t9.toNat
                            (Vi.Node.mk (Vi.Node.kind (nth out t9 (Vi.Node.mk 0 0 [] [] [] []))) (Node.space (nth out t9 (Vi.Node.mk 0 0 [] [] [] [])))
                              (Node.name (nth out t9 (Vi.Node.mk 0 0 [] [] [] []))) (Sp.idA (Node.attrs (nth out t9 (Vi.Node.mk 0 0 [] [] [] []))))
                              (Node.text (nth out t9 (Vi.Node.mk 0 0 [] [] [] []))) (Node.kids (nth out t9 (Vi.Node.mk 0 0 [] [] [] []))))).set
                        t9.toNat
                        (Vi.Node.mk
                          (Vi.Node.kind
                            (nth
                              (out.set t9.toNat
                                (Vi.Node.mk (Vi.Node.kind (nth out t9 (Vi.Node.mk 0 0 [] [] [] []))) (Node.space (nth out t9 (Vi.Node.mk 0 0 [] [] [] [])))
                                  (Node.name (nth out t9 (Vi.Node.mk 0 0 [] [] [] []))) (Sp.idA (Node.attrs (nth out t9 (Vi.Node.mk 0 0 [] [] [] []))))
                                  (Node.text (nth out t9 (Vi.Node.mk 0 0 [] [] [] []))) (Node.kids (nth out t9 (Vi.Node.mk 0 0 [] [] [] [])))))
                              t9 (Vi.Node.mk 0 0 [] [] [] [])))
                          (Node.space
                            (nth
                              (out.set t9.toNat
                                (Vi.Node.mk (Vi.Node.kind (nth out t9 (Vi.Node.mk 0 0 [] [] [] []))) (Node.space (nth out t9 (Vi.Node.mk 0 0 [] [] [] [])))
                                  (Node.name (nth out t9 (Vi.Node.mk 0 0 [] [] [] []))) (Sp.idA (Node.attrs (nth out t9 (Vi.Node.mk 0 0 [] [] [] []))))
                                  (Node.text (nth out t9 (Vi.Node.mk 0 0 [] [] [] []))) (Node.kids (nth out t9 (Vi.Node.mk 0 0 [] [] [] [])))))
                              t9 (Vi.Node.mk 0 0 [] [] [] [])))
                          (Node.name
                            (nth
                              (out.set t9.toNat
                                (Vi.Node.mk (Vi.Node.kind (nth out t9 (Vi.Node.mk 0 0 [] [] [] []))) (Node.space (nth out t9 (Vi.Node.mk 0 0 [] [] [] [])))
                                  (Node.name (nth out t9 (Vi.Node.mk 0 0 [] [] [] []))) (Sp.idA (Node.attrs (nth out t9 (Vi.Node.mk 0 0 [] [] [] []))))
                                  (Node.text (nth out t9 (Vi.Node.mk 0 0 [] [] [] []))) (Node.kids (nth out t9 (Vi.Node.mk 0 0 [] [] [] [])))))
                              t9 (Vi.Node.mk 0 0 [] [] [] [])))
                          (Node.attrs
                            (nth
                              (out.set t9.toNat
                                (Vi.Node.mk (Vi.Node.kind (nth out t9 (Vi.Node.mk 0 0 [] [] [] []))) (Node.space (nth out t9 (Vi.Node.mk 0 0 [] [] [] [])))
                                  (Node.name (nth out t9 (Vi.Node.mk 0 0 [] [] [] []))) (Sp.idA (Node.attrs (nth out t9 (Vi.Node.mk 0 0 [] [] [] []))))
                                  (Node.text (nth out t9 (Vi.Node.mk 0 0 [] [] [] []))) (Node.kids (nth out t9 (Vi.Node.mk 0 0 [] [] [] [])))))
                              t9 (Vi.Node.mk 0 0 [] [] [] [])))
                          (Node.text
                            (nth
                              (out.set t9.toNat
                                (Vi.Node.mk (Vi.Node.kind (nth out t9 (Vi.Node.mk 0 0 [] [] [] []))) (Node.space (nth out t9 (Vi.Node.mk 0 0 [] [] [] [])))
                                  (Node.name (nth out t9 (Vi.Node.mk 0 0 [] [] [] []))) (Sp.idA (Node.attrs (nth out t9 (Vi.Node.mk 0 0 [] [] [] []))))
                                  (Node.text (nth out t9 (Vi.Node.mk 0 0 [] [] [] []))) (Node.kids (nth out t9 (Vi.Node.mk 0 0 [] [] [] [])))))
                              t9 (Vi.Node.mk 0 0 [] [] [] [])))
                          (Sp.copyN
                            (Node.kids
                              (nth
                                (out.set t9.toNat
                                  (Vi.Node.mk (Vi.Node.kind (nth out t9 (Vi.Node.mk 0 0 [] [] [] []))) (Node.space (nth out t9 (Vi.Node.mk 0 0 [] [] [] [])))
                                    (Node.name (nth out t9 (Vi.Node.mk 0 0 [] [] [] []))) (Sp.idA (Node.attrs (nth out t9 (Vi.Node.mk 0 0 [] [] [] []))))
                                    (Node.text (nth out t9 (Vi.Node.mk 0 0 [] [] [] []))) (Node.kids (nth out t9 (Vi.Node.mk 0 0 [] [] [] [])))))
                                t9 (Vi.Node.mk 0 0 [] [] [] []))))),
                      ())
  else R out
def tree_Copy.vc (R : List Vi.Node → Prop) (nn : Nat) (l : List Vi.Node) : Prop :=
  Sp.idN.pre l ∧ Lp (fun v K => tree_Copy.L0 nn R v.fst v.snd.fst v.snd.snd.fst K) ((↑(Sp.idN l).length : Int), 0, Sp.idN l, ())

def merge_add.L0 (R : List Vi.Node → Prop) (t8 : List Vi.Node) (t9 : Int) (t10 : Int) (out : List Vi.Node) (K0 : List Vi.Node × Int × Int × List Vi.Node × Unit → Prop) : Prop :=
  bif decide (t10 < t9) then
    Ix t10 t8.length ∧
      Rg IntKind.i64 ((↑out.length : Int) - 1) ∧
        bif decide (0 ≤ (↑out.length : Int) - 1) then
          bif decide (Vi.Node.kind (nth t8 t10 (Vi.Node.mk 0 0 [] [] [] [])) = 2) then
            Ix ((↑out.length : Int) - 1) out.length ∧
              bif decide (Vi.Node.kind (nth out ((↑out.length : Int) - 1) (Vi.Node.mk 0 0 [] [] [] [])) = 2) then
                Ix ((↑out.length : Int) - 1) out.length ∧
                  (↑(List.length (Node.text (nth out ((↑out.length : Int) - 1) (Vi.Node.mk 0 0 [] [] [] [])))) : Int) +
                        (↑(List.length (Node.text (nth t8 t10 (Vi.Node.mk 0 0 [] [] [] [])))) : Int) ≤
                      9223372036854775807 ∧
                    Ix ((↑out.length : Int) - 1) out.length ∧
                      Rg IntKind.i64 (t10 + 1) ∧
                        K0
                          (t8, t9, t10 + 1,
                            out.set ((↑out.length : Int) - 1).toNat
                              (Vi.Node.mk (Vi.Node.kind (nth out ((↑out.length : Int) - 1) (Vi.Node.mk 0 0 [] [] [] [])))
                                (Node.space (nth out ((↑out.length : Int) - 1) (Vi.Node.mk 0 0 [] [] [] []))) (Node.name (nth out ((↑out.length : Int) - 1) (Vi.Node.mk 0 0 [] [] [] [])))
                                (Node.attrs (nth out ((↑out.length : Int) - 1) (Vi.Node.mk 0 0 [] [] [] [])))
                                (Node.text (nth out ((↑out.length : Int) - 1) (Vi.Node.mk 0 0 [] [] [] [])) ++ Node.text (nth t8 t10 (Vi.Node.mk 0 0 [] [] [] [])))
                                (Node.kids (nth out ((↑out.length : Int) - 1) (Vi.Node.mk 0 0 [] [] [] [])))),
                            ())
              else
                Gr out.length 1 96 ∧
                  Rg IntKind.i64 (t10 + 1) ∧
                    K0
                      (t8, t9, t10 + 1,
                        out ++
                          [Vi.Node.mk (Vi.Node.kind (nth t8 t10 (Vi.Node.mk 0 0 [] [] [] []))) (Node.space (nth t8 t10 (Vi.Node.mk 0 0 [] [] [] [])))
                              (Node.name (nth t8 t10 (Vi.Node.mk 0 0 [] [] [] []))) (Node.attrs (nth t8 t10 (Vi.Node.mk 0 0 [] [] [] [])))
                              (Node.text (nth t8 t10 (Vi.Node.mk 0 0 [] [] [] []))) (Node.kids (nth t8 t10 (Vi.Node.mk 0 0 [] [] [] [])))],
                        ())
          else
            Gr out.length 1 96 ∧
              Rg IntKind.i64 (t10 + 1) ∧
                K0
                  (t8, t9, t10 + 1,
                    out ++
                      [Vi.Node.mk (Vi.Node.kind (nth t8 t10 (Vi.Node.mk 0 0 [] [] [] []))) (Node.space (nth t8 t10 (Vi.Node.mk 0 0 [] [] [] [])))
                          (Node.name (nth t8 t10 (Vi.Node.mk 0 0 [] [] [] []))) (Node.attrs (nth t8 t10 (Vi.Node.mk 0 0 [] [] [] []))) (Node.text (nth t8 t10 (Vi.Node.mk 0 0 [] [] [] [])))
                          (Node.kids (nth t8 t10 (Vi.Node.mk 0 0 [] [] [] [])))],
                    ())
        else
          Gr out.length 1 96 ∧
            Rg IntKind.i64 (t10 + 1) ∧
              K0
                (t8, t9, t10 + 1,
                  out ++
                    [Vi.Node.mk (Vi.Node.kind (nth t8 t10 (Vi.Node.mk 0 0 [] [] [] []))) (Node.space (nth t8 t10 (Vi.Node.mk 0 0 [] [] [] [])))
                        (Node.name (nth t8 t10 (Vi.Node.mk 0 0 [] [] [] []))) (Node.attrs (nth t8 t10 (Vi.Node.mk 0 0 [] [] [] []))) (Node.text (nth t8 t10 (Vi.Node.mk 0 0 [] [] [] [])))
                        (Node.kids (nth t8 t10 (Vi.Node.mk 0 0 [] [] [] [])))],
                  ())
  else R out
def merge_add.vc (R : List Vi.Node → Prop) (l : List Vi.Node) (out : List Vi.Node) : Prop :=
  Lp (fun v K => merge_add.L0 R v.fst v.snd.fst v.snd.snd.fst v.snd.snd.snd.fst K) (l, (↑l.length : Int), 0, out, ())

def merge_joined.vc (R : List Vi.Node → Prop) (l : List Vi.Node) : Prop :=
  Sp.copyN.pre l ∧ Sp.addN.pre [] (Sp.copyN l) ∧ R (Sp.addN [] (Sp.copyN l))

def merge_box.vc (R : Vi.Node → Prop) (name : Str) (kids : List Vi.Node) : Prop :=
  R (Vi.Node.mk 1 0 [115, 101, 99, 116, 105, 111, 110] [([99, 108, 97, 115, 115], name)] [] kids)

def merge_Mark.vc (R : Vi.Node → Prop) (a : List Vi.Node) (b : List Vi.Node) : Prop :=
  Sp.joinedN.pre a ∧
    Sp.joinedN.pre b ∧
      R
        (Vi.Node.mk (Sp.boxN [99, 108, 97, 115, 104] [Sp.boxN [111, 117, 114, 115] (Sp.joinedN a), Sp.boxN [116, 104, 101, 105, 114, 115] (Sp.joinedN b)]).kind
          (Sp.boxN [99, 108, 97, 115, 104] [Sp.boxN [111, 117, 114, 115] (Sp.joinedN a), Sp.boxN [116, 104, 101, 105, 114, 115] (Sp.joinedN b)]).space
          (Sp.boxN [99, 108, 97, 115, 104] [Sp.boxN [111, 117, 114, 115] (Sp.joinedN a), Sp.boxN [116, 104, 101, 105, 114, 115] (Sp.joinedN b)]).name
          (Sp.boxN [99, 108, 97, 115, 104] [Sp.boxN [111, 117, 114, 115] (Sp.joinedN a), Sp.boxN [116, 104, 101, 105, 114, 115] (Sp.joinedN b)]).attrs
          (Sp.boxN [99, 108, 97, 115, 104] [Sp.boxN [111, 117, 114, 115] (Sp.joinedN a), Sp.boxN [116, 104, 101, 105, 114, 115] (Sp.joinedN b)]).text
          (Sp.boxN [99, 108, 97, 115, 104] [Sp.boxN [111, 117, 114, 115] (Sp.joinedN a), Sp.boxN [116, 104, 101, 105, 114, 115] (Sp.joinedN b)]).kids)

def merge_isBox.vc (R : Bool → Prop) (n : Vi.Node) (name : Str) : Prop :=
  Sp.eqNs.pre [Vi.Node.mk n.kind n.space n.name n.attrs n.text []]
      [Vi.Node.mk (Sp.boxN name []).kind (Sp.boxN name []).space (Sp.boxN name []).name (Sp.boxN name []).attrs (Sp.boxN name []).text (Sp.boxN name []).kids] ∧
    R
      (Sp.eqNs [Vi.Node.mk n.kind n.space n.name n.attrs n.text []]
        [Vi.Node.mk (Sp.boxN name []).kind (Sp.boxN name []).space (Sp.boxN name []).name (Sp.boxN name []).attrs (Sp.boxN name []).text (Sp.boxN name []).kids])

def merge_IsMark.vc (R : Bool → Prop) (n : Vi.Node) : Prop :=
  Sp.isBoxN.pre (Vi.Node.mk n.kind n.space n.name n.attrs n.text n.kids) [99, 108, 97, 115, 104] ∧
    bif !Sp.isBoxN (Vi.Node.mk n.kind n.space n.name n.attrs n.text n.kids) [99, 108, 97, 115, 104] then R false
    else
      bif !decide ((↑n.kids.length : Int) = 2) then R false
      else
        Ix 0 n.kids.length ∧
          Sp.isBoxN.pre (nth n.kids 0 (Vi.Node.mk 0 0 [] [] [] [])) [111, 117, 114, 115] ∧
            bif Sp.isBoxN (nth n.kids 0 (Vi.Node.mk 0 0 [] [] [] [])) [111, 117, 114, 115] then
              Ix 1 n.kids.length ∧
                Sp.isBoxN.pre (nth n.kids 1 (Vi.Node.mk 0 0 [] [] [] [])) [116, 104, 101, 105, 114, 115] ∧
                  R (Sp.isBoxN (nth n.kids 1 (Vi.Node.mk 0 0 [] [] [] [])) [116, 104, 101, 105, 114, 115])
            else R false

def merge_Marks.L0 (nn : Nat) (R : Int → Prop) (sum : Int) (t6 : List Vi.Node) (t7 : Int) (t8 : Int) (K0 : Int × List Vi.Node × Int × Int × Unit → Prop) : Prop :=
  bif decide (t8 < t7) then
    Ix t8 t6.length ∧
      Sp.isMarkN.pre
          (Vi.Node.mk (Vi.Node.kind (nth t6 t8 (Vi.Node.mk 0 0 [] [] [] []))) (Node.space (nth t6 t8 (Vi.Node.mk 0 0 [] [] [] []))) (Node.name (nth t6 t8 (Vi.Node.mk 0 0 [] [] [] [])))
            (Node.attrs (nth t6 t8 (Vi.Node.mk 0 0 [] [] [] []))) (Node.text (nth t6 t8 (Vi.Node.mk 0 0 [] [] [] []))) (Node.kids (nth t6 t8 (Vi.Node.mk 0 0 [] [] [] [])))) ∧
        bif
            Sp.isMarkN
              (Vi.Node.mk (Vi.Node.kind (nth t6 t8 (Vi.Node.mk 0 0 [] [] [] []))) (Node.space (nth t6 t8 (Vi.Node.mk 0 0 [] [] [] []))) (Node.name (nth t6 t8 (Vi.Node.mk 0 0 [] [] [] [])))
                (Node.attrs (nth t6 t8 (Vi.Node.mk 0 0 [] [] [] []))) (Node.text (nth t6 t8 (Vi.Node.mk 0 0 [] [] [] []))) (Node.kids (nth t6 t8 (Vi.Node.mk 0 0 [] [] [] [])))) then
          Rg IntKind.i64 (sum + 1) ∧ Rg IntKind.i64 (t8 + 1) ∧ K0 (sum + 1, t6, t7, t8 + 1, ())
        else
          (Sp.mkL.pre (Node.kids (nth t6 t8 (Vi.Node.mk 0 0 [] [] [] []))) ∧ Sp.mCp (Node.kids (nth t6 t8 (Vi.Node.mk 0 0 [] [] [] []))) < nn) ∧
            Rg IntKind.i64 (sum + Sp.mkL (Node.kids (nth t6 t8 (Vi.Node.mk 0 0 [] [] [] [])))) ∧
              Rg IntKind.i64 (t8 + 1) ∧ K0 (sum + Sp.mkL (Node.kids (nth t6 t8 (Vi.Node.mk 0 0 [] [] [] []))), t6, t7, t8 + 1, ())
  else R sum
def merge_Marks.vc (R : Int → Prop) (nn : Nat) (l : List Vi.Node) : Prop :=
  Lp (fun v K => merge_Marks.L0 nn R v.fst v.snd.fst v.snd.snd.fst v.snd.snd.snd.fst K) (0, l, (↑l.length : Int), 0, ())

def merge_Pick.L0 (nn : Nat) (R : List Vi.Node →
  Prop) (theirs : Bool) (t10 : Int) (t11 : Int) (out : List Vi.Node) (t9 : List Vi.Node) (K0 : Bool × Int × Int × List Vi.Node × List Vi.Node × Unit → Prop) : Prop :=
  bif decide (t11 < t10) then
    Ix t11 t9.length ∧
      Sp.isMarkN.pre
          (Vi.Node.mk (Vi.Node.kind (nth t9 t11 (Vi.Node.mk 0 0 [] [] [] []))) (Node.space (nth t9 t11 (Vi.Node.mk 0 0 [] [] [] []))) (Node.name (nth t9 t11 (Vi.Node.mk 0 0 [] [] [] [])))
            (Node.attrs (nth t9 t11 (Vi.Node.mk 0 0 [] [] [] []))) (Node.text (nth t9 t11 (Vi.Node.mk 0 0 [] [] [] []))) (Node.kids (nth t9 t11 (Vi.Node.mk 0 0 [] [] [] [])))) ∧
        bif
            Sp.isMarkN
              (Vi.Node.mk (Vi.Node.kind (nth t9 t11 (Vi.Node.mk 0 0 [] [] [] []))) (Node.space (nth t9 t11 (Vi.Node.mk 0 0 [] [] [] [])))
                (Node.name (nth t9 t11 (Vi.Node.mk 0 0 [] [] [] []))) (Node.attrs (nth t9 t11 (Vi.Node.mk 0 0 [] [] [] []))) (Node.text (nth t9 t11 (Vi.Node.mk 0 0 [] [] [] [])))
                (Node.kids (nth t9 t11 (Vi.Node.mk 0 0 [] [] [] [])))) then
          bif theirs then
            Ix 1 (Node.kids (nth t9 t11 (Vi.Node.mk 0 0 [] [] [] []))).length ∧
              Sp.addN.pre out (Node.kids (nth (Node.kids (nth t9 t11 (Vi.Node.mk 0 0 [] [] [] []))) 1 (Vi.Node.mk 0 0 [] [] [] []))) ∧
                Rg IntKind.i64 (t11 + 1) ∧
                  K0 (theirs, t10, t11 + 1, Sp.addN out (Node.kids (nth (Node.kids (nth t9 t11 (Vi.Node.mk 0 0 [] [] [] []))) 1 (Vi.Node.mk 0 0 [] [] [] []))), t9, ())
          else
            Sp.isMarkN.pre
                (Vi.Node.mk (Vi.Node.kind (nth t9 t11 (Vi.Node.mk 0 0 [] [] [] []))) (Node.space (nth t9 t11 (Vi.Node.mk 0 0 [] [] [] [])))
                  (Node.name (nth t9 t11 (Vi.Node.mk 0 0 [] [] [] []))) (Node.attrs (nth t9 t11 (Vi.Node.mk 0 0 [] [] [] []))) (Node.text (nth t9 t11 (Vi.Node.mk 0 0 [] [] [] [])))
                  (Node.kids (nth t9 t11 (Vi.Node.mk 0 0 [] [] [] [])))) ∧
              bif
                  Sp.isMarkN
                    (Vi.Node.mk (Vi.Node.kind (nth t9 t11 (Vi.Node.mk 0 0 [] [] [] []))) (Node.space (nth t9 t11 (Vi.Node.mk 0 0 [] [] [] [])))
                      (Node.name (nth t9 t11 (Vi.Node.mk 0 0 [] [] [] []))) (Node.attrs (nth t9 t11 (Vi.Node.mk 0 0 [] [] [] []))) (Node.text (nth t9 t11 (Vi.Node.mk 0 0 [] [] [] [])))
                      (Node.kids (nth t9 t11 (Vi.Node.mk 0 0 [] [] [] [])))) then
                Ix 0 (Node.kids (nth t9 t11 (Vi.Node.mk 0 0 [] [] [] []))).length ∧
                  Sp.addN.pre out (Node.kids (nth (Node.kids (nth t9 t11 (Vi.Node.mk 0 0 [] [] [] []))) 0 (Vi.Node.mk 0 0 [] [] [] []))) ∧
                    Rg IntKind.i64 (t11 + 1) ∧
                      K0 (theirs, t10, t11 + 1, Sp.addN out (Node.kids (nth (Node.kids (nth t9 t11 (Vi.Node.mk 0 0 [] [] [] []))) 0 (Vi.Node.mk 0 0 [] [] [] []))), t9, ())
              else
                (Sp.pickL.pre (Node.kids (nth t9 t11 (Vi.Node.mk 0 0 [] [] [] []))) theirs ∧ Sp.mPk (Node.kids (nth t9 t11 (Vi.Node.mk 0 0 [] [] [] []))) theirs < nn) ∧
                  Sp.addN.pre out
                      [Vi.Node.mk (Vi.Node.kind (nth t9 t11 (Vi.Node.mk 0 0 [] [] [] []))) (Node.space (nth t9 t11 (Vi.Node.mk 0 0 [] [] [] [])))
                          (Node.name (nth t9 t11 (Vi.Node.mk 0 0 [] [] [] []))) (Node.attrs (nth t9 t11 (Vi.Node.mk 0 0 [] [] [] []))) (Node.text (nth t9 t11 (Vi.Node.mk 0 0 [] [] [] [])))
                          (Sp.pickL (Node.kids (nth t9 t11 (Vi.Node.mk 0 0 [] [] [] []))) theirs)] ∧
                    Rg IntKind.i64 (t11 + 1) ∧
                      K0
                        (theirs, t10, t11 + 1,
                          Sp.addN out
                            [Vi.Node.mk (Vi.Node.kind (nth t9 t11 (Vi.Node.mk 0 0 [] [] [] []))) (Node.space (nth t9 t11 (Vi.Node.mk 0 0 [] [] [] [])))
                                (Node.name (nth t9 t11 (Vi.Node.mk 0 0 [] [] [] []))) (Node.attrs (nth t9 t11 (Vi.Node.mk 0 0 [] [] [] [])))
                                (Node.text (nth t9 t11 (Vi.Node.mk 0 0 [] [] [] []))) (Sp.pickL (Node.kids (nth t9 t11 (Vi.Node.mk 0 0 [] [] [] []))) theirs)],
                          t9, ())
        else
          Sp.isMarkN.pre
              (Vi.Node.mk (Vi.Node.kind (nth t9 t11 (Vi.Node.mk 0 0 [] [] [] []))) (Node.space (nth t9 t11 (Vi.Node.mk 0 0 [] [] [] [])))
                (Node.name (nth t9 t11 (Vi.Node.mk 0 0 [] [] [] []))) (Node.attrs (nth t9 t11 (Vi.Node.mk 0 0 [] [] [] []))) (Node.text (nth t9 t11 (Vi.Node.mk 0 0 [] [] [] [])))
                (Node.kids (nth t9 t11 (Vi.Node.mk 0 0 [] [] [] [])))) ∧
            bif
                Sp.isMarkN
                  (Vi.Node.mk (Vi.Node.kind (nth t9 t11 (Vi.Node.mk 0 0 [] [] [] []))) (Node.space (nth t9 t11 (Vi.Node.mk 0 0 [] [] [] [])))
                    (Node.name (nth t9 t11 (Vi.Node.mk 0 0 [] [] [] []))) (Node.attrs (nth t9 t11 (Vi.Node.mk 0 0 [] [] [] []))) (Node.text (nth t9 t11 (Vi.Node.mk 0 0 [] [] [] [])))
                    (Node.kids (nth t9 t11 (Vi.Node.mk 0 0 [] [] [] [])))) then
              Ix 0 (Node.kids (nth t9 t11 (Vi.Node.mk 0 0 [] [] [] []))).length ∧
                Sp.addN.pre out (Node.kids (nth (Node.kids (nth t9 t11 (Vi.Node.mk 0 0 [] [] [] []))) 0 (Vi.Node.mk 0 0 [] [] [] []))) ∧
                  Rg IntKind.i64 (t11 + 1) ∧
                    K0 (theirs, t10, t11 + 1, Sp.addN out (Node.kids (nth (Node.kids (nth t9 t11 (Vi.Node.mk 0 0 [] [] [] []))) 0 (Vi.Node.mk 0 0 [] [] [] []))), t9, ())
            else
              (Sp.pickL.pre (Node.kids (nth t9 t11 (Vi.Node.mk 0 0 [] [] [] []))) theirs ∧ Sp.mPk (Node.kids (nth t9 t11 (Vi.Node.mk 0 0 [] [] [] []))) theirs < nn) ∧
                Sp.addN.pre out
                    [Vi.Node.mk (Vi.Node.kind (nth t9 t11 (Vi.Node.mk 0 0 [] [] [] []))) (Node.space (nth t9 t11 (Vi.Node.mk 0 0 [] [] [] [])))
                        (Node.name (nth t9 t11 (Vi.Node.mk 0 0 [] [] [] []))) (Node.attrs (nth t9 t11 (Vi.Node.mk 0 0 [] [] [] []))) (Node.text (nth t9 t11 (Vi.Node.mk 0 0 [] [] [] [])))
                        (Sp.pickL (Node.kids (nth t9 t11 (Vi.Node.mk 0 0 [] [] [] []))) theirs)] ∧
                  Rg IntKind.i64 (t11 + 1) ∧
                    K0
                      (theirs, t10, t11 + 1,
                        Sp.addN out
                          [Vi.Node.mk (Vi.Node.kind (nth t9 t11 (Vi.Node.mk 0 0 [] [] [] []))) (Node.space (nth t9 t11 (Vi.Node.mk 0 0 [] [] [] [])))
                              (Node.name (nth t9 t11 (Vi.Node.mk 0 0 [] [] [] []))) (Node.attrs (nth t9 t11 (Vi.Node.mk 0 0 [] [] [] [])))
                              (Node.text (nth t9 t11 (Vi.Node.mk 0 0 [] [] [] []))) (Sp.pickL (Node.kids (nth t9 t11 (Vi.Node.mk 0 0 [] [] [] []))) theirs)],
                        t9, ())
  else R out
def merge_Pick.vc (R : List Vi.Node → Prop) (nn : Nat) (l : List Vi.Node) (theirs : Bool) : Prop :=
  Sp.copyN.pre l ∧ Lp (fun v K => merge_Pick.L0 nn R v.fst v.snd.fst v.snd.snd.fst v.snd.snd.snd.fst v.snd.snd.snd.snd.fst K) (theirs, (↑(Sp.copyN l).length : Int), 0, [], Sp.copyN l, ())

def slices_Equal_api_Attr_api_Attr.L0 (R : Bool →
  Prop) (s1 : List
  (List UInt8 ×
    List UInt8)) (s2 : List (List UInt8 × List UInt8)) (t12 : Int) (t13 : Int) (K0 : List (List UInt8 × List UInt8) × List (List UInt8 × List UInt8) × Int × Int × Unit → Prop) : Prop :=
  bif decide (t13 < t12) then
    Ix t13 s1.length ∧
      Ix t13 s2.length ∧
        bif !(eqS (nth s1 t13 ([], [])).fst (nth s2 t13 ([], [])).fst && eqS (nth s1 t13 ([], [])).snd (nth s2 t13 ([], [])).snd) then R false
        else Rg IntKind.i64 (t13 + 1) ∧ K0 (s1, s2, t12, t13 + 1, ())
  else R true
def slices_Equal_api_Attr_api_Attr.vc (R : Bool → Prop) (s1 : List (Str × Str)) (s2 : List (Str × Str)) : Prop :=
  bif !decide ((↑s1.length : Int) = (↑s2.length : Int)) then R false
  else Lp (fun v K => slices_Equal_api_Attr_api_Attr.L0 R v.fst v.snd.fst v.snd.snd.fst v.snd.snd.snd.fst K) (s1, s2, (↑s1.length : Int), 0, ())

def merge_merger_kept_1.vc (R : Bool → Prop) (x : Str) (y : Str) : Prop :=
  R (decide (x = y))

def merge_one_api_Attr.vc (R : List (List UInt8 × List UInt8) → Bool → Prop) (o : List (Str × Str)) (a : List (Str × Str)) (b : List (Str × Str)) : Prop :=
  Sp.eqAt.pre o a ∧
    bif Sp.eqAt o a then R b true
    else Sp.eqAt.pre o b ∧ bif Sp.eqAt o b then bif Sp.eqAt o b then R a true else R [] false else Sp.eqAt.pre a b ∧ bif Sp.eqAt a b then R a true else R [] false

def merge_one_string.vc (R : List UInt8 → Bool → Prop) (o : Str) (a : Str) (b : Str) : Prop :=
  bif Sp.eqTx o a then R b true else bif Sp.eqTx o b then bif Sp.eqTx o b then R a true else R [] false else bif Sp.eqTx a b then R a true else R [] false

def merge_merger_mark.vc (R : List Vi.Node → Int → Prop) (a : List Vi.Node) (b : List Vi.Node) (m : Int) : Prop :=
  Rg IntKind.i64 (m + 1) ∧ Sp.markN.pre a b ∧ R [Sp.markN a b] (m + 1)

def merge_merger_kept.vc (R : List Vi.Node → Int → Prop) (nn : Nat) (o : Vi.Node) (a : Vi.Node) (b : Vi.Node) (m : Int) : Prop :=
  Sp.oneA.pre o.attrs a.attrs b.attrs ∧
    bif !(Sp.oneA o.attrs a.attrs b.attrs).snd then
      Sp.mark1.pre [Vi.Node.mk a.kind a.space a.name a.attrs a.text a.kids] [Vi.Node.mk b.kind b.space b.name b.attrs b.text b.kids] m ∧
        R [Sp.markN [Vi.Node.mk a.kind a.space a.name a.attrs a.text a.kids] [Vi.Node.mk b.kind b.space b.name b.attrs b.text b.kids]] (Sp.pls m 1)
    else
      bif !(Sp.oneS o.text a.text b.text).snd then
        Sp.mark1.pre [Vi.Node.mk a.kind a.space a.name a.attrs a.text a.kids] [Vi.Node.mk b.kind b.space b.name b.attrs b.text b.kids] m ∧
          R [Sp.markN [Vi.Node.mk a.kind a.space a.name a.attrs a.text a.kids] [Vi.Node.mk b.kind b.space b.name b.attrs b.text b.kids]] (Sp.pls m 1)
      else
        Sp.idA.pre (Sp.oneA o.attrs a.attrs b.attrs).fst ∧
          (Sp.mrg.pre o.kids a.kids b.kids m ∧ Sp.mMrg o.kids a.kids b.kids m < nn) ∧
            R [Vi.Node.mk o.kind o.space o.name (Sp.idA (Sp.oneA o.attrs a.attrs b.attrs).fst) (Sp.oneS o.text a.text b.text).fst (Sp.mrg o.kids a.kids b.kids).fst]
              (Sp.pls m (Sp.mrg o.kids a.kids b.kids).snd)

def merge_merger_lists.L0 (nn : Nat) (R : List Vi.Node →
  Int →
    Prop) (o : List
  Vi.Node) (a : List
  Vi.Node) (b : List
  Vi.Node) (t17 : List
  (Int ×
    (Int × Int) ×
      (Int × Int) ×
        Int ×
          Int)) (t18 : Int) (t19 : Int) (m : Int) (out : List
  Vi.Node) (K0 : List Vi.Node × List Vi.Node × List Vi.Node × List (Int × (Int × Int) × (Int × Int) × Int × Int) × Int × Int × Int × List Vi.Node × Unit → Prop) : Prop :=
  bif decide (t19 < t18) then
    Ix t19 t17.length ∧
      Sb (nth t17 t19 (0, (0, 0), (0, 0), 0, 0)).snd.snd.fst.fst (nth t17 t19 (0, (0, 0), (0, 0), 0, 0)).snd.snd.fst.snd a.length ∧
        Sb (nth t17 t19 (0, (0, 0), (0, 0), 0, 0)).snd.snd.snd.fst (nth t17 t19 (0, (0, 0), (0, 0), 0, 0)).snd.snd.snd.snd b.length ∧
          bif decide ((nth t17 t19 (0, (0, 0), (0, 0), 0, 0)).fst = 1) then
            Ix (nth t17 t19 (0, (0, 0), (0, 0), 0, 0)).snd.fst.fst o.length ∧
              Ix 0 (sub a (nth t17 t19 (0, (0, 0), (0, 0), 0, 0)).snd.snd.fst.fst (nth t17 t19 (0, (0, 0), (0, 0), 0, 0)).snd.snd.fst.snd).length ∧
                Ix 0 (sub b (nth t17 t19 (0, (0, 0), (0, 0), 0, 0)).snd.snd.snd.fst (nth t17 t19 (0, (0, 0), (0, 0), 0, 0)).snd.snd.snd.snd).length ∧
                  (Sp.kept.pre (nth o (nth t17 t19 (0, (0, 0), (0, 0), 0, 0)).snd.fst.fst (Vi.Node.mk 0 0 [] [] [] []))
                        (nth (sub a (nth t17 t19 (0, (0, 0), (0, 0), 0, 0)).snd.snd.fst.fst (nth t17 t19 (0, (0, 0), (0, 0), 0, 0)).snd.snd.fst.snd) 0 (Vi.Node.mk 0 0 [] [] [] []))
                        (nth (sub b (nth t17 t19 (0, (0, 0), (0, 0), 0, 0)).snd.snd.snd.fst (nth t17 t19 (0, (0, 0), (0, 0), 0, 0)).snd.snd.snd.snd) 0 (Vi.Node.mk 0 0 [] [] [] [])) m ∧
                      Sp.mKept (nth o (nth t17 t19 (0, (0, 0), (0, 0), 0, 0)).snd.fst.fst (Vi.Node.mk 0 0 [] [] [] []))
                          (nth (sub a (nth t17 t19 (0, (0, 0), (0, 0), 0, 0)).snd.snd.fst.fst (nth t17 t19 (0, (0, 0), (0, 0), 0, 0)).snd.snd.fst.snd) 0 (Vi.Node.mk 0 0 [] [] [] []))
                          (nth (sub b (nth t17 t19 (0, (0, 0), (0, 0), 0, 0)).snd.snd.snd.fst (nth t17 t19 (0, (0, 0), (0, 0), 0, 0)).snd.snd.snd.snd) 0 (Vi.Node.mk 0 0 [] [] [] [])) m <
                        nn) ∧
                    Sp.addN.pre out
                        (Sp.kept (nth o (nth t17 t19 (0, (0, 0), (0, 0), 0, 0)).snd.fst.fst (Vi.Node.mk 0 0 [] [] [] []))
                            (nth (sub a (nth t17 t19 (0, (0, 0), (0, 0), 0, 0)).snd.snd.fst.fst (nth t17 t19 (0, (0, 0), (0, 0), 0, 0)).snd.snd.fst.snd) 0 (Vi.Node.mk 0 0 [] [] [] []))
                            (nth (sub b (nth t17 t19 (0, (0, 0), (0, 0), 0, 0)).snd.snd.snd.fst (nth t17 t19 (0, (0, 0), (0, 0), 0, 0)).snd.snd.snd.snd) 0
                              (Vi.Node.mk 0 0 [] [] [] []))).fst ∧
                      Rg IntKind.i64 (t19 + 1) ∧
                        K0
                          (o, a, b, t17, t18, t19 + 1,
                            Sp.pls m
                              (Sp.kept (nth o (nth t17 t19 (0, (0, 0), (0, 0), 0, 0)).snd.fst.fst (Vi.Node.mk 0 0 [] [] [] []))
                                  (nth (sub a (nth t17 t19 (0, (0, 0), (0, 0), 0, 0)).snd.snd.fst.fst (nth t17 t19 (0, (0, 0), (0, 0), 0, 0)).snd.snd.fst.snd) 0 (Vi.Node.mk 0 0 [] [] [] []))
                                  (nth (sub b (nth t17 t19 (0, (0, 0), (0, 0), 0, 0)).snd.snd.snd.fst (nth t17 t19 (0, (0, 0), (0, 0), 0, 0)).snd.snd.snd.snd) 0
                                    (Vi.Node.mk 0 0 [] [] [] []))).snd,
                            Sp.addN out
                              (Sp.kept (nth o (nth t17 t19 (0, (0, 0), (0, 0), 0, 0)).snd.fst.fst (Vi.Node.mk 0 0 [] [] [] []))
                                  (nth (sub a (nth t17 t19 (0, (0, 0), (0, 0), 0, 0)).snd.snd.fst.fst (nth t17 t19 (0, (0, 0), (0, 0), 0, 0)).snd.snd.fst.snd) 0 (Vi.Node.mk 0 0 [] [] [] []))
                                  (nth (sub b (nth t17 t19 (0, (0, 0), (0, 0), 0, 0)).snd.snd.snd.fst (nth t17 t19 (0, (0, 0), (0, 0), 0, 0)).snd.snd.snd.snd) 0
                                    (Vi.Node.mk 0 0 [] [] [] []))).fst,
                            ())
          else
            bif decide ((nth t17 t19 (0, (0, 0), (0, 0), 0, 0)).fst = 2) then
              Sp.copyN.pre (sub b (nth t17 t19 (0, (0, 0), (0, 0), 0, 0)).snd.snd.snd.fst (nth t17 t19 (0, (0, 0), (0, 0), 0, 0)).snd.snd.snd.snd) ∧
                Sp.addN.pre out (Sp.copyN (sub b (nth t17 t19 (0, (0, 0), (0, 0), 0, 0)).snd.snd.snd.fst (nth t17 t19 (0, (0, 0), (0, 0), 0, 0)).snd.snd.snd.snd)) ∧
                  Rg IntKind.i64 (t19 + 1) ∧
                    K0
                      (o, a, b, t17, t18, t19 + 1, m,
                        Sp.addN out (Sp.copyN (sub b (nth t17 t19 (0, (0, 0), (0, 0), 0, 0)).snd.snd.snd.fst (nth t17 t19 (0, (0, 0), (0, 0), 0, 0)).snd.snd.snd.snd)), ())
            else
              bif decide ((nth t17 t19 (0, (0, 0), (0, 0), 0, 0)).fst = 4) then
                Sp.copyN.pre (sub a (nth t17 t19 (0, (0, 0), (0, 0), 0, 0)).snd.snd.fst.fst (nth t17 t19 (0, (0, 0), (0, 0), 0, 0)).snd.snd.fst.snd) ∧
                  Sp.addN.pre out (Sp.copyN (sub a (nth t17 t19 (0, (0, 0), (0, 0), 0, 0)).snd.snd.fst.fst (nth t17 t19 (0, (0, 0), (0, 0), 0, 0)).snd.snd.fst.snd)) ∧
                    Rg IntKind.i64 (t19 + 1) ∧
                      K0
                        (o, a, b, t17, t18, t19 + 1, m,
                          Sp.addN out (Sp.copyN (sub a (nth t17 t19 (0, (0, 0), (0, 0), 0, 0)).snd.snd.fst.fst (nth t17 t19 (0, (0, 0), (0, 0), 0, 0)).snd.snd.fst.snd)), ())
              else
                bif decide ((nth t17 t19 (0, (0, 0), (0, 0), 0, 0)).fst = 3) then
                  Sp.copyN.pre (sub a (nth t17 t19 (0, (0, 0), (0, 0), 0, 0)).snd.snd.fst.fst (nth t17 t19 (0, (0, 0), (0, 0), 0, 0)).snd.snd.fst.snd) ∧
                    Sp.addN.pre out (Sp.copyN (sub a (nth t17 t19 (0, (0, 0), (0, 0), 0, 0)).snd.snd.fst.fst (nth t17 t19 (0, (0, 0), (0, 0), 0, 0)).snd.snd.fst.snd)) ∧
                      Rg IntKind.i64 (t19 + 1) ∧
                        K0
                          (o, a, b, t17, t18, t19 + 1, m,
                            Sp.addN out (Sp.copyN (sub a (nth t17 t19 (0, (0, 0), (0, 0), 0, 0)).snd.snd.fst.fst (nth t17 t19 (0, (0, 0), (0, 0), 0, 0)).snd.snd.fst.snd)), ())
                else
                  Sp.mark1.pre (sub a (nth t17 t19 (0, (0, 0), (0, 0), 0, 0)).snd.snd.fst.fst (nth t17 t19 (0, (0, 0), (0, 0), 0, 0)).snd.snd.fst.snd)
                      (sub b (nth t17 t19 (0, (0, 0), (0, 0), 0, 0)).snd.snd.snd.fst (nth t17 t19 (0, (0, 0), (0, 0), 0, 0)).snd.snd.snd.snd) m ∧
                    Sp.addN.pre out
                        [Sp.markN (sub a (nth t17 t19 (0, (0, 0), (0, 0), 0, 0)).snd.snd.fst.fst (nth t17 t19 (0, (0, 0), (0, 0), 0, 0)).snd.snd.fst.snd)
                            (sub b (nth t17 t19 (0, (0, 0), (0, 0), 0, 0)).snd.snd.snd.fst (nth t17 t19 (0, (0, 0), (0, 0), 0, 0)).snd.snd.snd.snd)] ∧
                      Rg IntKind.i64 (t19 + 1) ∧
                        K0
                          (o, a, b, t17, t18, t19 + 1, Sp.pls m 1,
                            Sp.addN out
                              [Sp.markN (sub a (nth t17 t19 (0, (0, 0), (0, 0), 0, 0)).snd.snd.fst.fst (nth t17 t19 (0, (0, 0), (0, 0), 0, 0)).snd.snd.fst.snd)
                                  (sub b (nth t17 t19 (0, (0, 0), (0, 0), 0, 0)).snd.snd.snd.fst (nth t17 t19 (0, (0, 0), (0, 0), 0, 0)).snd.snd.snd.snd)],
                            ())
  else R out m
def merge_merger_lists.vc (R : List Vi.Node → Int → Prop) (nn : Nat) (o : List Vi.Node) (a : List Vi.Node) (b : List Vi.Node) (m : Int) : Prop :=
  Sp.blendN.pre o a b ∧
    Lp
      (fun v K =>
        merge_merger_lists.L0 nn R v.fst v.snd.fst v.snd.snd.fst v.snd.snd.snd.fst v.snd.snd.snd.snd.fst v.snd.snd.snd.snd.snd.fst v.snd.snd.snd.snd.snd.snd.fst
          v.snd.snd.snd.snd.snd.snd.snd.fst K)
      (o, a, b, Sp.blendN o a b, (↑(Sp.blendN o a b).length : Int), 0, m, [], ())

def merge_Three.vc (R : List Vi.Node × Int → Prop) (o : List Vi.Node) (a : List Vi.Node) (b : List Vi.Node) : Prop :=
  Sp.mrg.pre o a b 0 ∧ R ((Sp.mrg o a b).fst, Sp.pls 0 (Sp.mrg o a b).snd)

def rectolaw26_word.vc (R : List Vi.Node → Prop) (s : Str) : Prop :=
  R [Vi.Node.mk 1 0 [112] [] [] [Vi.Node.mk 2 0 [] [] s []]]

def rectolaw26_joined.L0 (nn : Nat) (R : Bool → Prop) (l : List Vi.Node) (t5 : List Vi.Node) (t6 : Int) (t7 : Int) (K0 : List Vi.Node × List Vi.Node × Int × Int × Unit → Prop) : Prop :=
  bif decide (t7 < t6) then
    Ix t7 t5.length ∧
      bif decide (0 < t7) then
        bif decide (Vi.Node.kind (nth t5 t7 (Vi.Node.mk 0 0 [] [] [] [])) = 2) then
          Rg IntKind.i64 (t7 - 1) ∧
            Ix (t7 - 1) l.length ∧
              bif decide (Vi.Node.kind (nth l (t7 - 1) (Vi.Node.mk 0 0 [] [] [] [])) = 2) then R true
              else
                (Sp.joinedT.pre (Node.kids (nth t5 t7 (Vi.Node.mk 0 0 [] [] [] []))) ∧ Sp.mJn (Node.kids (nth t5 t7 (Vi.Node.mk 0 0 [] [] [] []))) < nn) ∧
                  bif Sp.joinedT (Node.kids (nth t5 t7 (Vi.Node.mk 0 0 [] [] [] []))) then R true else Rg IntKind.i64 (t7 + 1) ∧ K0 (l, t5, t6, t7 + 1, ())
        else
          (Sp.joinedT.pre (Node.kids (nth t5 t7 (Vi.Node.mk 0 0 [] [] [] []))) ∧ Sp.mJn (Node.kids (nth t5 t7 (Vi.Node.mk 0 0 [] [] [] []))) < nn) ∧
            bif Sp.joinedT (Node.kids (nth t5 t7 (Vi.Node.mk 0 0 [] [] [] []))) then R true else Rg IntKind.i64 (t7 + 1) ∧ K0 (l, t5, t6, t7 + 1, ())
      else
        (Sp.joinedT.pre (Node.kids (nth t5 t7 (Vi.Node.mk 0 0 [] [] [] []))) ∧ Sp.mJn (Node.kids (nth t5 t7 (Vi.Node.mk 0 0 [] [] [] []))) < nn) ∧
          bif Sp.joinedT (Node.kids (nth t5 t7 (Vi.Node.mk 0 0 [] [] [] []))) then R true else Rg IntKind.i64 (t7 + 1) ∧ K0 (l, t5, t6, t7 + 1, ())
  else R false
def rectolaw26_joined.vc (R : Bool → Prop) (nn : Nat) (l : List Vi.Node) : Prop :=
  Lp (fun v K => rectolaw26_joined.L0 nn R v.fst v.snd.fst v.snd.snd.fst v.snd.snd.snd.fst K) (l, l, (↑l.length : Int), 0, ())

def rectolaw26_large.vc (R : Bool → Prop) (l : List Vi.Node) : Prop :=
  Sp.lg.pre l 1 160 ∧ R (Sp.lg l 1 160).fst

def rectolaw26_clash.vc (R : Bool → Prop) : Prop :=
  Sp.mrg3.pre (Sp.wordN [97]) (Sp.wordN [98]) (Sp.wordN [99]) ∧
    Sp.mrg3.pre (Sp.wordN [97]) (Sp.wordN [97]) (Sp.wordN [99]) ∧
      Ix 0 1 ∧
        Ix 0 1 ∧
          Ix 0 1 ∧
            Sp.isMarkN.pre
                (Vi.Node.mk (Vi.Node.kind (nth (Node.kids (nth (Sp.mrg3 (Sp.wordN [97]) (Sp.wordN [98]) (Sp.wordN [99])).fst 0 (Vi.Node.mk 0 0 [] [] [] []))) 0 (Vi.Node.mk 0 0 [] [] [] [])))
                  (Node.space (nth (Node.kids (nth (Sp.mrg3 (Sp.wordN [97]) (Sp.wordN [98]) (Sp.wordN [99])).fst 0 (Vi.Node.mk 0 0 [] [] [] []))) 0 (Vi.Node.mk 0 0 [] [] [] [])))
                  (Node.name (nth (Node.kids (nth (Sp.mrg3 (Sp.wordN [97]) (Sp.wordN [98]) (Sp.wordN [99])).fst 0 (Vi.Node.mk 0 0 [] [] [] []))) 0 (Vi.Node.mk 0 0 [] [] [] [])))
                  (Node.attrs (nth (Node.kids (nth (Sp.mrg3 (Sp.wordN [97]) (Sp.wordN [98]) (Sp.wordN [99])).fst 0 (Vi.Node.mk 0 0 [] [] [] []))) 0 (Vi.Node.mk 0 0 [] [] [] [])))
                  (Node.text (nth (Node.kids (nth (Sp.mrg3 (Sp.wordN [97]) (Sp.wordN [98]) (Sp.wordN [99])).fst 0 (Vi.Node.mk 0 0 [] [] [] []))) 0 (Vi.Node.mk 0 0 [] [] [] [])))
                  (Node.kids (nth (Node.kids (nth (Sp.mrg3 (Sp.wordN [97]) (Sp.wordN [98]) (Sp.wordN [99])).fst 0 (Vi.Node.mk 0 0 [] [] [] []))) 0 (Vi.Node.mk 0 0 [] [] [] [])))) ∧
              Sp.mkL.pre (Sp.mrg3 (Sp.wordN [97]) (Sp.wordN [98]) (Sp.wordN [99])).fst ∧
                Sp.pickL.pre (Sp.mrg3 (Sp.wordN [97]) (Sp.wordN [98]) (Sp.wordN [99])).fst true ∧
                  Sp.eqNs.pre (Sp.pickL (Sp.mrg3 (Sp.wordN [97]) (Sp.wordN [98]) (Sp.wordN [99])).fst true) (Sp.wordN [99]) ∧
                    Sp.eqNs.pre (Sp.mrg3 (Sp.wordN [97]) (Sp.wordN [97]) (Sp.wordN [99])).fst (Sp.wordN [99]) ∧ R true

def rectolaw26_MergeOne.vc (R : Bool → Prop) (o : List Vi.Node) (a : List Vi.Node) : Prop :=
  bif Sp.large160 o then R Sp.tt
  else
    bif Sp.large160 a then R Sp.tt
    else
      Sp.joinedT.pre o ∧
        bif Sp.joinedT o then R Sp.tt
        else
          Sp.joinedT.pre a ∧
            bif Sp.joinedT a then R Sp.tt
            else
              Sp.mrg3.pre o o a ∧
                Sp.mrg3.pre o a o ∧
                  Sp.mrg3.pre o a a ∧
                    bif decide ((Sp.mrg3 o o a).snd = 0) then
                      bif decide ((Sp.mrg3 o a o).snd = 0) then
                        bif decide ((Sp.mrg3 o a a).snd = 0) then
                          Sp.eqNs.pre (Sp.mrg3 o o a).fst a ∧
                            bif Sp.eqNs (Sp.mrg3 o o a).fst a then
                              Sp.eqNs.pre (Sp.mrg3 o a o).fst a ∧
                                bif Sp.eqNs (Sp.mrg3 o a o).fst a then Sp.eqNs.pre (Sp.mrg3 o a a).fst a ∧ bif Sp.eqNs (Sp.mrg3 o a a).fst a then R Sp.tt else R false else R false
                            else R false
                        else R false
                      else R false
                    else R false

def rectolaw26_MergeTurned.vc (R : Bool → Prop) (o : List Vi.Node) (a : List Vi.Node) (b : List Vi.Node) : Prop :=
  bif Sp.large160 o then R Sp.tt
  else
    bif Sp.large160 a then R Sp.tt
    else bif Sp.large160 b then R Sp.tt else Sp.mrg3.pre o a b ∧ Sp.mrg3.pre o b a ∧ bif decide ((Sp.mrg3 o a b).snd = (Sp.mrg3 o b a).snd) then R Sp.tt else R false

