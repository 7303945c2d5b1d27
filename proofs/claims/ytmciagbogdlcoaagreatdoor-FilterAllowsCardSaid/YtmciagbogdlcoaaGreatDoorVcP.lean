/- Conditions of functions. Written by a program of this session. -/
import Derived.Test.YtmciagbogdlcoaaGreatDoorSpP
set_option linter.unnecessarySimpa false
set_option linter.unusedVariables false
set_option linter.unusedSectionVars false
set_option linter.unusedSimpArgs false
set_option autoImplicit false
set_option linter.unusedVariables false
open Go Vi

def tags_Group.vc (R : Int → Prop) (name : Str) : Prop :=
  bif decide (name = [104, 116, 109, 108]) then R 1 else
  bif decide (name = [104, 101, 97, 100]) then R 1 else
  bif decide (name = [98, 111, 100, 121]) then R 1 else
  bif decide (name = [102, 114, 97, 109, 101]) then R 1 else
  bif decide (name = [102, 114, 97, 109, 101, 115, 101, 116]) then R 1 else
  bif decide (name = [99, 97, 112, 116, 105, 111, 110]) then R 2 else
  bif decide (name = [116, 98, 111, 100, 121]) then R 2 else
  bif decide (name = [116, 104, 101, 97, 100]) then R 2 else
  bif decide (name = [116, 114]) then R 2 else
  bif decide (name = [116, 100]) then R 2 else
  bif decide (name = [116, 104]) then R 2 else
  bif decide (name = [116, 97, 98, 108, 101]) then R 3 else
  bif decide (name = [98, 108, 111, 99, 107, 113, 117, 111, 116, 101]) then R 4 else
  bif decide (name = [100, 105, 118]) then R 4 else
  bif decide (name = [111, 108]) then R 4 else
  bif decide (name = [115, 101, 99, 116, 105, 111, 110]) then R 4 else
  bif decide (name = [117, 108]) then R 4 else
  bif decide (name = [112]) then R 5 else
  bif decide (name = [104, 49]) then R 6 else
  bif decide (name = [104, 50]) then R 6 else
  bif decide (name = [104, 51]) then R 6 else
  bif decide (name = [112, 114, 101]) then R 7 else
  bif decide (name = [108, 105]) then R 8 else
  bif decide (name = [97]) then R 9 else
  bif decide (name = [98]) then R 10 else
  bif decide (name = [99, 111, 100, 101]) then R 10 else
  bif decide (name = [101, 109]) then R 10 else
  bif decide (name = [105]) then R 10 else
  bif decide (name = [115, 116, 114, 111, 110, 103]) then R 10 else
  bif decide (name = [117]) then R 10 else
  bif decide (name = [98, 114]) then R 11 else
  bif decide (name = [105, 109, 103]) then R 11 else
  bif decide (name = [105, 110, 112, 117, 116]) then R 11 else
  bif decide (name = [119, 98, 114]) then R 11 else
  bif decide (name = [104, 114]) then R 12 else
  bif decide (name = [116, 105, 116, 108, 101]) then R 13 else
  bif decide (name = [116, 101, 120, 116, 97, 114, 101, 97]) then R 14 else
  bif decide (name = [115, 99, 114, 105, 112, 116]) then R 15 else
  bif decide (name = [115, 116, 121, 108, 101]) then R 15 else
  bif decide (name = [120, 109, 112]) then R 16 else
  bif decide (name = [109, 97, 116, 104]) then R 17 else
  bif decide (name = [115, 118, 103]) then R 17 else R 0

def pen_small.vc (R : Bool → Prop) (b : Int) : Prop :=
  bif decide (97 ≤ b) then R (decide (b ≤ 122)) else R false

def pen_Name_1.vc (R : Bool → Prop) (b : Int) : Prop :=
  bif Sp.smallB b then R true else bif Sp.digB b then R true else bif decide (b = 45) then R true else R (decide (b = 58))

def pen_all.L0 (R : Bool → Prop) (s : List UInt8) (t7 : Int) (t8 : Int) (K0 : List UInt8 × Int × Int × Unit → Prop) : Prop :=
  bif decide (t8 < t7) then Ix t8 s.length ∧ bif !Sp.nameB (↑(nth s t8 0).toNat : Int) then R false else Rg IntKind.i64 (t8 + 1) ∧ K0 (s, t7, t8 + 1, ()) else R true
def pen_all.vc (R : Bool → Prop) (s : Str) : Prop :=
  Lp (fun v K => pen_all.L0 R v.fst v.snd.fst v.snd.snd.fst K) (s, (↑(List.length s) : Int), 0, ())

def pen_Name.vc (R : Bool → Prop) (s : Str) : Prop :=
  bif decide (s = []) then R false
  else bif decide (24 < (↑(List.length s) : Int)) then R false else Ix 0 (List.length s) ∧ bif !Sp.smallB (↑(nth s 0 0).toNat : Int) then R false else Sp.allN.pre s ∧ R (Sp.allN s)

def policy_gone.vc (R : Bool → Prop) (name : Str) : Prop :=
  bif decide (Sp.groupN name = 15) then bif decide (Sp.groupN name = 15) then R true else R (decide (name = [105, 109, 97, 103, 101]))
  else
    bif decide (Sp.groupN name = 13) then bif decide (Sp.groupN name = 13) then R true else R (decide (name = [105, 109, 97, 103, 101]))
    else
      bif decide (Sp.groupN name = 14) then bif decide (Sp.groupN name = 14) then R true else R (decide (name = [105, 109, 97, 103, 101]))
      else
        bif decide (Sp.groupN name = 16) then bif decide (Sp.groupN name = 16) then R true else R (decide (name = [105, 109, 97, 103, 101]))
        else
          bif decide (Sp.groupN name = 1) then bif decide (Sp.groupN name = 1) then R true else R (decide (name = [105, 109, 97, 103, 101]))
          else bif decide (Sp.groupN name = 17) then R true else R (decide (name = [105, 109, 97, 103, 101]))

def policy_short_1.vc (R : Bool → Prop) (r : Str × Int × List Str × List Str) : Prop :=
  bif decide (20 < (↑(List.length r.snd.snd.fst) : Int)) then R true else R (decide (20 < (↑(List.length r.snd.snd.snd) : Int)))

def policy_formed_1.vc (R : Bool → Prop) (act : Int) : Prop :=
  bif decide (act = 2) then R true else R (decide (act = 3))

def policy_formed_2.vc (R : Bool → Prop) (s : Str) : Prop :=
  bif decide (s = []) then R true else Sp.lower.pre s ∧ R !decide (Sp.lower s = s)

def policy_right_1.vc (R : Bool → Prop) (s : Str) : Prop :=
  R !Sp.nameS s

def Index_wide.L0 (R : Int →
  Prop) (s : List
  (List UInt8 ×
    Int × List (List UInt8) × List (List UInt8))) (t7 : Int) (t8 : Int) (K0 : List (List UInt8 × Int × List (List UInt8) × List (List UInt8)) × Int × Int × Unit → Prop) : Prop :=
  bif decide (t8 < t7) then Ix t8 s.length ∧ bif Sp.wideR (nth s t8 ([], 0, [], [])) then R t8 else Rg IntKind.i64 (t8 + 1) ∧ K0 (s, t7, t8 + 1, ()) else R (-1)
def Index_wide.vc (R : Int → Prop) (l : List (Str × Int × List Str × List Str)) : Prop :=
  Lp (fun v K => Index_wide.L0 R v.fst v.snd.fst v.snd.snd.fst K) (l, (↑l.length : Int), 0, ())

def Contains_wide.vc (R : Bool → Prop) (l : List (Str × Int × List Str × List Str)) : Prop :=
  Sp.rules.pre l ∧ R (decide (0 ≤ Sp.idxWide l))

def Index_nn.L0 (R : Int → Prop) (s : List (List UInt8)) (t7 : Int) (t8 : Int) (K0 : List (List UInt8) × Int × Int × Unit → Prop) : Prop :=
  bif decide (t8 < t7) then Ix t8 s.length ∧ bif Sp.notName (nth s t8 []) then R t8 else Rg IntKind.i64 (t8 + 1) ∧ K0 (s, t7, t8 + 1, ()) else R (-1)
def Index_nn.vc (R : Int → Prop) (l : List Str) : Prop :=
  Lp (fun v K => Index_nn.L0 R v.fst v.snd.fst v.snd.snd.fst K) (l, (↑l.length : Int), 0, ())

def Contains_nn.vc (R : Bool → Prop) (l : List Str) : Prop :=
  Sp.strs.pre l ∧ R (decide (0 ≤ Sp.idxNN l))

def Index_odd.L0 (R : Int → Prop) (s : List (List UInt8)) (t7 : Int) (t8 : Int) (K0 : List (List UInt8) × Int × Int × Unit → Prop) : Prop :=
  bif decide (t8 < t7) then Ix t8 s.length ∧ Sp.oddS.pre (nth s t8 []) ∧ bif Sp.oddS (nth s t8 []) then R t8 else Rg IntKind.i64 (t8 + 1) ∧ K0 (s, t7, t8 + 1, ()) else R (-1)
def Index_odd.vc (R : Int → Prop) (l : List Str) : Prop :=
  Lp (fun v K => Index_odd.L0 R v.fst v.snd.fst v.snd.snd.fst K) (l, (↑l.length : Int), 0, ())

def Contains_odd.vc (R : Bool → Prop) (l : List Str) : Prop :=
  Sp.strs.pre l ∧ R (decide (0 ≤ Sp.idxOdd l))

def slices_Grow_string_string.vc (R : List (List UInt8) → Prop) (n : Int) : Prop :=
  bif decide (n < 0) then False
  else
    Rg IntKind.i64 (0 - 0) ∧
      Rg IntKind.i64 (n - (0 - 0)) ∧
        bif decide (0 < n - (0 - 0)) then Sb 0 0 0 ∧ Mk (n - (0 - 0)) (n - (0 - 0)) 16 ∧ Sb 0 0 (rep (n - (0 - 0)) ([] : List UInt8)).length ∧ R (List.take 0 (rep (n - (0 - 0)) ([] : List UInt8))) else R []

def slices_Concat_string_string.L1 (R : List (List UInt8) →
  Prop) (t25 : List (List (List UInt8))) (t26 : Int) (t27 : Int) (newslice : List (List UInt8)) (K1 : List (List (List UInt8)) × Int × Int × List (List UInt8) × Unit → Prop) : Prop :=
  bif decide (t27 < t26) then Ix t27 t25.length ∧ Gr newslice.length (List.length (nth t25 t27 [])) 16 ∧ Rg IntKind.i64 (t27 + 1) ∧ K1 (t25, t26, t27 + 1, newslice ++ nth t25 t27 [], ())
  else R newslice
def slices_Concat_string_string.L0 (R : List (List UInt8) →
  Prop) (slices : List
  (List
    (List UInt8))) (size : Int) (t9 : List (List (List UInt8))) (t10 : Int) (t11 : Int) (K0 : List (List (List UInt8)) × Int × List (List (List UInt8)) × Int × Int × Unit → Prop) : Prop :=
  bif decide (t11 < t10) then
    Ix t11 t9.length ∧
      Rg IntKind.i64 (size + (↑(List.length (nth t9 t11 [])) : Int)) ∧
        bif decide (size + (↑(List.length (nth t9 t11 [])) : Int) < 0) then False
        else Rg IntKind.i64 (t11 + 1) ∧ K0 (slices, size + (↑(List.length (nth t9 t11 [])) : Int), t9, t10, t11 + 1, ())
  else Sp.growP size ∧ Lp (fun v K => slices_Concat_string_string.L1 R v.fst v.snd.fst v.snd.snd.fst v.snd.snd.snd.fst K) (slices, (↑slices.length : Int), 0, [], ())
def slices_Concat_string_string.vc (R : List (List UInt8) → Prop) (slices : List (List Str)) : Prop :=
  Lp (fun v K => slices_Concat_string_string.L0 R v.fst v.snd.fst v.snd.snd.fst v.snd.snd.snd.fst v.snd.snd.snd.snd.fst K) (slices, 0, slices, (↑slices.length : Int), 0, ())

def policy_Rule_names.vc (R : List (List UInt8) → Prop) (r : Str × Int × List Str × List Str) : Prop :=
  Sp.concatS.pre [r.snd.snd.fst, r.snd.snd.snd] ∧ R (Sp.concatS [r.snd.snd.fst, r.snd.snd.snd])

def policy_twice.L0 (R : Bool → Prop) (l : List (List UInt8)) (t5 : Int) (t6 : Int) (K0 : List (List UInt8) × Int × Int × Unit → Prop) : Prop :=
  bif decide (t6 < t5) then
    Sb 0 t6 l.length ∧ Ix t6 l.length ∧ Sp.idxS.pre (sub l 0 t6) (nth l t6 []) ∧ bif Sp.hasS (sub l 0 t6) (nth l t6 []) then R true else Rg IntKind.i64 (t6 + 1) ∧ K0 (l, t5, t6 + 1, ())
  else R false
def policy_twice.vc (R : Bool → Prop) (l : List Str) : Prop :=
  Lp (fun v K => policy_twice.L0 R v.fst v.snd.fst v.snd.snd.fst K) (l, (↑l.length : Int), 0, ())

def policy_right.vc (R : Bool → Prop) (r : Str × Int × List Str × List Str) : Prop :=
  Sp.ruleOkk r ∧
    Sp.strs.pre (Sp.namesR r) ∧
      bif Sp.nameS r.fst then
        bif !Sp.anyNN (Sp.namesR r) then
          bif decide (1 ≤ r.snd.fst) then bif decide (r.snd.fst ≤ 3) then bif !decide (r.snd.fst = 1) then R true else R !Sp.goneN r.fst else R false else R false
        else R false
      else R false

def policy_formed_3.vc (R : Bool → Prop) (r : Str × Int × List Str × List Str) : Prop :=
  Sp.ruleOkk r ∧ R !Sp.rightR r

def Index_nr.L0 (R : Int →
  Prop) (s : List
  (List UInt8 ×
    Int × List (List UInt8) × List (List UInt8))) (t7 : Int) (t8 : Int) (K0 : List (List UInt8 × Int × List (List UInt8) × List (List UInt8)) × Int × Int × Unit → Prop) : Prop :=
  bif decide (t8 < t7) then
    Ix t8 s.length ∧ Sp.ruleOkk (nth s t8 ([], 0, [], [])) ∧ bif Sp.notRight (nth s t8 ([], 0, [], [])) then R t8 else Rg IntKind.i64 (t8 + 1) ∧ K0 (s, t7, t8 + 1, ())
  else R (-1)
def Index_nr.vc (R : Int → Prop) (l : List (Str × Int × List Str × List Str)) : Prop :=
  Lp (fun v K => Index_nr.L0 R v.fst v.snd.fst v.snd.snd.fst K) (l, (↑l.length : Int), 0, ())

def Contains_nr.vc (R : Bool → Prop) (l : List (Str × Int × List Str × List Str)) : Prop :=
  Sp.rulesOk l ∧ R (decide (0 ≤ Sp.idxNR l))

def policy_short.vc (R : Bool → Prop) (p : List (Str × Int × List Str × List Str) × List Str × Int × Int) : Prop :=
  bif decide ((↑(List.length p.fst) : Int) ≤ 60) then bif decide ((↑(List.length p.snd.fst) : Int) ≤ 20) then Sp.rules.pre p.fst ∧ R !Sp.anyWide p.fst else R false else R false

def policy_apart.L0 (R : Bool →
  Prop) (t7 : List
  (List UInt8 ×
    Int ×
      List (List UInt8) ×
        List
          (List
            UInt8))) (t8 : Int) (t9 : Int) (all : List
  (List UInt8)) (K0 : List (List UInt8 × Int × List (List UInt8) × List (List UInt8)) × Int × Int × List (List UInt8) × Unit → Prop) : Prop :=
  bif decide (t9 < t8) then
    Ix t9 t7.length ∧
      Gr all.length 1 16 ∧
        Sp.ruleOkk (nth t7 t9 ([], 0, [], [])) ∧
          Sp.twiceL.pre (Sp.namesR (nth t7 t9 ([], 0, [], []))) ∧
            bif Sp.twiceL (Sp.namesR (nth t7 t9 ([], 0, [], []))) then R false else Rg IntKind.i64 (t9 + 1) ∧ K0 (t7, t8, t9 + 1, all ++ [(nth t7 t9 ([], 0, [], [])).fst], ())
  else Sp.twiceL.pre all ∧ R !Sp.twiceL all
def policy_apart.vc (R : Bool → Prop) (p : List (Str × Int × List Str × List Str) × List Str × Int × Int) : Prop :=
  Lp (fun v K => policy_apart.L0 R v.fst v.snd.fst v.snd.snd.fst v.snd.snd.snd.fst K) (p.fst, (↑(List.length p.fst) : Int), 0, [], ())

def policy_formed.vc (R : Bool → Prop) (p : List (Str × Int × List Str × List Str) × List Str × Int × Int) : Prop :=
  Sp.strs.pre p.snd.fst ∧
    bif Sp.awayB p.snd.snd.fst then bif Sp.awayB p.snd.snd.snd then bif !Sp.anyOdd p.snd.fst then Sp.rulesOk p.fst ∧ R !Sp.anyNR p.fst else R false else R false else R false

def policy_Check.L0 (R : Int →
  Prop) (t9 : Int) (t10 : Int) (e0 : Int) (e1 : Int) (e2 : Int) (p_Rules : List
  (List UInt8 ×
    Int ×
      List (List UInt8) ×
        List
          (List
            UInt8))) (p_Schemes : List
  (List
    UInt8)) (p_Others : Int) (p_Strange : Int) (K0 : Int × Int × Int × Int × Int × List (List UInt8 × Int × List (List UInt8) × List (List UInt8)) × List (List UInt8) × Int × Int × Unit →
  Prop) : Prop :=
  bif decide (t10 < t9) then
    Ix t10 3 ∧
      bif decide (t10 = (↑0 : Int)) then
        Sp.polOkk (p_Rules, p_Schemes, p_Others, p_Strange) ∧
          bif !Sp.shortP (p_Rules, p_Schemes, p_Others, p_Strange) then R e0 else Rg IntKind.i64 (t10 + 1) ∧ K0 (t9, t10 + 1, e0, e1, e2, p_Rules, p_Schemes, p_Others, p_Strange, ())
      else
        bif decide (t10 = (↑1 : Int)) then
          Sp.polOkk (p_Rules, p_Schemes, p_Others, p_Strange) ∧
            bif !Sp.apartP (p_Rules, p_Schemes, p_Others, p_Strange) then R e1 else Rg IntKind.i64 (t10 + 1) ∧ K0 (t9, t10 + 1, e0, e1, e2, p_Rules, p_Schemes, p_Others, p_Strange, ())
        else
          Sp.polOkk (p_Rules, p_Schemes, p_Others, p_Strange) ∧
            bif !Sp.formedP (p_Rules, p_Schemes, p_Others, p_Strange) then R e2 else Rg IntKind.i64 (t10 + 1) ∧ K0 (t9, t10 + 1, e0, e1, e2, p_Rules, p_Schemes, p_Others, p_Strange, ())
  else R 0
def policy_Check.vc (R : Int → Prop) (p : List (Str × Int × List Str × List Str) × List Str × Int × Int) : Prop :=
  Lp
    (fun v K =>
      policy_Check.L0 R v.fst v.snd.fst v.snd.snd.fst v.snd.snd.snd.fst v.snd.snd.snd.snd.fst v.snd.snd.snd.snd.snd.fst v.snd.snd.snd.snd.snd.snd.fst v.snd.snd.snd.snd.snd.snd.snd.fst
        v.snd.snd.snd.snd.snd.snd.snd.snd.fst K)
    ((↑3 : Int), 0, 2, 8, 4, p.fst, p.snd.fst, p.snd.snd.fst, p.snd.snd.snd, ())

def policy_Plain.L0 (R : List (List UInt8 × Int × List (List UInt8) × List (List UInt8)) × List (List UInt8) × Int × Int →
  Prop) (t5 : Int) (t6 : Int) (t0_Rules : List
  (List UInt8 ×
    Int ×
      List (List UInt8) ×
        List
          (List
            UInt8))) (t0_Schemes : List
  (List
    UInt8)) (t0_Others : Int) (t0_Strange : Int) (l : List
  (List UInt8 ×
    Int ×
      List (List UInt8) ×
        List
          (List
            UInt8))) (t4 : List
  (List
    UInt8)) (K0 : Int ×
    Int ×
      List (List UInt8 × Int × List (List UInt8) × List (List UInt8)) ×
        List (List UInt8) × Int × Int × List (List UInt8 × Int × List (List UInt8) × List (List UInt8)) × List (List UInt8) × Unit →
  Prop) : Prop :=
  bif decide (t6 < t5) then
    Ix t6 t4.length ∧ Gr l.length 1 72 ∧ Rg IntKind.i64 (t6 + 1) ∧ K0 (t5, t6 + 1, t0_Rules, t0_Schemes, t0_Others, t0_Strange, l ++ [(nth t4 t6 [], 1, [], [])], t4, ())
  else
    Gr l.length 5 72 ∧
      R
        (l ++
            [([115, 101, 99, 116, 105, 111, 110], 1, [[99, 108, 97, 115, 115]], []), ([97], 1, [[116, 105, 116, 108, 101]], [[104, 114, 101, 102]]),
              ([105, 109, 103], 1, [[97, 108, 116]], [[115, 114, 99]]), ([115, 99, 114, 105, 112, 116], 3, [], []), ([115, 116, 121, 108, 101], 3, [], [])],
          [[104, 116, 116, 112], [104, 116, 116, 112, 115], [109, 97, 105, 108, 116, 111]], 2, 3)
def policy_Plain.vc (R : List (List UInt8 × Int × List (List UInt8) × List (List UInt8)) × List (List UInt8) × Int × Int → Prop) : Prop :=
  Lp
    (fun v K =>
      policy_Plain.L0 R v.fst v.snd.fst v.snd.snd.fst v.snd.snd.snd.fst v.snd.snd.snd.snd.fst v.snd.snd.snd.snd.snd.fst v.snd.snd.snd.snd.snd.snd.fst v.snd.snd.snd.snd.snd.snd.snd.fst K)
    ((↑26 : Int), 0, [], [], 0, 0, [],
      [[112], [100, 105, 118], [104, 49], [104, 50], [104, 51], [117, 108], [111, 108], [108, 105], [98, 108, 111, 99, 107, 113, 117, 111, 116, 101], [112, 114, 101], [98], [105],
        [101, 109], [115, 116, 114, 111, 110, 103], [117], [99, 111, 100, 101], [98, 114], [104, 114], [115, 112, 97, 110], [116, 97, 98, 108, 101], [99, 97, 112, 116, 105, 111, 110],
        [116, 98, 111, 100, 121], [116, 104, 101, 97, 100], [116, 114], [116, 100], [116, 104]],
      ())

def policy_Policy_rule_1.vc (R : Bool → List UInt8 → Prop) (r : Str × Int × List Str × List Str) (name : Str) : Prop :=
  R (decide (r.fst = name)) name

def Index_rule.L0 (R : Int →
  List UInt8 →
    Prop) (s : List
  (List UInt8 ×
    Int ×
      List (List UInt8) ×
        List (List UInt8))) (t7 : Int) (t8 : Int) (name : List UInt8) (K0 : List (List UInt8 × Int × List (List UInt8) × List (List UInt8)) × Int × Int × List UInt8 × Unit → Prop) : Prop :=
  bif decide (t8 < t7) then Ix t8 s.length ∧ bif Sp.hasN (nth s t8 ([], 0, [], [])) name then R t8 name else Rg IntKind.i64 (t8 + 1) ∧ K0 (s, t7, t8 + 1, name, ()) else R (-1) name
def Index_rule.vc (R : Int → List UInt8 → Prop) (l : List (Str × Int × List Str × List Str)) (name : Str) : Prop :=
  Lp (fun v K => Index_rule.L0 R v.fst v.snd.fst v.snd.snd.fst v.snd.snd.snd.fst K) (l, (↑l.length : Int), 0, name, ())

def policy_Policy_rule.vc (R : List UInt8 × Int × List (List UInt8) × List (List UInt8) → Prop) (p : List (Str × Int × List Str × List Str) × List Str × Int × Int) (name : Str) : Prop :=
  Sp.rules.pre p.fst ∧
    bif decide (0 ≤ Sp.idxR p.fst name) then Ix (Sp.idxR p.fst name) (List.length p.fst) ∧ R (nth p.fst (Sp.idxR p.fst name) ([], 0, [], [])) else R ([], p.snd.snd.fst, [], [])

def policy_Policy_act.vc (R : Int → Prop) (p : List (Str × Int × List Str × List Str) × List Str × Int × Int) (space : Int) (name : Str) : Prop :=
  bif !decide (space = 0) then R p.snd.snd.snd else Sp.ruleP.pre p name ∧ R (Sp.ruleP p name).snd.fst

def policy_Policy_stays.vc (R : Bool → Prop) (p : List (Str × Int × List Str × List Str) × List Str × Int × Int) (name : Str) (a : Str × Str) : Prop :=
  Sp.ruleP.pre p name ∧
    bif decide ((Sp.ruleP p name).snd.fst = 1) then
      Sp.idxS.pre (Sp.ruleP p name).snd.snd.fst a.fst ∧
        bif Sp.hasS (Sp.ruleP p name).snd.snd.fst a.fst then R true
        else Sp.idxS.pre (Sp.ruleP p name).snd.snd.snd a.fst ∧ bif Sp.hasS (Sp.ruleP p name).snd.snd.snd a.fst then Sp.safeP.pre a.snd p.snd.fst ∧ R (Sp.safeP a.snd p.snd.fst) else R false
    else R false

def policy_Act.vc (R : Int → Prop) (p : List (Str × Int × List Str × List Str) × List Str × Int × Int) (space : Int) (name : Str) : Prop :=
  Sp.polOkk p ∧ bif !decide (Sp.checkP p = 0) then R 3 else Sp.actP.pre p space name ∧ R (Sp.actP p space name)

def policy_Stays.vc (R : Bool → Prop) (p : List (Str × Int × List Str × List Str) × List Str × Int × Int) (name : Str) (a : Str × Str) : Prop :=
  Sp.polOkk p ∧ bif decide (Sp.checkP p = 0) then Sp.staysP.pre p name a ∧ R (Sp.staysP p name a) else R false

def policy_Policy_allows_1.vc (R : Bool →
  List (List UInt8 × Int × List (List UInt8) × List (List UInt8)) →
    List (List UInt8) →
      Int →
        Int →
          Int →
            Int →
              List UInt8 →
                List (List UInt8 × List UInt8) →
                  List UInt8 →
                    List Vi.Node →
                      Prop) (a : Str ×
  Str) (rules : List
  (Str ×
    Int ×
      List Str ×
        List Str)) (schemes : List Str) (others : Int) (strange : Int) (kind : Int) (space : Int) (nname : Str) (attrs : List (Str × Str)) (text : Str) (kids : List Vi.Node) : Prop :=
  Sp.staysP.pre (rules, schemes, others, strange) nname a ∧ R (!Sp.staysP (rules, schemes, others, strange) nname a) rules schemes others strange kind space nname attrs text kids

def Index_attr.L0 (R : Int →
  List (List UInt8 × Int × List (List UInt8) × List (List UInt8)) →
    List (List UInt8) →
      Int →
        Int →
          Int →
            Int →
              List UInt8 →
                List (List UInt8 × List UInt8) →
                  List UInt8 →
                    List Vi.Node →
                      Prop) (s : List
  (List UInt8 ×
    List
      UInt8)) (t7 : Int) (t8 : Int) (rules : List
  (List UInt8 ×
    Int ×
      List (List UInt8) ×
        List
          (List
            UInt8))) (schemes : List
  (List
    UInt8)) (others : Int) (strange : Int) (kind : Int) (space : Int) (nname : List
  UInt8) (attrs : List
  (List UInt8 ×
    List
      UInt8)) (text : List
  UInt8) (kids : List
  Vi.Node) (K0 : List (List UInt8 × List UInt8) ×
    Int ×
      Int ×
        List (List UInt8 × Int × List (List UInt8) × List (List UInt8)) ×
          List (List UInt8) × Int × Int × Int × Int × List UInt8 × List (List UInt8 × List UInt8) × List UInt8 × List Vi.Node × Unit →
  Prop) : Prop :=
  bif decide (t8 < t7) then
    Ix t8 s.length ∧
      Sp.staysP.pre (rules, schemes, others, strange) (Vi.Node.mk kind space nname attrs text kids).name (nth s t8 ([], [])) ∧
        bif Sp.notStays (nth s t8 ([], [])) (rules, schemes, others, strange) (Vi.Node.mk kind space nname attrs text kids) then
          R t8 rules schemes others strange kind space nname attrs text kids
        else Rg IntKind.i64 (t8 + 1) ∧ K0 (s, t7, t8 + 1, rules, schemes, others, strange, kind, space, nname, attrs, text, kids, ())
  else R (-1) rules schemes others strange kind space nname attrs text kids
def Index_attr.vc (R : Int →
  List (List UInt8 × Int × List (List UInt8) × List (List UInt8)) →
    List (List UInt8) →
      Int →
        Int →
          Int →
            Int →
              List UInt8 →
                List (List UInt8 × List UInt8) →
                  List UInt8 →
                    List Vi.Node →
                      Prop) (l : List
  (Str ×
    Str)) (rules : List
  (Str ×
    Int ×
      List Str ×
        List Str)) (schemes : List Str) (others : Int) (strange : Int) (kind : Int) (space : Int) (nname : Str) (attrs : List (Str × Str)) (text : Str) (kids : List Vi.Node) : Prop :=
  Lp
    (fun v K =>
      Index_attr.L0 R v.fst v.snd.fst v.snd.snd.fst v.snd.snd.snd.fst v.snd.snd.snd.snd.fst v.snd.snd.snd.snd.snd.fst v.snd.snd.snd.snd.snd.snd.fst v.snd.snd.snd.snd.snd.snd.snd.fst
        v.snd.snd.snd.snd.snd.snd.snd.snd.fst v.snd.snd.snd.snd.snd.snd.snd.snd.snd.fst v.snd.snd.snd.snd.snd.snd.snd.snd.snd.snd.fst v.snd.snd.snd.snd.snd.snd.snd.snd.snd.snd.snd.fst
        v.snd.snd.snd.snd.snd.snd.snd.snd.snd.snd.snd.snd.fst K)
    (l, (↑l.length : Int), 0, rules, schemes, others, strange, kind, space, nname, attrs, text, kids, ())

def Contains_attr.vc (R : Bool →
  List (List UInt8 × Int × List (List UInt8) × List (List UInt8)) →
    List (List UInt8) →
      Int →
        Int →
          Int →
            Int →
              List UInt8 →
                List (List UInt8 × List UInt8) →
                  List UInt8 →
                    List Vi.Node →
                      Prop) (l : List
  (Str ×
    Str)) (rules : List
  (Str ×
    Int ×
      List Str ×
        List Str)) (schemes : List Str) (others : Int) (strange : Int) (kind : Int) (space : Int) (nname : Str) (attrs : List (Str × Str)) (text : Str) (kids : List Vi.Node) : Prop :=
  (Sp.polOk (rules, schemes, others, strange) ∧ Sp.attrsOk l) ∧
    R (decide (0 ≤ Sp.idxAt l (rules, schemes, others, strange) (Vi.Node.mk kind space nname attrs text kids))) rules schemes others strange kind space nname attrs text kids

def policy_Policy_allows.vc (R : Bool → Prop) (p : List (Str × Int × List Str × List Str) × List Str × Int × Int) (n : Vi.Node) : Prop :=
  bif decide (n.kind = 2) then R true
  else
    bif decide (n.kind = 1) then
      (Sp.polOk p ∧ Sp.attrsOk n.attrs) ∧
        Sp.actP.pre p n.space n.name ∧ bif decide (Sp.actP p n.space n.name = 1) then R !Sp.anyAt n.attrs p (Vi.Node.mk n.kind n.space n.name n.attrs n.text n.kids) else R false
    else R false

def policy_Policy_first.L0 (nn : Nat) (R : Vi.Node →
  Bool →
    Prop) (t10 : List
  Vi.Node) (t11 : Int) (t12 : Int) (p_Rules : List
  (List UInt8 ×
    Int ×
      List (List UInt8) ×
        List
          (List
            UInt8))) (p_Schemes : List
  (List
    UInt8)) (p_Others : Int) (p_Strange : Int) (t4_Kind : Int) (t4_Space : Int) (t4_Name : List
  UInt8) (t4_Attrs : List
  (List UInt8 ×
    List
      UInt8)) (t4_Text : List
  UInt8) (t4_Kids : List
  Vi.Node) (K0 : List Vi.Node ×
    Int ×
      Int ×
        List (List UInt8 × Int × List (List UInt8) × List (List UInt8)) ×
          List (List UInt8) × Int × Int × Int × Int × List UInt8 × List (List UInt8 × List UInt8) × List UInt8 × List Vi.Node × Unit →
  Prop) : Prop :=
  bif decide (t12 < t11) then
    Ix t12 t10.length ∧
      Sp.allowsN.pre (p_Rules, p_Schemes, p_Others, p_Strange)
          (Vi.Node.mk (Vi.Node.kind (nth t10 t12 (Vi.Node.mk 0 0 [] [] [] []))) (Node.space (nth t10 t12 (Vi.Node.mk 0 0 [] [] [] []))) (Node.name (nth t10 t12 (Vi.Node.mk 0 0 [] [] [] [])))
            (Node.attrs (nth t10 t12 (Vi.Node.mk 0 0 [] [] [] []))) (Node.text (nth t10 t12 (Vi.Node.mk 0 0 [] [] [] []))) (Node.kids (nth t10 t12 (Vi.Node.mk 0 0 [] [] [] [])))) ∧
        bif
            !Sp.allowsN (p_Rules, p_Schemes, p_Others, p_Strange)
                (Vi.Node.mk (Vi.Node.kind (nth t10 t12 (Vi.Node.mk 0 0 [] [] [] []))) (Node.space (nth t10 t12 (Vi.Node.mk 0 0 [] [] [] [])))
                  (Node.name (nth t10 t12 (Vi.Node.mk 0 0 [] [] [] []))) (Node.attrs (nth t10 t12 (Vi.Node.mk 0 0 [] [] [] []))) (Node.text (nth t10 t12 (Vi.Node.mk 0 0 [] [] [] [])))
                  (Node.kids (nth t10 t12 (Vi.Node.mk 0 0 [] [] [] [])))) then
          R
            (Vi.Node.mk (Vi.Node.kind (nth t10 t12 (Vi.Node.mk 0 0 [] [] [] []))) (Node.space (nth t10 t12 (Vi.Node.mk 0 0 [] [] [] [])))
              (Node.name (nth t10 t12 (Vi.Node.mk 0 0 [] [] [] []))) (Node.attrs (nth t10 t12 (Vi.Node.mk 0 0 [] [] [] []))) (Node.text (nth t10 t12 (Vi.Node.mk 0 0 [] [] [] [])))
              (Node.kids (nth t10 t12 (Vi.Node.mk 0 0 [] [] [] []))))
            true
        else
          (Sp.fiL.pre (p_Rules, p_Schemes, p_Others, p_Strange) (Node.kids (nth t10 t12 (Vi.Node.mk 0 0 [] [] [] []))) ∧
              Sp.mFi (p_Rules, p_Schemes, p_Others, p_Strange) (Node.kids (nth t10 t12 (Vi.Node.mk 0 0 [] [] [] []))) < nn) ∧
            bif (Sp.fiL (p_Rules, p_Schemes, p_Others, p_Strange) (Node.kids (nth t10 t12 (Vi.Node.mk 0 0 [] [] [] [])))).snd then
              R
                (Vi.Node.mk (Sp.fiL (p_Rules, p_Schemes, p_Others, p_Strange) (Node.kids (nth t10 t12 (Vi.Node.mk 0 0 [] [] [] [])))).fst.kind
                  (Sp.fiL (p_Rules, p_Schemes, p_Others, p_Strange) (Node.kids (nth t10 t12 (Vi.Node.mk 0 0 [] [] [] [])))).fst.space
                  (Sp.fiL (p_Rules, p_Schemes, p_Others, p_Strange) (Node.kids (nth t10 t12 (Vi.Node.mk 0 0 [] [] [] [])))).fst.name
                  (Sp.fiL (p_Rules, p_Schemes, p_Others, p_Strange) (Node.kids (nth t10 t12 (Vi.Node.mk 0 0 [] [] [] [])))).fst.attrs
                  (Sp.fiL (p_Rules, p_Schemes, p_Others, p_Strange) (Node.kids (nth t10 t12 (Vi.Node.mk 0 0 [] [] [] [])))).fst.text
                  (Sp.fiL (p_Rules, p_Schemes, p_Others, p_Strange) (Node.kids (nth t10 t12 (Vi.Node.mk 0 0 [] [] [] [])))).fst.kids)
                true
            else Rg IntKind.i64 (t12 + 1) ∧ K0 (t10, t11, t12 + 1, p_Rules, p_Schemes, p_Others, p_Strange, t4_Kind, t4_Space, t4_Name, t4_Attrs, t4_Text, t4_Kids, ())
  else R (Vi.Node.mk 0 0 [] [] [] []) false
def policy_Policy_first.vc (R : Vi.Node → Bool → Prop) (nn : Nat) (p : List (Str × Int × List Str × List Str) × List Str × Int × Int) (l : List Vi.Node) : Prop :=
  Lp
    (fun v K =>
      policy_Policy_first.L0 nn R v.fst v.snd.fst v.snd.snd.fst v.snd.snd.snd.fst v.snd.snd.snd.snd.fst v.snd.snd.snd.snd.snd.fst v.snd.snd.snd.snd.snd.snd.fst
        v.snd.snd.snd.snd.snd.snd.snd.fst v.snd.snd.snd.snd.snd.snd.snd.snd.fst v.snd.snd.snd.snd.snd.snd.snd.snd.snd.fst v.snd.snd.snd.snd.snd.snd.snd.snd.snd.snd.fst
        v.snd.snd.snd.snd.snd.snd.snd.snd.snd.snd.snd.fst v.snd.snd.snd.snd.snd.snd.snd.snd.snd.snd.snd.snd.fst K)
    (l, (↑l.length : Int), 0, p.fst, p.snd.fst, p.snd.snd.fst, p.snd.snd.snd, 0, 0, [], [], [], [], ())

def policy_Allows.vc (R : Bool → Prop) (p : List (Str × Int × List Str × List Str) × List Str × Int × Int) (l : List Vi.Node) : Prop :=
  Sp.polOkk p ∧ bif !decide (Sp.checkP p = 0) then R false else Sp.fiL.pre p l ∧ R !(Sp.fiL p l).snd

def rectoref06_Name.L0 (R : Bool → Prop) (s : List UInt8) (i : Int) (K0 : List UInt8 × Int × Unit → Prop) : Prop :=
  bif decide (i < (↑s.length : Int)) then
    Ix i s.length ∧
      bif decide (97 ≤ (↑(nth s i 0).toNat : Int)) then
        Ix i s.length ∧
          Ix i s.length ∧
            bif decide (48 ≤ (↑(nth s i 0).toNat : Int)) then
              Ix i s.length ∧
                bif decide ((↑(nth s i 0).toNat : Int) ≤ 58) then
                  bif !decide ((↑(nth s i 0).toNat : Int) ≤ 122) then bif decide (i = 0) then R false else Rg IntKind.i64 (i + 1) ∧ K0 (s, i + 1, ())
                  else Rg IntKind.i64 (i + 1) ∧ K0 (s, i + 1, ())
                else
                  Ix i s.length ∧
                    bif !decide ((↑(nth s i 0).toNat : Int) ≤ 122) then
                      bif decide (i = 0) then R false else bif !decide ((↑(nth s i 0).toNat : Int) = 45) then R false else Rg IntKind.i64 (i + 1) ∧ K0 (s, i + 1, ())
                    else Rg IntKind.i64 (i + 1) ∧ K0 (s, i + 1, ())
            else
              Ix i s.length ∧
                bif !decide ((↑(nth s i 0).toNat : Int) ≤ 122) then
                  bif decide (i = 0) then R false else bif !decide ((↑(nth s i 0).toNat : Int) = 45) then R false else Rg IntKind.i64 (i + 1) ∧ K0 (s, i + 1, ())
                else Rg IntKind.i64 (i + 1) ∧ K0 (s, i + 1, ())
      else
        Ix i s.length ∧
          bif decide (48 ≤ (↑(nth s i 0).toNat : Int)) then
            Ix i s.length ∧
              bif decide ((↑(nth s i 0).toNat : Int) ≤ 58) then bif decide (i = 0) then R false else Rg IntKind.i64 (i + 1) ∧ K0 (s, i + 1, ())
              else Ix i s.length ∧ bif decide (i = 0) then R false else bif !decide ((↑(nth s i 0).toNat : Int) = 45) then R false else Rg IntKind.i64 (i + 1) ∧ K0 (s, i + 1, ())
          else Ix i s.length ∧ bif decide (i = 0) then R false else bif !decide ((↑(nth s i 0).toNat : Int) = 45) then R false else Rg IntKind.i64 (i + 1) ∧ K0 (s, i + 1, ())
  else bif decide (0 < (↑s.length : Int)) then R (decide ((↑s.length : Int) < 25)) else R false
def rectoref06_Name.vc (R : Bool → Prop) (s : Str) : Prop :=
  Lp (fun v K => rectoref06_Name.L0 R v.fst v.snd.fst K) (s, 0, ())

def rectoplain_Large.L1 (nn : Nat) (R : Bool →
  Int →
    Prop) (K0 : Int × List Vi.Node × Int × Int × Int × Unit →
  Prop) (depth : Int) (t18 : List
  Vi.Node) (t19 : Int) (t20 : Int) (t72 : List
  (List UInt8 ×
    List
      UInt8)) (t73 : Int) (t74 : Int) (room : Int) (n_Kind : Int) (n_Space : Int) (n_Name : List
  UInt8) (n_Attrs : List
  (List UInt8 ×
    List
      UInt8)) (n_Text : List
  UInt8) (n_Kids : List
  Vi.Node) (K1 : Int ×
    List Vi.Node × Int × Int × List (List UInt8 × List UInt8) × Int × Int × Int × Int × Int × List UInt8 × List (List UInt8 × List UInt8) × List UInt8 × List Vi.Node × Unit →
  Prop) : Prop :=
  bif decide (t74 < t73) then
    Ix t74 t72.length ∧
      bif decide (100 < (↑(List.length (nth t72 t74 ([], [])).fst) : Int)) then R true room
      else
        bif decide (2000 < (↑(List.length (nth t72 t74 ([], [])).snd) : Int)) then R true room
        else Rg IntKind.i64 (t74 + 1) ∧ K1 (depth, t18, t19, t20, t72, t73, t74 + 1, room, n_Kind, n_Space, n_Name, n_Attrs, n_Text, n_Kids, ())
  else
    Rg IntKind.i64 (depth + 1) ∧
      (Sp.lg.pre n_Kids (depth + 1) room ∧ Sp.mLg n_Kids (depth + 1) room < nn) ∧
        bif (Sp.lg n_Kids (depth + 1) room).fst then R true (Sp.lg n_Kids (depth + 1) room).snd
        else Rg IntKind.i64 (t20 + 1) ∧ K0 (depth, t18, t19, t20 + 1, (Sp.lg n_Kids (depth + 1) room).snd, ())
def rectoplain_Large.L0 (nn : Nat) (R : Bool →
  Int → Prop) (depth : Int) (t18 : List Vi.Node) (t19 : Int) (t20 : Int) (room : Int) (K0 : Int × List Vi.Node × Int × Int × Int × Unit → Prop) : Prop :=
  bif decide (t20 < t19) then
    Ix t20 t18.length ∧
      Rg IntKind.i64 (room - 1) ∧
        bif decide (room - 1 < 0) then R true (room - 1)
        else
          bif decide (40 < (↑(Node.attrs (nth t18 t20 (Vi.Node.mk 0 0 [] [] [] []))).length : Int)) then R true (room - 1)
          else
            bif decide (5000 < (↑(List.length (Node.text (nth t18 t20 (Vi.Node.mk 0 0 [] [] [] [])))) : Int)) then R true (room - 1)
            else
              bif decide (100 < (↑(List.length (Node.name (nth t18 t20 (Vi.Node.mk 0 0 [] [] [] [])))) : Int)) then R true (room - 1)
              else
                Dv (↑(List.length (Node.text (nth t18 t20 (Vi.Node.mk 0 0 [] [] [] [])))) : Int) 16 ∧
                  Rg IntKind.i64 (room - 1 - (↑(List.length (Node.text (nth t18 t20 (Vi.Node.mk 0 0 [] [] [] [])))) : Int) / 16) ∧
                    Rg IntKind.i64
                        (room - 1 - (↑(List.length (Node.text (nth t18 t20 (Vi.Node.mk 0 0 [] [] [] [])))) : Int) / 16 -
                          (↑(Node.attrs (nth t18 t20 (Vi.Node.mk 0 0 [] [] [] []))).length : Int)) ∧
                      Lp
                        (fun v K =>
                          rectoplain_Large.L1 nn R K0 v.fst v.snd.fst v.snd.snd.fst v.snd.snd.snd.fst v.snd.snd.snd.snd.fst v.snd.snd.snd.snd.snd.fst v.snd.snd.snd.snd.snd.snd.fst
                            v.snd.snd.snd.snd.snd.snd.snd.fst v.snd.snd.snd.snd.snd.snd.snd.snd.fst v.snd.snd.snd.snd.snd.snd.snd.snd.snd.fst v.snd.snd.snd.snd.snd.snd.snd.snd.snd.snd.fst
                            v.snd.snd.snd.snd.snd.snd.snd.snd.snd.snd.snd.fst v.snd.snd.snd.snd.snd.snd.snd.snd.snd.snd.snd.snd.fst v.snd.snd.snd.snd.snd.snd.snd.snd.snd.snd.snd.snd.snd.fst
                            K)
                        (depth, t18, t19, t20, Node.attrs (nth t18 t20 (Vi.Node.mk 0 0 [] [] [] [])), (↑(Node.attrs (nth t18 t20 (Vi.Node.mk 0 0 [] [] [] []))).length : Int), 0,
                          room - 1 - (↑(List.length (Node.text (nth t18 t20 (Vi.Node.mk 0 0 [] [] [] [])))) : Int) / 16 -
                            (↑(Node.attrs (nth t18 t20 (Vi.Node.mk 0 0 [] [] [] []))).length : Int),
                          Vi.Node.kind (nth t18 t20 (Vi.Node.mk 0 0 [] [] [] [])), Node.space (nth t18 t20 (Vi.Node.mk 0 0 [] [] [] [])),
                          Node.name (nth t18 t20 (Vi.Node.mk 0 0 [] [] [] [])), Node.attrs (nth t18 t20 (Vi.Node.mk 0 0 [] [] [] [])), Node.text (nth t18 t20 (Vi.Node.mk 0 0 [] [] [] [])),
                          Node.kids (nth t18 t20 (Vi.Node.mk 0 0 [] [] [] [])), ())
  else R (decide (room < 0)) room
def rectoplain_Large.vc (R : Bool → Int → Prop) (nn : Nat) (l : List Vi.Node) (depth : Int) (room : Int) : Prop :=
  bif decide (60 < depth) then R true room
  else
    bif decide (500 < (↑l.length : Int)) then R true room
    else Lp (fun v K => rectoplain_Large.L0 nn R v.fst v.snd.fst v.snd.snd.fst v.snd.snd.snd.fst v.snd.snd.snd.snd.fst K) (depth, l, (↑l.length : Int), 0, room, ())
