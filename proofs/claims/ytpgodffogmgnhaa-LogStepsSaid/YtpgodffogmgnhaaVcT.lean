/- Conditions of functions. Written by a program of this session. -/
import Derived.Test.YtpgodffogmgnhaaSpT
set_option linter.unnecessarySimpa false
set_option linter.unusedVariables false
set_option linter.unusedSectionVars false
set_option linter.unusedSimpArgs false
set_option autoImplicit false
set_option linter.unusedVariables false
open Go Vi

def rectoref29_Plain.L0 (R : List UInt8 → Prop) (out : List UInt8) (t6 : List (List UInt8)) (t7 : Int) (t8 : Int) (K0 : List UInt8 × List (List UInt8) × Int × Int × Unit → Prop) : Prop :=
  bif decide (t8 < t7) then
    Ix t8 t6.length ∧
      Sp.plain.pre (↑(List.length (nth t6 t8 [])) : Int) ∧
        (↑out.length : Int) + (↑(List.length (Sp.plain (↑(List.length (nth t6 t8 [])) : Int))) : Int) ≤ 9223372036854775807 ∧
          (↑(List.length (out ++ Sp.plain (↑(List.length (nth t6 t8 [])) : Int))) : Int) + (↑(List.length (nth t6 t8 [])) : Int) ≤ 9223372036854775807 ∧
            Rg IntKind.i64 (t8 + 1) ∧ K0 (out ++ Sp.plain (↑(List.length (nth t6 t8 [])) : Int) ++ nth t6 t8 [], t6, t7, t8 + 1, ())
  else R out
def rectoref29_Plain.vc (R : List UInt8 → Prop) (l : List Str) : Prop :=
  Lp (fun v K => rectoref29_Plain.L0 R v.fst v.snd.fst v.snd.snd.fst v.snd.snd.snd.fst K) ([], l, (↑l.length : Int), 0, ())

def Of_own.L0 (R : Bool →
  List (List UInt8) →
    Prop) (rest : List
  UInt8) (t2_Ok : Bool) (t2_L : List
  (List UInt8)) (out_Ok : Bool) (out_L : List (List UInt8)) (K0 : List UInt8 × Bool × List (List UInt8) × Bool × List (List UInt8) × Unit → Prop) : Prop :=
  bif !decide (rest = []) then
    Sp.takenT.pre rest ∧
      bif !decide ((Sp.takenT rest).snd.snd.snd.snd = 0) then R false []
      else Gr out_L.length 1 16 ∧ K0 ((Sp.takenT rest).snd.snd.snd.fst, t2_Ok, t2_L, out_Ok, out_L ++ [(Sp.takenT rest).snd.fst], ())
  else R out_Ok out_L
def Of_own.vc (R : Bool → List (List UInt8) → Prop) (b : Str) : Prop :=
  Lp (fun v K => Of_own.L0 R v.fst v.snd.fst v.snd.snd.fst v.snd.snd.snd.fst v.snd.snd.snd.snd.fst K) (b, false, [], true, [], ())

def Open_own.L0 (R0 : Int →
  Bool →
    Bool →
      Int →
        Bool →
          List Int →
            List (List UInt8) →
              List (Int × List UInt8) →
                Prop) (R1 : Int →
  Bool →
    Bool →
      Int →
        Bool →
          List Int →
            List (List UInt8) →
              List (Int × List UInt8) →
                Int →
                  Int →
                    Int →
                      List (List UInt8) →
                        Prop) (all : List
  UInt8) (i : Int) (rdown : Bool) (rarmed : Bool) (rafter : Int) (racut : Bool) (rkeep : List
  Int) (rbs : List
  (List
    UInt8)) (rws : List
  (Int ×
    List
      UInt8)) (r_From : Int) (r_Blocks : Int) (r_Sealed : Int) (t4_Err : Int) (K0 : List UInt8 ×
    Int × Bool × Bool × Int × Bool × List Int × List (List UInt8) × List (Int × List UInt8) × Int × Int × Int × Int × Unit →
  Prop) : Prop :=
  bif decide ((↑all.length : Int) < r_Sealed) then
    Sp.rPre (rdown, rarmed, rafter, racut, rkeep, rbs, rws) ∧
      bif !decide ((Sp.rRead i (rdown, rarmed, rafter, racut, rkeep, rbs, rws)).snd = 0) then
        R0 (Sp.rRead i (rdown, rarmed, rafter, racut, rkeep, rbs, rws)).snd rdown rarmed rafter racut rkeep rbs rws
      else
        (↑all.length : Int) + (↑(List.length (Sp.rRead i (rdown, rarmed, rafter, racut, rkeep, rbs, rws)).fst) : Int) ≤ 9223372036854775807 ∧
          Rg IntKind.i64 (i + 1) ∧
            K0 (all ++ (Sp.rRead i (rdown, rarmed, rafter, racut, rkeep, rbs, rws)).fst, i + 1, rdown, rarmed, rafter, racut, rkeep, rbs, rws, r_From, r_Blocks, r_Sealed, t4_Err, ())
  else
    Sb 0 r_Sealed all.length ∧
      Sp.ofB.pre (sub all 0 r_Sealed) ∧
        bif !(Sp.ofB (sub all 0 r_Sealed)).snd then R0 290 rdown rarmed rafter racut rkeep rbs rws
        else R1 0 rdown rarmed rafter racut rkeep rbs rws r_From r_Blocks (↑(Sp.ofB (sub all 0 r_Sealed)).fst.length : Int) (Sp.ofB (sub all 0 r_Sealed)).fst
def Open_own.vc (R0 : Int →
  Bool →
    Bool →
      Int →
        Bool →
          List Int →
            List (List UInt8) →
              List (Int × List UInt8) →
                Prop) (R1 : Int →
  Bool →
    Bool →
      Int →
        Bool →
          List Int →
            List (List UInt8) →
              List (Int × List UInt8) →
                Int →
                  Int →
                    Int →
                      List (List UInt8) →
                        Prop) (q : Int × Int × Int) (rdown : Bool) (rarmed : Bool) (rafter : Int) (racut : Bool) (rkeep : List Int) (rbs : List Str) (rws : List (Int × Str)) : Prop :=
  bif decide (q.fst < 0) then R0 1 rdown rarmed rafter racut rkeep rbs rws
  else
    bif decide (q.snd.fst < 1) then R0 1 rdown rarmed rafter racut rkeep rbs rws
    else
      bif decide ((↑rbs.length : Int) < q.snd.fst) then R0 1 rdown rarmed rafter racut rkeep rbs rws
      else
        Rg IntKind.i64 ((↑rbs.length : Int) - q.snd.fst) ∧
          bif decide ((↑rbs.length : Int) - q.snd.fst < q.fst) then R0 1 rdown rarmed rafter racut rkeep rbs rws
          else
            bif decide (q.snd.snd < 0) then R0 1 rdown rarmed rafter racut rkeep rbs rws
            else
              Rg IntKind.i64 (256 * q.snd.fst) ∧
                bif decide (256 * q.snd.fst < q.snd.snd) then R0 1 rdown rarmed rafter racut rkeep rbs rws
                else
                  Lp
                    (fun v K =>
                      Open_own.L0 R0 R1 v.fst v.snd.fst v.snd.snd.fst v.snd.snd.snd.fst v.snd.snd.snd.snd.fst v.snd.snd.snd.snd.snd.fst v.snd.snd.snd.snd.snd.snd.fst
                        v.snd.snd.snd.snd.snd.snd.snd.fst v.snd.snd.snd.snd.snd.snd.snd.snd.fst v.snd.snd.snd.snd.snd.snd.snd.snd.snd.fst v.snd.snd.snd.snd.snd.snd.snd.snd.snd.snd.fst
                        v.snd.snd.snd.snd.snd.snd.snd.snd.snd.snd.snd.fst v.snd.snd.snd.snd.snd.snd.snd.snd.snd.snd.snd.snd.fst K)
                    ([], q.fst, rdown, rarmed, rafter, racut, rkeep, rbs, rws, q.fst, q.snd.fst, q.snd.snd, 0, ())

def rectoref29_Log_Add.vc (R : Int → Int → Int → Int → List (List UInt8) → Prop) (s : Str) (mf : Int) (mb : Int) (ms : Int) (ml : List Str) : Prop :=
  bif !decide ((Sp.textP s).snd = 0) then R (Sp.textP s).snd mf mb ms ml
  else
    Sp.catB.pre ml ∧
      Rg IntKind.i64 ((↑(List.length (Sp.catB ml)) : Int) + (↑(List.length (Sp.textP s).fst) : Int)) ∧
        Rg IntKind.i64 (256 * mb) ∧
          bif decide (256 * mb < (↑(List.length (Sp.catB ml)) : Int) + (↑(List.length (Sp.textP s).fst) : Int)) then R 5 mf mb ms ml else Gr ml.length 1 16 ∧ R 0 mf mb ms (ml ++ [s])

def rectoref29_Log_Drop.vc (R : Int → Int → Int → List (List UInt8) → Prop) (mf : Int) (mb : Int) (ms : Int) (ml : List Str) : Prop :=
  Sb 0 ms ml.length ∧ Gr 0 (sub ml 0 ms).length 16 ∧ R mf mb ms (sub ml 0 ms)

def rectoref29_Log_Write.L1 (R : Int →
  Int →
    Int →
      Int →
        Bool →
          Bool →
            Int →
              Bool →
                List Int →
                  List (List UInt8) →
                    List (List UInt8) →
                      List (Int × List UInt8) →
                        Prop) (K0 : List UInt8 × Int × Int × Int × Int × Int × Bool × Bool × Int × Bool × List Int × List (List UInt8) × List (List UInt8) × List (Int × List UInt8) × Unit →
  Prop) (b : List
  UInt8) (n : Int) (i : Int) (s : List
  UInt8) (mf : Int) (mb : Int) (ms : Int) (rdown : Bool) (rarmed : Bool) (rafter : Int) (racut : Bool) (rkeep : List
  Int) (ml : List
  (List
    UInt8)) (rbs : List
  (List
    UInt8)) (rws : List
  (Int ×
    List
      UInt8)) (K1 : List UInt8 × Int × Int × List UInt8 × Int × Int × Int × Bool × Bool × Int × Bool × List Int × List (List UInt8) × List (List UInt8) × List (Int × List UInt8) × Unit →
  Prop) : Prop :=
  bif decide ((↑s.length : Int) < 256) then (↑s.length : Int) + (↑1 : Int) ≤ 9223372036854775807 ∧ K1 (b, n, i, s ++ [0], mf, mb, ms, rdown, rarmed, rafter, racut, rkeep, ml, rbs, rws, ())
  else
    Rg IntKind.i64 (mf + i) ∧
      Sp.rWrite.pre (mf + i) s (rdown, rarmed, rafter, racut, rkeep, rbs, rws) ∧
        bif !decide ((Sp.rWrite (mf + i) s (rdown, rarmed, rafter, racut, rkeep, rbs, rws)).snd = 0) then
          R (Sp.rWrite (mf + i) s (rdown, rarmed, rafter, racut, rkeep, rbs, rws)).snd mf mb ms (Sp.rWrite (mf + i) s (rdown, rarmed, rafter, racut, rkeep, rbs, rws)).fst.fst
            (Sp.rWrite (mf + i) s (rdown, rarmed, rafter, racut, rkeep, rbs, rws)).fst.snd.fst (Sp.rWrite (mf + i) s (rdown, rarmed, rafter, racut, rkeep, rbs, rws)).fst.snd.snd.fst
            (Sp.rWrite (mf + i) s (rdown, rarmed, rafter, racut, rkeep, rbs, rws)).fst.snd.snd.snd.fst
            (Sp.rWrite (mf + i) s (rdown, rarmed, rafter, racut, rkeep, rbs, rws)).fst.snd.snd.snd.snd.fst ml
            (Sp.rWrite (mf + i) s (rdown, rarmed, rafter, racut, rkeep, rbs, rws)).fst.snd.snd.snd.snd.snd.fst
            (Sp.rWrite (mf + i) s (rdown, rarmed, rafter, racut, rkeep, rbs, rws)).fst.snd.snd.snd.snd.snd.snd
        else
          Rg IntKind.i64 (i + 1) ∧
            K0
              (b, n, i + 1, mf, mb, ms, (Sp.rWrite (mf + i) s (rdown, rarmed, rafter, racut, rkeep, rbs, rws)).fst.fst,
                (Sp.rWrite (mf + i) s (rdown, rarmed, rafter, racut, rkeep, rbs, rws)).fst.snd.fst, (Sp.rWrite (mf + i) s (rdown, rarmed, rafter, racut, rkeep, rbs, rws)).fst.snd.snd.fst,
                (Sp.rWrite (mf + i) s (rdown, rarmed, rafter, racut, rkeep, rbs, rws)).fst.snd.snd.snd.fst,
                (Sp.rWrite (mf + i) s (rdown, rarmed, rafter, racut, rkeep, rbs, rws)).fst.snd.snd.snd.snd.fst, ml,
                (Sp.rWrite (mf + i) s (rdown, rarmed, rafter, racut, rkeep, rbs, rws)).fst.snd.snd.snd.snd.snd.fst,
                (Sp.rWrite (mf + i) s (rdown, rarmed, rafter, racut, rkeep, rbs, rws)).fst.snd.snd.snd.snd.snd.snd, ())
def rectoref29_Log_Write.L2 (R : Int →
  Int →
    Int →
      Int →
        Bool →
          Bool →
            Int →
              Bool →
                List Int →
                  List (List UInt8) →
                    List (List UInt8) →
                      List (Int × List UInt8) →
                        Prop) (K0 : List UInt8 × Int × Int × Int × Int × Int × Bool × Bool × Int × Bool × List Int × List (List UInt8) × List (List UInt8) × List (Int × List UInt8) × Unit →
  Prop) (x20 : List
  UInt8) (x21 : Int) (x22 : Int) (x23 : List
  UInt8) (x24 : Int) (x25 : Int) (x26 : Int) (x27 : Bool) (x28 : Bool) (x29 : Int) (x210 : Bool) (x211 : List
  Int) (x212 : List
  (List
    UInt8)) (x213 : List
  (List
    UInt8)) (x214 : List
  (Int ×
    List
      UInt8)) (K2 : List UInt8 × Int × Int × List UInt8 × Int × Int × Int × Bool × Bool × Int × Bool × List Int × List (List UInt8) × List (List UInt8) × List (Int × List UInt8) × Unit →
  Prop) : Prop :=
  bif decide ((↑x23.length : Int) < 256) then
    (↑x23.length : Int) + (↑1 : Int) ≤ 9223372036854775807 ∧ K2 (x20, x21, x22, x23 ++ [0], x24, x25, x26, x27, x28, x29, x210, x211, x212, x213, x214, ())
  else
    Rg IntKind.i64 (x24 + x22) ∧
      Sp.rWrite.pre (x24 + x22) x23 (x27, x28, x29, x210, x211, x213, x214) ∧
        bif !decide ((Sp.rWrite (x24 + x22) x23 (x27, x28, x29, x210, x211, x213, x214)).snd = 0) then
          R (Sp.rWrite (x24 + x22) x23 (x27, x28, x29, x210, x211, x213, x214)).snd x24 x25 x26 (Sp.rWrite (x24 + x22) x23 (x27, x28, x29, x210, x211, x213, x214)).fst.fst
            (Sp.rWrite (x24 + x22) x23 (x27, x28, x29, x210, x211, x213, x214)).fst.snd.fst (Sp.rWrite (x24 + x22) x23 (x27, x28, x29, x210, x211, x213, x214)).fst.snd.snd.fst
            (Sp.rWrite (x24 + x22) x23 (x27, x28, x29, x210, x211, x213, x214)).fst.snd.snd.snd.fst
            (Sp.rWrite (x24 + x22) x23 (x27, x28, x29, x210, x211, x213, x214)).fst.snd.snd.snd.snd.fst x212
            (Sp.rWrite (x24 + x22) x23 (x27, x28, x29, x210, x211, x213, x214)).fst.snd.snd.snd.snd.snd.fst
            (Sp.rWrite (x24 + x22) x23 (x27, x28, x29, x210, x211, x213, x214)).fst.snd.snd.snd.snd.snd.snd
        else
          Rg IntKind.i64 (x22 + 1) ∧
            K0
              (x20, x21, x22 + 1, x24, x25, x26, (Sp.rWrite (x24 + x22) x23 (x27, x28, x29, x210, x211, x213, x214)).fst.fst,
                (Sp.rWrite (x24 + x22) x23 (x27, x28, x29, x210, x211, x213, x214)).fst.snd.fst, (Sp.rWrite (x24 + x22) x23 (x27, x28, x29, x210, x211, x213, x214)).fst.snd.snd.fst,
                (Sp.rWrite (x24 + x22) x23 (x27, x28, x29, x210, x211, x213, x214)).fst.snd.snd.snd.fst,
                (Sp.rWrite (x24 + x22) x23 (x27, x28, x29, x210, x211, x213, x214)).fst.snd.snd.snd.snd.fst, x212,
                (Sp.rWrite (x24 + x22) x23 (x27, x28, x29, x210, x211, x213, x214)).fst.snd.snd.snd.snd.snd.fst,
                (Sp.rWrite (x24 + x22) x23 (x27, x28, x29, x210, x211, x213, x214)).fst.snd.snd.snd.snd.snd.snd, ())
def rectoref29_Log_Write.L0 (R : Int →
  Int →
    Int →
      Int →
        Bool →
          Bool →
            Int →
              Bool →
                List Int →
                  List (List UInt8) →
                    List (List UInt8) →
                      List (Int × List UInt8) →
                        Prop) (b : List
  UInt8) (n : Int) (i : Int) (mf : Int) (mb : Int) (ms : Int) (rdown : Bool) (rarmed : Bool) (rafter : Int) (racut : Bool) (rkeep : List
  Int) (ml : List
  (List
    UInt8)) (rbs : List
  (List
    UInt8)) (rws : List
  (Int ×
    List
      UInt8)) (K0 : List UInt8 × Int × Int × Int × Int × Int × Bool × Bool × Int × Bool × List Int × List (List UInt8) × List (List UInt8) × List (Int × List UInt8) × Unit → Prop) : Prop :=
  bif decide (i < mb) then
    Rg IntKind.i64 (256 * i) ∧
      Rg IntKind.i64 (256 * i + 256) ∧
        bif decide (256 * i + 256 ≤ n) then Rg IntKind.i64 (i + 1) ∧ K0 (b, n, i + 1, mf, mb, ms, rdown, rarmed, rafter, racut, rkeep, ml, rbs, rws, ())
        else
          Rg IntKind.i64 (256 * i) ∧
            bif decide ((↑b.length : Int) ≤ 256 * i) then Rg IntKind.i64 (i + 1) ∧ K0 (b, n, i + 1, mf, mb, ms, rdown, rarmed, rafter, racut, rkeep, ml, rbs, rws, ())
            else
              bif decide (n = (↑b.length : Int)) then Rg IntKind.i64 (i + 1) ∧ K0 (b, n, i + 1, mf, mb, ms, rdown, rarmed, rafter, racut, rkeep, ml, rbs, rws, ())
              else
                Rg IntKind.i64 (256 * i) ∧
                  Sb (256 * i) (↑b.length : Int) b.length ∧
                    bif decide (256 < (↑(sub b (256 * i) (↑b.length : Int)).length : Int)) then
                      Sb 0 256 (sub b (256 * i) (↑b.length : Int)).length ∧
                        Lp
                          (fun v K =>
                            rectoref29_Log_Write.L1 R K0 v.fst v.snd.fst v.snd.snd.fst v.snd.snd.snd.fst v.snd.snd.snd.snd.fst v.snd.snd.snd.snd.snd.fst v.snd.snd.snd.snd.snd.snd.fst
                              v.snd.snd.snd.snd.snd.snd.snd.fst v.snd.snd.snd.snd.snd.snd.snd.snd.fst v.snd.snd.snd.snd.snd.snd.snd.snd.snd.fst v.snd.snd.snd.snd.snd.snd.snd.snd.snd.snd.fst
                              v.snd.snd.snd.snd.snd.snd.snd.snd.snd.snd.snd.fst v.snd.snd.snd.snd.snd.snd.snd.snd.snd.snd.snd.snd.fst
                              v.snd.snd.snd.snd.snd.snd.snd.snd.snd.snd.snd.snd.snd.fst v.snd.snd.snd.snd.snd.snd.snd.snd.snd.snd.snd.snd.snd.snd.fst K)
                          (b, n, i, sub (sub b (256 * i) (↑b.length : Int)) 0 256, mf, mb, ms, rdown, rarmed, rafter, racut, rkeep, ml, rbs, rws, ())
                    else
                      Lp
                        (fun v K =>
                          rectoref29_Log_Write.L2 R K0 v.fst v.snd.fst v.snd.snd.fst v.snd.snd.snd.fst v.snd.snd.snd.snd.fst v.snd.snd.snd.snd.snd.fst v.snd.snd.snd.snd.snd.snd.fst
                            v.snd.snd.snd.snd.snd.snd.snd.fst v.snd.snd.snd.snd.snd.snd.snd.snd.fst v.snd.snd.snd.snd.snd.snd.snd.snd.snd.fst v.snd.snd.snd.snd.snd.snd.snd.snd.snd.snd.fst
                            v.snd.snd.snd.snd.snd.snd.snd.snd.snd.snd.snd.fst v.snd.snd.snd.snd.snd.snd.snd.snd.snd.snd.snd.snd.fst v.snd.snd.snd.snd.snd.snd.snd.snd.snd.snd.snd.snd.snd.fst
                            v.snd.snd.snd.snd.snd.snd.snd.snd.snd.snd.snd.snd.snd.snd.fst K)
                        (b, n, i, sub b (256 * i) (↑b.length : Int), mf, mb, ms, rdown, rarmed, rafter, racut, rkeep, ml, rbs, rws, ())
  else R 0 mf mb ms rdown rarmed rafter racut rkeep ml rbs rws
def rectoref29_Log_Write.vc (R : Int →
  Int →
    Int →
      Int →
        Bool →
          Bool →
            Int →
              Bool →
                List Int →
                  List (List UInt8) →
                    List (List UInt8) →
                      List (Int × List UInt8) →
                        Prop) (mf : Int) (mb : Int) (ms : Int) (rdown : Bool) (rarmed : Bool) (rafter : Int) (racut : Bool) (rkeep : List
  Int) (ml : List Str) (rbs : List Str) (rws : List (Int × Str)) : Prop :=
  Sp.catB.pre ml ∧
    Sb 0 ms ml.length ∧
      Sp.catB.pre (sub ml 0 ms) ∧
        Lp
          (fun v K =>
            rectoref29_Log_Write.L0 R v.fst v.snd.fst v.snd.snd.fst v.snd.snd.snd.fst v.snd.snd.snd.snd.fst v.snd.snd.snd.snd.snd.fst v.snd.snd.snd.snd.snd.snd.fst
              v.snd.snd.snd.snd.snd.snd.snd.fst v.snd.snd.snd.snd.snd.snd.snd.snd.fst v.snd.snd.snd.snd.snd.snd.snd.snd.snd.fst v.snd.snd.snd.snd.snd.snd.snd.snd.snd.snd.fst
              v.snd.snd.snd.snd.snd.snd.snd.snd.snd.snd.snd.fst v.snd.snd.snd.snd.snd.snd.snd.snd.snd.snd.snd.snd.fst v.snd.snd.snd.snd.snd.snd.snd.snd.snd.snd.snd.snd.snd.fst K)
          (Sp.catB ml, (↑(List.length (Sp.catB (sub ml 0 ms))) : Int), 0, mf, mb, ms, rdown, rarmed, rafter, racut, rkeep, ml, rbs, rws, ())

def rectolaw29_Pair_does.vc (R : Bool →
  Bool →
    Bool →
      Int →
        Bool →
          List Int →
            Bool →
              Bool →
                Int →
                  Bool →
                    List Int →
                      Int →
                        Int →
                          List UInt8 →
                            Int →
                              Int →
                                Int →
                                  Int →
                                    List (List (List UInt8)) →
                                      List (Int × List (List UInt8)) →
                                        List (List UInt8) →
                                          List (Int × List UInt8) →
                                            List (List UInt8) →
                                              Prop) (s : Int ×
  Int ×
    Str ×
      List
        Int) (down : Bool) (armed : Bool) (after : Int) (acut : Bool) (keep : List
  Int) (rdown : Bool) (rarmed : Bool) (rafter : Int) (racut : Bool) (rkeep : List
  Int) (from_ : Int) (blocks : Int) (b : Str) (sealed : Int) (mf : Int) (mb : Int) (ms : Int) (bs : List
  (List Str)) (ws : List (Int × List Str)) (rbs : List Str) (rws : List (Int × Str)) (ml : List Str) : Prop :=
  bif decide (s.fst = 0) then
    Sp.lOk (from_, blocks, b, sealed) ∧
      Sp.mOk (mf, mb, ms, ml) ∧
        R (decide ((Sp.lAdd s.snd.snd.fst (from_, blocks, b, sealed)).snd = (Sp.mAdd s.snd.snd.fst (mf, mb, ms, ml)).snd)) down armed after acut keep rdown rarmed rafter racut rkeep
          (Sp.lAdd s.snd.snd.fst (from_, blocks, b, sealed)).fst.fst (Sp.lAdd s.snd.snd.fst (from_, blocks, b, sealed)).fst.snd.fst
          (Sp.lAdd s.snd.snd.fst (from_, blocks, b, sealed)).fst.snd.snd.fst (Sp.lAdd s.snd.snd.fst (from_, blocks, b, sealed)).fst.snd.snd.snd
          (Sp.mAdd s.snd.snd.fst (mf, mb, ms, ml)).fst.fst (Sp.mAdd s.snd.snd.fst (mf, mb, ms, ml)).fst.snd.fst (Sp.mAdd s.snd.snd.fst (mf, mb, ms, ml)).fst.snd.snd.fst bs ws rbs rws
          (Sp.mAdd s.snd.snd.fst (mf, mb, ms, ml)).fst.snd.snd.snd
  else
    bif decide (s.fst = 1) then
      Sp.lOk (from_, blocks, b, sealed) ∧
        Sp.mOk (mf, mb, ms, ml) ∧
          R (decide ((Sp.lAdd s.snd.snd.fst (from_, blocks, b, sealed)).snd = (Sp.mAdd s.snd.snd.fst (mf, mb, ms, ml)).snd)) down armed after acut keep rdown rarmed rafter racut rkeep
            (Sp.lAdd s.snd.snd.fst (from_, blocks, b, sealed)).fst.fst (Sp.lAdd s.snd.snd.fst (from_, blocks, b, sealed)).fst.snd.fst
            (Sp.lAdd s.snd.snd.fst (from_, blocks, b, sealed)).fst.snd.snd.fst (Sp.lAdd s.snd.snd.fst (from_, blocks, b, sealed)).fst.snd.snd.snd
            (Sp.mAdd s.snd.snd.fst (mf, mb, ms, ml)).fst.fst (Sp.mAdd s.snd.snd.fst (mf, mb, ms, ml)).fst.snd.fst (Sp.mAdd s.snd.snd.fst (mf, mb, ms, ml)).fst.snd.snd.fst bs ws rbs rws
            (Sp.mAdd s.snd.snd.fst (mf, mb, ms, ml)).fst.snd.snd.snd
    else
      bif decide (s.fst = 2) then
        Sp.lOk (from_, blocks, b, sealed) ∧
          Sp.mOk (mf, mb, ms, ml) ∧
            R (decide ((Sp.lAdd s.snd.snd.fst (from_, blocks, b, sealed)).snd = (Sp.mAdd s.snd.snd.fst (mf, mb, ms, ml)).snd)) down armed after acut keep rdown rarmed rafter racut rkeep
              (Sp.lAdd s.snd.snd.fst (from_, blocks, b, sealed)).fst.fst (Sp.lAdd s.snd.snd.fst (from_, blocks, b, sealed)).fst.snd.fst
              (Sp.lAdd s.snd.snd.fst (from_, blocks, b, sealed)).fst.snd.snd.fst (Sp.lAdd s.snd.snd.fst (from_, blocks, b, sealed)).fst.snd.snd.snd
              (Sp.mAdd s.snd.snd.fst (mf, mb, ms, ml)).fst.fst (Sp.mAdd s.snd.snd.fst (mf, mb, ms, ml)).fst.snd.fst (Sp.mAdd s.snd.snd.fst (mf, mb, ms, ml)).fst.snd.snd.fst bs ws rbs rws
              (Sp.mAdd s.snd.snd.fst (mf, mb, ms, ml)).fst.snd.snd.snd
      else
        bif decide (s.fst = 3) then
          Sp.lPre (from_, blocks, b, sealed) (down, armed, after, acut, keep, bs, ws) ∧
            Sp.mWrite.pre (mf, mb, ms, ml) (rdown, rarmed, rafter, racut, rkeep, rbs, rws) ∧
              R
                (decide
                  ((Sp.lWrite (from_, blocks, b, sealed) (down, armed, after, acut, keep, bs, ws)).snd = (Sp.mWrite (mf, mb, ms, ml) (rdown, rarmed, rafter, racut, rkeep, rbs, rws)).snd))
                (Sp.lWrite (from_, blocks, b, sealed) (down, armed, after, acut, keep, bs, ws)).fst.fst
                (Sp.lWrite (from_, blocks, b, sealed) (down, armed, after, acut, keep, bs, ws)).fst.snd.fst
                (Sp.lWrite (from_, blocks, b, sealed) (down, armed, after, acut, keep, bs, ws)).fst.snd.snd.fst
                (Sp.lWrite (from_, blocks, b, sealed) (down, armed, after, acut, keep, bs, ws)).fst.snd.snd.snd.fst
                (Sp.lWrite (from_, blocks, b, sealed) (down, armed, after, acut, keep, bs, ws)).fst.snd.snd.snd.snd.fst
                (Sp.mWrite (mf, mb, ms, ml) (rdown, rarmed, rafter, racut, rkeep, rbs, rws)).fst.fst (Sp.mWrite (mf, mb, ms, ml) (rdown, rarmed, rafter, racut, rkeep, rbs, rws)).fst.snd.fst
                (Sp.mWrite (mf, mb, ms, ml) (rdown, rarmed, rafter, racut, rkeep, rbs, rws)).fst.snd.snd.fst
                (Sp.mWrite (mf, mb, ms, ml) (rdown, rarmed, rafter, racut, rkeep, rbs, rws)).fst.snd.snd.snd.fst
                (Sp.mWrite (mf, mb, ms, ml) (rdown, rarmed, rafter, racut, rkeep, rbs, rws)).fst.snd.snd.snd.snd.fst from_ blocks b sealed mf mb ms
                (Sp.lWrite (from_, blocks, b, sealed) (down, armed, after, acut, keep, bs, ws)).fst.snd.snd.snd.snd.snd.fst
                (Sp.lWrite (from_, blocks, b, sealed) (down, armed, after, acut, keep, bs, ws)).fst.snd.snd.snd.snd.snd.snd
                (Sp.mWrite (mf, mb, ms, ml) (rdown, rarmed, rafter, racut, rkeep, rbs, rws)).fst.snd.snd.snd.snd.snd.fst
                (Sp.mWrite (mf, mb, ms, ml) (rdown, rarmed, rafter, racut, rkeep, rbs, rws)).fst.snd.snd.snd.snd.snd.snd ml
        else
          bif decide (s.fst = 4) then
            Sp.dPre (down, armed, after, acut, keep, bs, ws) ∧
              Sp.rPre (rdown, rarmed, rafter, racut, rkeep, rbs, rws) ∧
                R (decide ((Sp.dFlush (down, armed, after, acut, keep, bs, ws)).snd = (Sp.rFlush (rdown, rarmed, rafter, racut, rkeep, rbs, rws)).snd))
                  (Sp.dFlush (down, armed, after, acut, keep, bs, ws)).fst.fst (Sp.dFlush (down, armed, after, acut, keep, bs, ws)).fst.snd.fst
                  (Sp.dFlush (down, armed, after, acut, keep, bs, ws)).fst.snd.snd.fst (Sp.dFlush (down, armed, after, acut, keep, bs, ws)).fst.snd.snd.snd.fst
                  (Sp.dFlush (down, armed, after, acut, keep, bs, ws)).fst.snd.snd.snd.snd.fst (Sp.rFlush (rdown, rarmed, rafter, racut, rkeep, rbs, rws)).fst.fst
                  (Sp.rFlush (rdown, rarmed, rafter, racut, rkeep, rbs, rws)).fst.snd.fst (Sp.rFlush (rdown, rarmed, rafter, racut, rkeep, rbs, rws)).fst.snd.snd.fst
                  (Sp.rFlush (rdown, rarmed, rafter, racut, rkeep, rbs, rws)).fst.snd.snd.snd.fst (Sp.rFlush (rdown, rarmed, rafter, racut, rkeep, rbs, rws)).fst.snd.snd.snd.snd.fst from_
                  blocks b sealed mf mb ms (Sp.dFlush (down, armed, after, acut, keep, bs, ws)).fst.snd.snd.snd.snd.snd.fst
                  (Sp.dFlush (down, armed, after, acut, keep, bs, ws)).fst.snd.snd.snd.snd.snd.snd (Sp.rFlush (rdown, rarmed, rafter, racut, rkeep, rbs, rws)).fst.snd.snd.snd.snd.snd.fst
                  (Sp.rFlush (rdown, rarmed, rafter, racut, rkeep, rbs, rws)).fst.snd.snd.snd.snd.snd.snd ml
          else
            bif decide (s.fst = 5) then
              R true down armed after acut keep rdown rarmed rafter racut rkeep (Sp.lSeal (from_, blocks, b, sealed)).fst (Sp.lSeal (from_, blocks, b, sealed)).snd.fst
                (Sp.lSeal (from_, blocks, b, sealed)).snd.snd.fst (Sp.lSeal (from_, blocks, b, sealed)).snd.snd.snd mf mb (↑ml.length : Int) bs ws rbs rws ml
            else
              bif decide (s.fst = 6) then
                Sp.lOk (from_, blocks, b, sealed) ∧
                  Sp.mOk (mf, mb, ms, ml) ∧
                    R true down armed after acut keep rdown rarmed rafter racut rkeep (Sp.lDrop (from_, blocks, b, sealed)).fst (Sp.lDrop (from_, blocks, b, sealed)).snd.fst
                      (Sp.lDrop (from_, blocks, b, sealed)).snd.snd.fst (Sp.lDrop (from_, blocks, b, sealed)).snd.snd.snd (Sp.mDrop (mf, mb, ms, ml)).fst (Sp.mDrop (mf, mb, ms, ml)).snd.fst
                      (Sp.mDrop (mf, mb, ms, ml)).snd.snd.fst bs ws rbs rws (Sp.mDrop (mf, mb, ms, ml)).snd.snd.snd
              else
                bif decide (s.fst = 7) then
                  Sp.dPre9 (down, armed, after, acut, keep, bs, ws) ∧
                    bif Sp.opNil mf mb s.snd.fst (down, armed, after, acut, keep, bs, ws) then
                      Sp.roPre (mf, mb, s.snd.fst) (rdown, rarmed, rafter, racut, rkeep, rbs, rws) ∧
                        bif Sp.roNil (mf, mb, s.snd.fst) (rdown, rarmed, rafter, racut, rkeep, rbs, rws) then
                          bif !decide (Sp.opErr mf mb s.snd.fst (down, armed, after, acut, keep, bs, ws) = Sp.roErr (mf, mb, s.snd.fst) (rdown, rarmed, rafter, racut, rkeep, rbs, rws)) then
                            R false down armed after acut keep rdown rarmed rafter racut rkeep from_ blocks b sealed mf mb ms bs ws rbs rws ml
                          else R true down armed after acut keep rdown rarmed rafter racut rkeep from_ blocks b sealed mf mb ms bs ws rbs rws ml
                        else
                          bif !decide (Sp.opErr mf mb s.snd.fst (down, armed, after, acut, keep, bs, ws) = 0) then
                            R false down armed after acut keep rdown rarmed rafter racut rkeep from_ blocks b sealed mf mb ms bs ws rbs rws ml
                          else R false down armed after acut keep rdown rarmed rafter racut rkeep from_ blocks b sealed mf mb ms bs ws rbs rws ml
                    else
                      Sp.roPre (mf, mb, s.snd.fst) (rdown, rarmed, rafter, racut, rkeep, rbs, rws) ∧
                        bif Sp.roNil (mf, mb, s.snd.fst) (rdown, rarmed, rafter, racut, rkeep, rbs, rws) then
                          bif !decide (0 = Sp.roErr (mf, mb, s.snd.fst) (rdown, rarmed, rafter, racut, rkeep, rbs, rws)) then
                            R false down armed after acut keep rdown rarmed rafter racut rkeep from_ blocks b sealed mf mb ms bs ws rbs rws ml
                          else R false down armed after acut keep rdown rarmed rafter racut rkeep from_ blocks b sealed mf mb ms bs ws rbs rws ml
                        else
                          R true down armed after acut keep rdown rarmed rafter racut rkeep mf mb (Sp.opS mf s.snd.fst (down, armed, after, acut, keep, bs, ws)) s.snd.fst mf mb
                            (↑(Sp.roL (mf, mb, s.snd.fst) (rdown, rarmed, rafter, racut, rkeep, rbs, rws)).length : Int) bs ws rbs rws
                            (Sp.roL (mf, mb, s.snd.fst) (rdown, rarmed, rafter, racut, rkeep, rbs, rws))
                else
                  bif decide (s.fst = 8) then
                    Sp.dFall.pre s.snd.snd.snd (down, armed, after, acut, keep, bs, ws) ∧
                      Sp.rFall.pre s.snd.snd.snd (rdown, rarmed, rafter, racut, rkeep, rbs, rws) ∧
                        bif
                            decide
                              ((Sp.dCrash s.snd.snd.snd (down, armed, after, acut, keep, bs, ws)).snd = (Sp.rCrash s.snd.snd.snd (rdown, rarmed, rafter, racut, rkeep, rbs, rws)).snd) then
                          Sp.dPre (Sp.dCrash s.snd.snd.snd (down, armed, after, acut, keep, bs, ws)).fst ∧
                            Sp.rPre (Sp.rCrash s.snd.snd.snd (rdown, rarmed, rafter, racut, rkeep, rbs, rws)).fst ∧
                              R
                                (decide
                                  ((Sp.dStart (Sp.dCrash s.snd.snd.snd (down, armed, after, acut, keep, bs, ws)).fst).snd =
                                    (Sp.rStart (Sp.rCrash s.snd.snd.snd (rdown, rarmed, rafter, racut, rkeep, rbs, rws)).fst).snd))
                                (Sp.dStart (Sp.dCrash s.snd.snd.snd (down, armed, after, acut, keep, bs, ws)).fst).fst.fst
                                (Sp.dStart (Sp.dCrash s.snd.snd.snd (down, armed, after, acut, keep, bs, ws)).fst).fst.snd.fst
                                (Sp.dStart (Sp.dCrash s.snd.snd.snd (down, armed, after, acut, keep, bs, ws)).fst).fst.snd.snd.fst
                                (Sp.dStart (Sp.dCrash s.snd.snd.snd (down, armed, after, acut, keep, bs, ws)).fst).fst.snd.snd.snd.fst
                                (Sp.dStart (Sp.dCrash s.snd.snd.snd (down, armed, after, acut, keep, bs, ws)).fst).fst.snd.snd.snd.snd.fst
                                (Sp.rStart (Sp.rCrash s.snd.snd.snd (rdown, rarmed, rafter, racut, rkeep, rbs, rws)).fst).fst.fst
                                (Sp.rStart (Sp.rCrash s.snd.snd.snd (rdown, rarmed, rafter, racut, rkeep, rbs, rws)).fst).fst.snd.fst
                                (Sp.rStart (Sp.rCrash s.snd.snd.snd (rdown, rarmed, rafter, racut, rkeep, rbs, rws)).fst).fst.snd.snd.fst
                                (Sp.rStart (Sp.rCrash s.snd.snd.snd (rdown, rarmed, rafter, racut, rkeep, rbs, rws)).fst).fst.snd.snd.snd.fst
                                (Sp.rStart (Sp.rCrash s.snd.snd.snd (rdown, rarmed, rafter, racut, rkeep, rbs, rws)).fst).fst.snd.snd.snd.snd.fst from_ blocks b sealed mf mb ms
                                (Sp.dStart (Sp.dCrash s.snd.snd.snd (down, armed, after, acut, keep, bs, ws)).fst).fst.snd.snd.snd.snd.snd.fst
                                (Sp.dStart (Sp.dCrash s.snd.snd.snd (down, armed, after, acut, keep, bs, ws)).fst).fst.snd.snd.snd.snd.snd.snd
                                (Sp.rStart (Sp.rCrash s.snd.snd.snd (rdown, rarmed, rafter, racut, rkeep, rbs, rws)).fst).fst.snd.snd.snd.snd.snd.fst
                                (Sp.rStart (Sp.rCrash s.snd.snd.snd (rdown, rarmed, rafter, racut, rkeep, rbs, rws)).fst).fst.snd.snd.snd.snd.snd.snd ml
                        else
                          R false (Sp.dCrash s.snd.snd.snd (down, armed, after, acut, keep, bs, ws)).fst.fst (Sp.dCrash s.snd.snd.snd (down, armed, after, acut, keep, bs, ws)).fst.snd.fst
                            (Sp.dCrash s.snd.snd.snd (down, armed, after, acut, keep, bs, ws)).fst.snd.snd.fst
                            (Sp.dCrash s.snd.snd.snd (down, armed, after, acut, keep, bs, ws)).fst.snd.snd.snd.fst
                            (Sp.dCrash s.snd.snd.snd (down, armed, after, acut, keep, bs, ws)).fst.snd.snd.snd.snd.fst
                            (Sp.rCrash s.snd.snd.snd (rdown, rarmed, rafter, racut, rkeep, rbs, rws)).fst.fst
                            (Sp.rCrash s.snd.snd.snd (rdown, rarmed, rafter, racut, rkeep, rbs, rws)).fst.snd.fst
                            (Sp.rCrash s.snd.snd.snd (rdown, rarmed, rafter, racut, rkeep, rbs, rws)).fst.snd.snd.fst
                            (Sp.rCrash s.snd.snd.snd (rdown, rarmed, rafter, racut, rkeep, rbs, rws)).fst.snd.snd.snd.fst
                            (Sp.rCrash s.snd.snd.snd (rdown, rarmed, rafter, racut, rkeep, rbs, rws)).fst.snd.snd.snd.snd.fst from_ blocks b sealed mf mb ms
                            (Sp.dCrash s.snd.snd.snd (down, armed, after, acut, keep, bs, ws)).fst.snd.snd.snd.snd.snd.fst
                            (Sp.dCrash s.snd.snd.snd (down, armed, after, acut, keep, bs, ws)).fst.snd.snd.snd.snd.snd.snd
                            (Sp.rCrash s.snd.snd.snd (rdown, rarmed, rafter, racut, rkeep, rbs, rws)).fst.snd.snd.snd.snd.snd.fst
                            (Sp.rCrash s.snd.snd.snd (rdown, rarmed, rafter, racut, rkeep, rbs, rws)).fst.snd.snd.snd.snd.snd.snd ml
                  else
                    bif decide (s.fst = 9) then
                      Sp.dSet.pre (s.snd.fst, false, s.snd.snd.snd) (down, armed, after, acut, keep, bs, ws) ∧
                        Sp.rSet.pre (s.snd.fst, false, s.snd.snd.snd) (rdown, rarmed, rafter, racut, rkeep, rbs, rws) ∧
                          R
                            (decide
                              ((Sp.dSet (s.snd.fst, false, s.snd.snd.snd) (down, armed, after, acut, keep, bs, ws)).snd =
                                (Sp.rSet (s.snd.fst, false, s.snd.snd.snd) (rdown, rarmed, rafter, racut, rkeep, rbs, rws)).snd))
                            (Sp.dSet (s.snd.fst, false, s.snd.snd.snd) (down, armed, after, acut, keep, bs, ws)).fst.fst
                            (Sp.dSet (s.snd.fst, false, s.snd.snd.snd) (down, armed, after, acut, keep, bs, ws)).fst.snd.fst
                            (Sp.dSet (s.snd.fst, false, s.snd.snd.snd) (down, armed, after, acut, keep, bs, ws)).fst.snd.snd.fst
                            (Sp.dSet (s.snd.fst, false, s.snd.snd.snd) (down, armed, after, acut, keep, bs, ws)).fst.snd.snd.snd.fst
                            (Sp.dSet (s.snd.fst, false, s.snd.snd.snd) (down, armed, after, acut, keep, bs, ws)).fst.snd.snd.snd.snd.fst
                            (Sp.rSet (s.snd.fst, false, s.snd.snd.snd) (rdown, rarmed, rafter, racut, rkeep, rbs, rws)).fst.fst
                            (Sp.rSet (s.snd.fst, false, s.snd.snd.snd) (rdown, rarmed, rafter, racut, rkeep, rbs, rws)).fst.snd.fst
                            (Sp.rSet (s.snd.fst, false, s.snd.snd.snd) (rdown, rarmed, rafter, racut, rkeep, rbs, rws)).fst.snd.snd.fst
                            (Sp.rSet (s.snd.fst, false, s.snd.snd.snd) (rdown, rarmed, rafter, racut, rkeep, rbs, rws)).fst.snd.snd.snd.fst
                            (Sp.rSet (s.snd.fst, false, s.snd.snd.snd) (rdown, rarmed, rafter, racut, rkeep, rbs, rws)).fst.snd.snd.snd.snd.fst from_ blocks b sealed mf mb ms
                            (Sp.dSet (s.snd.fst, false, s.snd.snd.snd) (down, armed, after, acut, keep, bs, ws)).fst.snd.snd.snd.snd.snd.fst
                            (Sp.dSet (s.snd.fst, false, s.snd.snd.snd) (down, armed, after, acut, keep, bs, ws)).fst.snd.snd.snd.snd.snd.snd
                            (Sp.rSet (s.snd.fst, false, s.snd.snd.snd) (rdown, rarmed, rafter, racut, rkeep, rbs, rws)).fst.snd.snd.snd.snd.snd.fst
                            (Sp.rSet (s.snd.fst, false, s.snd.snd.snd) (rdown, rarmed, rafter, racut, rkeep, rbs, rws)).fst.snd.snd.snd.snd.snd.snd ml
                    else R true down armed after acut keep rdown rarmed rafter racut rkeep from_ blocks b sealed mf mb ms bs ws rbs rws ml

def rectolaw29_long.L0 (R : Bool →
  Prop) (n : Int) (t6 : List (Int × Int × List UInt8 × List Int)) (t7 : Int) (t8 : Int) (K0 : Int × List (Int × Int × List UInt8 × List Int) × Int × Int × Unit → Prop) : Prop :=
  bif decide (t8 < t7) then
    Ix t8 t6.length ∧
      bif decide (40 < t8) then R true
      else
        bif decide (40 < (↑(List.length (nth t6 t8 (0, 0, [], [])).snd.snd.snd) : Int)) then R true
        else
          bif decide (70000 < (↑(List.length (nth t6 t8 (0, 0, [], [])).snd.snd.fst) : Int)) then R true
          else
            Rg IntKind.i64 (n + (↑(List.length (nth t6 t8 (0, 0, [], [])).snd.snd.fst) : Int)) ∧
              bif decide (140000 < n + (↑(List.length (nth t6 t8 (0, 0, [], [])).snd.snd.fst) : Int)) then R true
              else Rg IntKind.i64 (t8 + 1) ∧ K0 (n + (↑(List.length (nth t6 t8 (0, 0, [], [])).snd.snd.fst) : Int), t6, t7, t8 + 1, ())
  else R false
def rectolaw29_long.vc (R : Bool → Prop) (l : List (Int × Int × Str × List Int)) : Prop :=
  Lp (fun v K => rectolaw29_long.L0 R v.fst v.snd.fst v.snd.snd.fst v.snd.snd.snd.fst K) (0, l, (↑l.length : Int), 0, ())

def rectolaw29_LogSteps.L1 (R : Bool →
  Prop) (K0 : Int ×
    List (Int × Int × List UInt8 × List Int) ×
      Int ×
        Int ×
          Bool ×
            Bool ×
              Int ×
                Bool ×
                  List Int ×
                    Bool ×
                      Bool ×
                        Int ×
                          Bool ×
                            List Int ×
                              Int ×
                                Int ×
                                  List UInt8 ×
                                    Int ×
                                      Int × Int × Int × List (List (List UInt8)) × List (Int × List (List UInt8)) × List (List UInt8) × List (Int × List UInt8) × List (List UInt8) × Unit →
  Prop) (o : Int) (t77 : List
  (Int ×
    Int ×
      List UInt8 ×
        List
          Int)) (t78 : Int) (t79 : Int) (t162 : Int) (t163 : Int) (down : Bool) (armed : Bool) (after : Int) (acut : Bool) (keep : List
  Int) (rdown : Bool) (rarmed : Bool) (rafter : Int) (racut : Bool) (rkeep : List
  Int) (from_ : Int) (blocks : Int) (b : List
  UInt8) (sealed : Int) (mf : Int) (mb : Int) (ms : Int) (bs : List
  (List
    (List
      UInt8))) (ws : List
  (Int ×
    List
      (List
        UInt8))) (rbs : List
  (List
    UInt8)) (rws : List
  (Int ×
    List
      UInt8)) (ml : List
  (List
    UInt8)) (K1 : Int ×
    List (Int × Int × List UInt8 × List Int) ×
      Int ×
        Int ×
          Int ×
            Int ×
              Bool ×
                Bool ×
                  Int ×
                    Bool ×
                      List Int ×
                        Bool ×
                          Bool ×
                            Int ×
                              Bool ×
                                List Int ×
                                  Int ×
                                    Int ×
                                      List UInt8 ×
                                        Int ×
                                          Int ×
                                            Int × Int × List (List (List UInt8)) × List (Int × List (List UInt8)) × List (List UInt8) × List (Int × List UInt8) × List (List UInt8) × Unit →
  Prop) : Prop :=
  bif decide (t163 < t162) then
    Sp.dPre (down, armed, after, acut, keep, bs, ws) ∧
      Ix t163 rbs.length ∧
        bif !decide (Sp.dLasts t163 (down, armed, after, acut, keep, bs, ws) = nth rbs t163 []) then R false
        else
          Rg IntKind.i64 (t163 + 1) ∧
            K1 (o, t77, t78, t79, t162, t163 + 1, down, armed, after, acut, keep, rdown, rarmed, rafter, racut, rkeep, from_, blocks, b, sealed, mf, mb, ms, bs, ws, rbs, rws, ml, ())
  else
    Rg IntKind.i64 (t79 + 1) ∧ K0 (o, t77, t78, t79 + 1, down, armed, after, acut, keep, rdown, rarmed, rafter, racut, rkeep, from_, blocks, b, sealed, mf, mb, ms, bs, ws, rbs, rws, ml, ())
def rectolaw29_LogSteps.L0 (R : Bool →
  Prop) (o : Int) (t77 : List
  (Int ×
    Int ×
      List UInt8 ×
        List
          Int)) (t78 : Int) (t79 : Int) (down : Bool) (armed : Bool) (after : Int) (acut : Bool) (keep : List
  Int) (rdown : Bool) (rarmed : Bool) (rafter : Int) (racut : Bool) (rkeep : List
  Int) (from_ : Int) (blocks : Int) (b : List
  UInt8) (sealed : Int) (mf : Int) (mb : Int) (ms : Int) (bs : List
  (List
    (List
      UInt8))) (ws : List
  (Int ×
    List
      (List
        UInt8))) (rbs : List
  (List
    UInt8)) (rws : List
  (Int ×
    List
      UInt8)) (ml : List
  (List
    UInt8)) (K0 : Int ×
    List (Int × Int × List UInt8 × List Int) ×
      Int ×
        Int ×
          Bool ×
            Bool ×
              Int ×
                Bool ×
                  List Int ×
                    Bool ×
                      Bool ×
                        Int ×
                          Bool ×
                            List Int ×
                              Int ×
                                Int ×
                                  List UInt8 ×
                                    Int ×
                                      Int × Int × Int × List (List (List UInt8)) × List (Int × List (List UInt8)) × List (List UInt8) × List (Int × List UInt8) × List (List UInt8) × Unit →
  Prop) : Prop :=
  bif decide (t79 < t78) then
    Ix t79 t77.length ∧
      Sp.does9.pre (nth t77 t79 (0, 0, [], [])) (down, armed, after, acut, keep, bs, ws) (rdown, rarmed, rafter, racut, rkeep, rbs, rws) (from_, blocks, b, sealed) (mf, mb, ms, ml) ∧
        Sp.catB.pre (Sp.m9 (nth t77 t79 (0, 0, [], [])) (rdown, rarmed, rafter, racut, rkeep, rbs, rws) (mf, mb, ms, ml)).snd.snd.snd ∧
          Sb 0 (Sp.m9 (nth t77 t79 (0, 0, [], [])) (rdown, rarmed, rafter, racut, rkeep, rbs, rws) (mf, mb, ms, ml)).snd.snd.fst
              (Sp.m9 (nth t77 t79 (0, 0, [], [])) (rdown, rarmed, rafter, racut, rkeep, rbs, rws) (mf, mb, ms, ml)).snd.snd.snd.length ∧
            Sp.catB.pre
                (sub (Sp.m9 (nth t77 t79 (0, 0, [], [])) (rdown, rarmed, rafter, racut, rkeep, rbs, rws) (mf, mb, ms, ml)).snd.snd.snd 0
                  (Sp.m9 (nth t77 t79 (0, 0, [], [])) (rdown, rarmed, rafter, racut, rkeep, rbs, rws) (mf, mb, ms, ml)).snd.snd.fst) ∧
              Sp.lOk (Sp.l9 (nth t77 t79 (0, 0, [], [])) (down, armed, after, acut, keep, bs, ws) (from_, blocks, b, sealed)) ∧
                Sp.eqL.pre (Sp.lRecs (Sp.l9 (nth t77 t79 (0, 0, [], [])) (down, armed, after, acut, keep, bs, ws) (from_, blocks, b, sealed)))
                    (Sp.m9 (nth t77 t79 (0, 0, [], [])) (rdown, rarmed, rafter, racut, rkeep, rbs, rws) (mf, mb, ms, ml)).snd.snd.snd ∧
                  bif
                      !Sp.eqL (Sp.lRecs (Sp.l9 (nth t77 t79 (0, 0, [], [])) (down, armed, after, acut, keep, bs, ws) (from_, blocks, b, sealed)))
                          (Sp.m9 (nth t77 t79 (0, 0, [], [])) (rdown, rarmed, rafter, racut, rkeep, rbs, rws) (mf, mb, ms, ml)).snd.snd.snd then
                    R false
                  else
                    bif
                        !decide
                            (Sp.lBytes (Sp.l9 (nth t77 t79 (0, 0, [], [])) (down, armed, after, acut, keep, bs, ws) (from_, blocks, b, sealed)) =
                              (↑(List.length (Sp.catB (Sp.m9 (nth t77 t79 (0, 0, [], [])) (rdown, rarmed, rafter, racut, rkeep, rbs, rws) (mf, mb, ms, ml)).snd.snd.snd)) : Int)) then
                      R false
                    else
                      bif
                          !decide
                              (Sp.lSealed (Sp.l9 (nth t77 t79 (0, 0, [], [])) (down, armed, after, acut, keep, bs, ws) (from_, blocks, b, sealed)) =
                                (↑(List.length
                                      (Sp.catB
                                        (sub (Sp.m9 (nth t77 t79 (0, 0, [], [])) (rdown, rarmed, rafter, racut, rkeep, rbs, rws) (mf, mb, ms, ml)).snd.snd.snd 0
                                          (Sp.m9 (nth t77 t79 (0, 0, [], [])) (rdown, rarmed, rafter, racut, rkeep, rbs, rws) (mf, mb, ms, ml)).snd.snd.fst))) :
                                  Int)) then
                        R false
                      else
                        Sp.lOk (Sp.l9 (nth t77 t79 (0, 0, [], [])) (down, armed, after, acut, keep, bs, ws) (from_, blocks, b, sealed)) ∧
                          Rg IntKind.i64 (256 * o) ∧
                            Rg IntKind.i64
                                (256 * o -
                                  (↑(List.length (Sp.catB (Sp.m9 (nth t77 t79 (0, 0, [], [])) (rdown, rarmed, rafter, racut, rkeep, rbs, rws) (mf, mb, ms, ml)).snd.snd.snd)) : Int)) ∧
                              bif
                                  !decide
                                      (Sp.lRoom (Sp.l9 (nth t77 t79 (0, 0, [], [])) (down, armed, after, acut, keep, bs, ws) (from_, blocks, b, sealed)) =
                                        256 * o -
                                          (↑(List.length (Sp.catB (Sp.m9 (nth t77 t79 (0, 0, [], [])) (rdown, rarmed, rafter, racut, rkeep, rbs, rws) (mf, mb, ms, ml)).snd.snd.snd)) :
                                            Int)) then
                                R false
                              else
                                Lp
                                  (fun v K =>
                                    rectolaw29_LogSteps.L1 R K0 v.fst v.snd.fst v.snd.snd.fst v.snd.snd.snd.fst v.snd.snd.snd.snd.fst v.snd.snd.snd.snd.snd.fst v.snd.snd.snd.snd.snd.snd.fst
                                      v.snd.snd.snd.snd.snd.snd.snd.fst v.snd.snd.snd.snd.snd.snd.snd.snd.fst v.snd.snd.snd.snd.snd.snd.snd.snd.snd.fst
                                      v.snd.snd.snd.snd.snd.snd.snd.snd.snd.snd.fst v.snd.snd.snd.snd.snd.snd.snd.snd.snd.snd.snd.fst v.snd.snd.snd.snd.snd.snd.snd.snd.snd.snd.snd.snd.fst
                                      v.snd.snd.snd.snd.snd.snd.snd.snd.snd.snd.snd.snd.snd.fst v.snd.snd.snd.snd.snd.snd.snd.snd.snd.snd.snd.snd.snd.snd.fst
                                      v.snd.snd.snd.snd.snd.snd.snd.snd.snd.snd.snd.snd.snd.snd.snd.fst v.snd.snd.snd.snd.snd.snd.snd.snd.snd.snd.snd.snd.snd.snd.snd.snd.fst
                                      v.snd.snd.snd.snd.snd.snd.snd.snd.snd.snd.snd.snd.snd.snd.snd.snd.snd.fst v.snd.snd.snd.snd.snd.snd.snd.snd.snd.snd.snd.snd.snd.snd.snd.snd.snd.snd.fst
                                      v.snd.snd.snd.snd.snd.snd.snd.snd.snd.snd.snd.snd.snd.snd.snd.snd.snd.snd.snd.fst
                                      v.snd.snd.snd.snd.snd.snd.snd.snd.snd.snd.snd.snd.snd.snd.snd.snd.snd.snd.snd.snd.fst
                                      v.snd.snd.snd.snd.snd.snd.snd.snd.snd.snd.snd.snd.snd.snd.snd.snd.snd.snd.snd.snd.snd.fst
                                      v.snd.snd.snd.snd.snd.snd.snd.snd.snd.snd.snd.snd.snd.snd.snd.snd.snd.snd.snd.snd.snd.snd.fst
                                      v.snd.snd.snd.snd.snd.snd.snd.snd.snd.snd.snd.snd.snd.snd.snd.snd.snd.snd.snd.snd.snd.snd.snd.fst
                                      v.snd.snd.snd.snd.snd.snd.snd.snd.snd.snd.snd.snd.snd.snd.snd.snd.snd.snd.snd.snd.snd.snd.snd.snd.fst
                                      v.snd.snd.snd.snd.snd.snd.snd.snd.snd.snd.snd.snd.snd.snd.snd.snd.snd.snd.snd.snd.snd.snd.snd.snd.snd.fst
                                      v.snd.snd.snd.snd.snd.snd.snd.snd.snd.snd.snd.snd.snd.snd.snd.snd.snd.snd.snd.snd.snd.snd.snd.snd.snd.snd.fst
                                      v.snd.snd.snd.snd.snd.snd.snd.snd.snd.snd.snd.snd.snd.snd.snd.snd.snd.snd.snd.snd.snd.snd.snd.snd.snd.snd.snd.fst K)
                                  (o, t77, t78, t79,
                                    (↑(Sp.w9 (nth t77 t79 (0, 0, [], [])) (rdown, rarmed, rafter, racut, rkeep, rbs, rws) (mf, mb, ms, ml)).snd.snd.snd.snd.snd.fst.length : Int), 0,
                                    (Sp.d9 (nth t77 t79 (0, 0, [], [])) (down, armed, after, acut, keep, bs, ws) (from_, blocks, b, sealed)).fst,
                                    (Sp.d9 (nth t77 t79 (0, 0, [], [])) (down, armed, after, acut, keep, bs, ws) (from_, blocks, b, sealed)).snd.fst,
                                    (Sp.d9 (nth t77 t79 (0, 0, [], [])) (down, armed, after, acut, keep, bs, ws) (from_, blocks, b, sealed)).snd.snd.fst,
                                    (Sp.d9 (nth t77 t79 (0, 0, [], [])) (down, armed, after, acut, keep, bs, ws) (from_, blocks, b, sealed)).snd.snd.snd.fst,
                                    (Sp.d9 (nth t77 t79 (0, 0, [], [])) (down, armed, after, acut, keep, bs, ws) (from_, blocks, b, sealed)).snd.snd.snd.snd.fst,
                                    (Sp.w9 (nth t77 t79 (0, 0, [], [])) (rdown, rarmed, rafter, racut, rkeep, rbs, rws) (mf, mb, ms, ml)).fst,
                                    (Sp.w9 (nth t77 t79 (0, 0, [], [])) (rdown, rarmed, rafter, racut, rkeep, rbs, rws) (mf, mb, ms, ml)).snd.fst,
                                    (Sp.w9 (nth t77 t79 (0, 0, [], [])) (rdown, rarmed, rafter, racut, rkeep, rbs, rws) (mf, mb, ms, ml)).snd.snd.fst,
                                    (Sp.w9 (nth t77 t79 (0, 0, [], [])) (rdown, rarmed, rafter, racut, rkeep, rbs, rws) (mf, mb, ms, ml)).snd.snd.snd.fst,
                                    (Sp.w9 (nth t77 t79 (0, 0, [], [])) (rdown, rarmed, rafter, racut, rkeep, rbs, rws) (mf, mb, ms, ml)).snd.snd.snd.snd.fst,
                                    (Sp.l9 (nth t77 t79 (0, 0, [], [])) (down, armed, after, acut, keep, bs, ws) (from_, blocks, b, sealed)).fst,
                                    (Sp.l9 (nth t77 t79 (0, 0, [], [])) (down, armed, after, acut, keep, bs, ws) (from_, blocks, b, sealed)).snd.fst,
                                    (Sp.l9 (nth t77 t79 (0, 0, [], [])) (down, armed, after, acut, keep, bs, ws) (from_, blocks, b, sealed)).snd.snd.fst,
                                    (Sp.l9 (nth t77 t79 (0, 0, [], [])) (down, armed, after, acut, keep, bs, ws) (from_, blocks, b, sealed)).snd.snd.snd,
                                    (Sp.m9 (nth t77 t79 (0, 0, [], [])) (rdown, rarmed, rafter, racut, rkeep, rbs, rws) (mf, mb, ms, ml)).fst,
                                    (Sp.m9 (nth t77 t79 (0, 0, [], [])) (rdown, rarmed, rafter, racut, rkeep, rbs, rws) (mf, mb, ms, ml)).snd.fst,
                                    (Sp.m9 (nth t77 t79 (0, 0, [], [])) (rdown, rarmed, rafter, racut, rkeep, rbs, rws) (mf, mb, ms, ml)).snd.snd.fst,
                                    (Sp.d9 (nth t77 t79 (0, 0, [], [])) (down, armed, after, acut, keep, bs, ws) (from_, blocks, b, sealed)).snd.snd.snd.snd.snd.fst,
                                    (Sp.d9 (nth t77 t79 (0, 0, [], [])) (down, armed, after, acut, keep, bs, ws) (from_, blocks, b, sealed)).snd.snd.snd.snd.snd.snd,
                                    (Sp.w9 (nth t77 t79 (0, 0, [], [])) (rdown, rarmed, rafter, racut, rkeep, rbs, rws) (mf, mb, ms, ml)).snd.snd.snd.snd.snd.fst,
                                    (Sp.w9 (nth t77 t79 (0, 0, [], [])) (rdown, rarmed, rafter, racut, rkeep, rbs, rws) (mf, mb, ms, ml)).snd.snd.snd.snd.snd.snd,
                                    (Sp.m9 (nth t77 t79 (0, 0, [], [])) (rdown, rarmed, rafter, racut, rkeep, rbs, rws) (mf, mb, ms, ml)).snd.snd.snd, ())
  else R Sp.tt
def rectolaw29_LogSteps.vc (R : Bool → Prop) (t : Int) (o : Int) (A : List (Int × Int × Str × List Int)) : Prop :=
  Sp.long29.pre A ∧
    bif Sp.long29 A then R Sp.tt
    else
      Sp.rNew.pre 8 ∧
        Sp.dPre9 (false, false, (Sp.dNew 8).snd.snd.fst, false, (Sp.dNew 8).snd.snd.snd.snd) ∧
          bif Sp.opNil t o 0 (false, false, (Sp.dNew 8).snd.snd.fst, false, (Sp.dNew 8).snd.snd.snd.snd) then
            Sp.roPre (t, o, 0) (false, false, (Sp.rNew 8).snd.snd.fst, false, (Sp.rNew 8).snd.snd.snd.snd) ∧
              bif Sp.roNil (t, o, 0) (false, false, (Sp.rNew 8).snd.snd.fst, false, (Sp.rNew 8).snd.snd.snd.snd) then
                bif
                    !decide
                        (Sp.opErr t o 0 (false, false, (Sp.dNew 8).snd.snd.fst, false, (Sp.dNew 8).snd.snd.snd.snd) =
                          Sp.roErr (t, o, 0) (false, false, (Sp.rNew 8).snd.snd.fst, false, (Sp.rNew 8).snd.snd.snd.snd)) then
                  R false
                else R Sp.tt
              else bif !decide (Sp.opErr t o 0 (false, false, (Sp.dNew 8).snd.snd.fst, false, (Sp.dNew 8).snd.snd.snd.snd) = 0) then R false else R false
          else
            Sp.roPre (t, o, 0) (false, false, (Sp.rNew 8).snd.snd.fst, false, (Sp.rNew 8).snd.snd.snd.snd) ∧
              bif Sp.roNil (t, o, 0) (false, false, (Sp.rNew 8).snd.snd.fst, false, (Sp.rNew 8).snd.snd.snd.snd) then
                bif !decide (0 = Sp.roErr (t, o, 0) (false, false, (Sp.rNew 8).snd.snd.fst, false, (Sp.rNew 8).snd.snd.snd.snd)) then R false else R false
              else
                Lp
                  (fun v K =>
                    rectolaw29_LogSteps.L0 R v.fst v.snd.fst v.snd.snd.fst v.snd.snd.snd.fst v.snd.snd.snd.snd.fst v.snd.snd.snd.snd.snd.fst v.snd.snd.snd.snd.snd.snd.fst
                      v.snd.snd.snd.snd.snd.snd.snd.fst v.snd.snd.snd.snd.snd.snd.snd.snd.fst v.snd.snd.snd.snd.snd.snd.snd.snd.snd.fst v.snd.snd.snd.snd.snd.snd.snd.snd.snd.snd.fst
                      v.snd.snd.snd.snd.snd.snd.snd.snd.snd.snd.snd.fst v.snd.snd.snd.snd.snd.snd.snd.snd.snd.snd.snd.snd.fst v.snd.snd.snd.snd.snd.snd.snd.snd.snd.snd.snd.snd.snd.fst
                      v.snd.snd.snd.snd.snd.snd.snd.snd.snd.snd.snd.snd.snd.snd.fst v.snd.snd.snd.snd.snd.snd.snd.snd.snd.snd.snd.snd.snd.snd.snd.fst
                      v.snd.snd.snd.snd.snd.snd.snd.snd.snd.snd.snd.snd.snd.snd.snd.snd.fst v.snd.snd.snd.snd.snd.snd.snd.snd.snd.snd.snd.snd.snd.snd.snd.snd.snd.fst
                      v.snd.snd.snd.snd.snd.snd.snd.snd.snd.snd.snd.snd.snd.snd.snd.snd.snd.snd.fst v.snd.snd.snd.snd.snd.snd.snd.snd.snd.snd.snd.snd.snd.snd.snd.snd.snd.snd.snd.fst
                      v.snd.snd.snd.snd.snd.snd.snd.snd.snd.snd.snd.snd.snd.snd.snd.snd.snd.snd.snd.snd.fst
                      v.snd.snd.snd.snd.snd.snd.snd.snd.snd.snd.snd.snd.snd.snd.snd.snd.snd.snd.snd.snd.snd.fst
                      v.snd.snd.snd.snd.snd.snd.snd.snd.snd.snd.snd.snd.snd.snd.snd.snd.snd.snd.snd.snd.snd.snd.fst
                      v.snd.snd.snd.snd.snd.snd.snd.snd.snd.snd.snd.snd.snd.snd.snd.snd.snd.snd.snd.snd.snd.snd.snd.fst
                      v.snd.snd.snd.snd.snd.snd.snd.snd.snd.snd.snd.snd.snd.snd.snd.snd.snd.snd.snd.snd.snd.snd.snd.snd.fst
                      v.snd.snd.snd.snd.snd.snd.snd.snd.snd.snd.snd.snd.snd.snd.snd.snd.snd.snd.snd.snd.snd.snd.snd.snd.snd.fst K)
                  (o, A, (↑A.length : Int), 0, false, false, (Sp.dNew 8).snd.snd.fst, false, (Sp.dNew 8).snd.snd.snd.snd.fst, false, false, (Sp.rNew 8).snd.snd.fst, false,
                    (Sp.rNew 8).snd.snd.snd.snd.fst, t, o, Sp.opS t 0 (false, false, (Sp.dNew 8).snd.snd.fst, false, (Sp.dNew 8).snd.snd.snd.snd), 0, t, o,
                    (↑(Sp.roL (t, o, 0) (false, false, (Sp.rNew 8).snd.snd.fst, false, (Sp.rNew 8).snd.snd.snd.snd)).length : Int), (Sp.dNew 8).snd.snd.snd.snd.snd.fst,
                    (Sp.dNew 8).snd.snd.snd.snd.snd.snd, (Sp.rNew 8).snd.snd.snd.snd.snd.fst, (Sp.rNew 8).snd.snd.snd.snd.snd.snd,
                    Sp.roL (t, o, 0) (false, false, (Sp.rNew 8).snd.snd.fst, false, (Sp.rNew 8).snd.snd.snd.snd), ())

