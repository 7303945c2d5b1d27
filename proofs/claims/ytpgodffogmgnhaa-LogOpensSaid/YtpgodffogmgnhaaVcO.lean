/- Conditions of functions. Written by a program of this session. -/
import Derived.Test.YtpgodffogmgnhaaSpO
set_option linter.unnecessarySimpa false
set_option linter.unusedVariables false
set_option linter.unusedSectionVars false
set_option linter.unusedSimpArgs false
set_option autoImplicit false
set_option linter.unusedVariables false
open Go Vi

def rectoref29_Of.L0 (R : List (List UInt8) × Bool →
  Prop) (rest : List
  UInt8) (t2_Ok : Bool) (t2_L : List
  (List UInt8)) (out_Ok : Bool) (out_L : List (List UInt8)) (K0 : List UInt8 × Bool × List (List UInt8) × Bool × List (List UInt8) × Unit → Prop) : Prop :=
  bif !decide (rest = []) then
    Sp.takenT.pre rest ∧
      bif !decide ((Sp.takenT rest).snd.snd.snd.snd = 0) then R ([], false)
      else Gr out_L.length 1 16 ∧ K0 ((Sp.takenT rest).snd.snd.snd.fst, t2_Ok, t2_L, out_Ok, out_L ++ [(Sp.takenT rest).snd.fst], ())
  else R (out_L, out_Ok)
def rectoref29_Of.vc (R : List (List UInt8) × Bool → Prop) (b : Str) : Prop :=
  Lp (fun v K => rectoref29_Of.L0 R v.fst v.snd.fst v.snd.snd.fst v.snd.snd.snd.fst v.snd.snd.snd.snd.fst K) (b, false, [], true, [], ())

def rectoref29_Open.L0 (R0 : Int →
  Bool →
    Bool →
      Int →
        Bool →
          List Int →
            List (List UInt8) →
              List (Int × List UInt8) →
                Prop) (R1 : Int →
  Bool →
    Bool →
      Int →
        Bool →
          List Int →
            List (List UInt8) →
              List (Int × List UInt8) →
                Int →
                  Int →
                    List (List UInt8) →
                      Int →
                        Prop) (all : List
  UInt8) (i : Int) (rdown : Bool) (rarmed : Bool) (rafter : Int) (racut : Bool) (rkeep : List
  Int) (rbs : List
  (List
    UInt8)) (rws : List
  (Int ×
    List
      UInt8)) (r_From : Int) (r_Blocks : Int) (r_Sealed : Int) (t4_Err : Int) (K0 : List UInt8 ×
    Int × Bool × Bool × Int × Bool × List Int × List (List UInt8) × List (Int × List UInt8) × Int × Int × Int × Int × Unit →
  Prop) : Prop :=
  bif decide ((↑all.length : Int) < r_Sealed) then
    Sp.rPre (rdown, rarmed, rafter, racut, rkeep, rbs, rws) ∧
      bif !decide ((Sp.rRead i (rdown, rarmed, rafter, racut, rkeep, rbs, rws)).snd = 0) then
        R0 (Sp.rRead i (rdown, rarmed, rafter, racut, rkeep, rbs, rws)).snd rdown rarmed rafter racut rkeep rbs rws
      else
        (↑all.length : Int) + (↑(List.length (Sp.rRead i (rdown, rarmed, rafter, racut, rkeep, rbs, rws)).fst) : Int) ≤ 9223372036854775807 ∧
          Rg IntKind.i64 (i + 1) ∧
            K0 (all ++ (Sp.rRead i (rdown, rarmed, rafter, racut, rkeep, rbs, rws)).fst, i + 1, rdown, rarmed, rafter, racut, rkeep, rbs, rws, r_From, r_Blocks, r_Sealed, t4_Err, ())
  else
    Sb 0 r_Sealed all.length ∧
      Sp.ofB.pre (sub all 0 r_Sealed) ∧
        bif !(Sp.ofB (sub all 0 r_Sealed)).snd then R0 290 rdown rarmed rafter racut rkeep rbs rws
        else R1 0 rdown rarmed rafter racut rkeep rbs rws r_From r_Blocks (Sp.ofB (sub all 0 r_Sealed)).fst (↑(List.length (Sp.ofB (sub all 0 r_Sealed)).fst) : Int)
def rectoref29_Open.vc (R0 : Int →
  Bool →
    Bool →
      Int →
        Bool →
          List Int →
            List (List UInt8) →
              List (Int × List UInt8) →
                Prop) (R1 : Int →
  Bool →
    Bool →
      Int →
        Bool →
          List Int →
            List (List UInt8) →
              List (Int × List UInt8) →
                Int →
                  Int →
                    List (List UInt8) →
                      Int → Prop) (q : Int × Int × Int) (rdown : Bool) (rarmed : Bool) (rafter : Int) (racut : Bool) (rkeep : List Int) (rbs : List Str) (rws : List (Int × Str)) : Prop :=
  bif decide (q.fst < 0) then R0 1 rdown rarmed rafter racut rkeep rbs rws
  else
    bif decide (q.snd.fst < 1) then R0 1 rdown rarmed rafter racut rkeep rbs rws
    else
      bif decide ((↑rbs.length : Int) < q.snd.fst) then R0 1 rdown rarmed rafter racut rkeep rbs rws
      else
        Rg IntKind.i64 ((↑rbs.length : Int) - q.snd.fst) ∧
          bif decide ((↑rbs.length : Int) - q.snd.fst < q.fst) then R0 1 rdown rarmed rafter racut rkeep rbs rws
          else
            bif decide (q.snd.snd < 0) then R0 1 rdown rarmed rafter racut rkeep rbs rws
            else
              Rg IntKind.i64 (256 * q.snd.fst) ∧
                bif decide (256 * q.snd.fst < q.snd.snd) then R0 1 rdown rarmed rafter racut rkeep rbs rws
                else
                  Lp
                    (fun v K =>
                      rectoref29_Open.L0 R0 R1 v.fst v.snd.fst v.snd.snd.fst v.snd.snd.snd.fst v.snd.snd.snd.snd.fst v.snd.snd.snd.snd.snd.fst v.snd.snd.snd.snd.snd.snd.fst
                        v.snd.snd.snd.snd.snd.snd.snd.fst v.snd.snd.snd.snd.snd.snd.snd.snd.fst v.snd.snd.snd.snd.snd.snd.snd.snd.snd.fst v.snd.snd.snd.snd.snd.snd.snd.snd.snd.snd.fst
                        v.snd.snd.snd.snd.snd.snd.snd.snd.snd.snd.snd.fst v.snd.snd.snd.snd.snd.snd.snd.snd.snd.snd.snd.snd.fst K)
                    ([], q.fst, rdown, rarmed, rafter, racut, rkeep, rbs, rws, q.fst, q.snd.fst, q.snd.snd, 0, ())

def rectolaw29_LogOpens.L1 (R : Bool →
  Prop) (K0 : List UInt8 ×
    Int ×
      Int ×
        Int ×
          Bool ×
            Bool ×
              Int × Bool × List Int × List (List (List UInt8)) × List (Int × List (List UInt8)) × Bool × Bool × Int × Bool × List Int × List (List UInt8) × List (Int × List UInt8) × Unit →
  Prop) (b : List
  UInt8) (from_ : Int) (sealed : Int) (i : Int) (s : List
  UInt8) (d_down : Bool) (d_armed : Bool) (d_after : Int) (d_acut : Bool) (d_keep : List
  Int) (d_bs : List
  (List
    (List
      UInt8))) (d_ws : List
  (Int ×
    List
      (List
        UInt8))) (w_rdown : Bool) (w_rarmed : Bool) (w_rafter : Int) (w_racut : Bool) (w_rkeep : List
  Int) (w_rbs : List
  (List
    UInt8)) (w_rws : List
  (Int ×
    List
      UInt8)) (K1 : List UInt8 ×
    Int ×
      Int ×
        Int ×
          List UInt8 ×
            Bool ×
              Bool ×
                Int ×
                  Bool × List Int × List (List (List UInt8)) × List (Int × List (List UInt8)) × Bool × Bool × Int × Bool × List Int × List (List UInt8) × List (Int × List UInt8) × Unit →
  Prop) : Prop :=
  bif decide ((↑s.length : Int) < 256) then
    (↑s.length : Int) + (↑1 : Int) ≤ 9223372036854775807 ∧
      K1 (b, from_, sealed, i, s ++ [0], d_down, d_armed, d_after, d_acut, d_keep, d_bs, d_ws, w_rdown, w_rarmed, w_rafter, w_racut, w_rkeep, w_rbs, w_rws, ())
  else
    Rg IntKind.i64 (2 + i) ∧
      Sp.dWrite.pre (2 + i) s (d_down, d_armed, d_after, d_acut, d_keep, d_bs, d_ws) ∧
        bif !decide ((Sp.dWrite (2 + i) s (d_down, d_armed, d_after, d_acut, d_keep, d_bs, d_ws)).snd = 0) then R false
        else
          Rg IntKind.i64 (2 + i) ∧
            Sp.rWrite.pre (2 + i) s (w_rdown, w_rarmed, w_rafter, w_racut, w_rkeep, w_rbs, w_rws) ∧
              bif !decide ((Sp.rWrite (2 + i) s (w_rdown, w_rarmed, w_rafter, w_racut, w_rkeep, w_rbs, w_rws)).snd = 0) then R false
              else
                Rg IntKind.i64 (i + 1) ∧
                  K0
                    (b, from_, sealed, i + 1, (Sp.dWrite (2 + i) s (d_down, d_armed, d_after, d_acut, d_keep, d_bs, d_ws)).fst.fst,
                      (Sp.dWrite (2 + i) s (d_down, d_armed, d_after, d_acut, d_keep, d_bs, d_ws)).fst.snd.fst,
                      (Sp.dWrite (2 + i) s (d_down, d_armed, d_after, d_acut, d_keep, d_bs, d_ws)).fst.snd.snd.fst,
                      (Sp.dWrite (2 + i) s (d_down, d_armed, d_after, d_acut, d_keep, d_bs, d_ws)).fst.snd.snd.snd.fst,
                      (Sp.dWrite (2 + i) s (d_down, d_armed, d_after, d_acut, d_keep, d_bs, d_ws)).fst.snd.snd.snd.snd.fst,
                      (Sp.dWrite (2 + i) s (d_down, d_armed, d_after, d_acut, d_keep, d_bs, d_ws)).fst.snd.snd.snd.snd.snd.fst,
                      (Sp.dWrite (2 + i) s (d_down, d_armed, d_after, d_acut, d_keep, d_bs, d_ws)).fst.snd.snd.snd.snd.snd.snd,
                      (Sp.rWrite (2 + i) s (w_rdown, w_rarmed, w_rafter, w_racut, w_rkeep, w_rbs, w_rws)).fst.fst,
                      (Sp.rWrite (2 + i) s (w_rdown, w_rarmed, w_rafter, w_racut, w_rkeep, w_rbs, w_rws)).fst.snd.fst,
                      (Sp.rWrite (2 + i) s (w_rdown, w_rarmed, w_rafter, w_racut, w_rkeep, w_rbs, w_rws)).fst.snd.snd.fst,
                      (Sp.rWrite (2 + i) s (w_rdown, w_rarmed, w_rafter, w_racut, w_rkeep, w_rbs, w_rws)).fst.snd.snd.snd.fst,
                      (Sp.rWrite (2 + i) s (w_rdown, w_rarmed, w_rafter, w_racut, w_rkeep, w_rbs, w_rws)).fst.snd.snd.snd.snd.fst,
                      (Sp.rWrite (2 + i) s (w_rdown, w_rarmed, w_rafter, w_racut, w_rkeep, w_rbs, w_rws)).fst.snd.snd.snd.snd.snd.fst,
                      (Sp.rWrite (2 + i) s (w_rdown, w_rarmed, w_rafter, w_racut, w_rkeep, w_rbs, w_rws)).fst.snd.snd.snd.snd.snd.snd, ())
def rectolaw29_LogOpens.L2 (R : Bool →
  Prop) (K0 : List UInt8 ×
    Int ×
      Int ×
        Int ×
          Bool ×
            Bool ×
              Int × Bool × List Int × List (List (List UInt8)) × List (Int × List (List UInt8)) × Bool × Bool × Int × Bool × List Int × List (List UInt8) × List (Int × List UInt8) × Unit →
  Prop) (x20 : List
  UInt8) (x21 : Int) (x22 : Int) (x23 : Int) (x24 : List
  UInt8) (x25 : Bool) (x26 : Bool) (x27 : Int) (x28 : Bool) (x29 : List
  Int) (x210 : List
  (List
    (List
      UInt8))) (x211 : List
  (Int ×
    List
      (List
        UInt8))) (x212 : Bool) (x213 : Bool) (x214 : Int) (x215 : Bool) (x216 : List
  Int) (x217 : List
  (List
    UInt8)) (x218 : List
  (Int ×
    List
      UInt8)) (K2 : List UInt8 ×
    Int ×
      Int ×
        Int ×
          List UInt8 ×
            Bool ×
              Bool ×
                Int ×
                  Bool × List Int × List (List (List UInt8)) × List (Int × List (List UInt8)) × Bool × Bool × Int × Bool × List Int × List (List UInt8) × List (Int × List UInt8) × Unit →
  Prop) : Prop :=
  bif decide ((↑x24.length : Int) < 256) then
    (↑x24.length : Int) + (↑1 : Int) ≤ 9223372036854775807 ∧ K2 (x20, x21, x22, x23, x24 ++ [0], x25, x26, x27, x28, x29, x210, x211, x212, x213, x214, x215, x216, x217, x218, ())
  else
    Rg IntKind.i64 (2 + x23) ∧
      Sp.dWrite.pre (2 + x23) x24 (x25, x26, x27, x28, x29, x210, x211) ∧
        bif !decide ((Sp.dWrite (2 + x23) x24 (x25, x26, x27, x28, x29, x210, x211)).snd = 0) then R false
        else
          Rg IntKind.i64 (2 + x23) ∧
            Sp.rWrite.pre (2 + x23) x24 (x212, x213, x214, x215, x216, x217, x218) ∧
              bif !decide ((Sp.rWrite (2 + x23) x24 (x212, x213, x214, x215, x216, x217, x218)).snd = 0) then R false
              else
                Rg IntKind.i64 (x23 + 1) ∧
                  K0
                    (x20, x21, x22, x23 + 1, (Sp.dWrite (2 + x23) x24 (x25, x26, x27, x28, x29, x210, x211)).fst.fst,
                      (Sp.dWrite (2 + x23) x24 (x25, x26, x27, x28, x29, x210, x211)).fst.snd.fst, (Sp.dWrite (2 + x23) x24 (x25, x26, x27, x28, x29, x210, x211)).fst.snd.snd.fst,
                      (Sp.dWrite (2 + x23) x24 (x25, x26, x27, x28, x29, x210, x211)).fst.snd.snd.snd.fst,
                      (Sp.dWrite (2 + x23) x24 (x25, x26, x27, x28, x29, x210, x211)).fst.snd.snd.snd.snd.fst,
                      (Sp.dWrite (2 + x23) x24 (x25, x26, x27, x28, x29, x210, x211)).fst.snd.snd.snd.snd.snd.fst,
                      (Sp.dWrite (2 + x23) x24 (x25, x26, x27, x28, x29, x210, x211)).fst.snd.snd.snd.snd.snd.snd,
                      (Sp.rWrite (2 + x23) x24 (x212, x213, x214, x215, x216, x217, x218)).fst.fst, (Sp.rWrite (2 + x23) x24 (x212, x213, x214, x215, x216, x217, x218)).fst.snd.fst,
                      (Sp.rWrite (2 + x23) x24 (x212, x213, x214, x215, x216, x217, x218)).fst.snd.snd.fst,
                      (Sp.rWrite (2 + x23) x24 (x212, x213, x214, x215, x216, x217, x218)).fst.snd.snd.snd.fst,
                      (Sp.rWrite (2 + x23) x24 (x212, x213, x214, x215, x216, x217, x218)).fst.snd.snd.snd.snd.fst,
                      (Sp.rWrite (2 + x23) x24 (x212, x213, x214, x215, x216, x217, x218)).fst.snd.snd.snd.snd.snd.fst,
                      (Sp.rWrite (2 + x23) x24 (x212, x213, x214, x215, x216, x217, x218)).fst.snd.snd.snd.snd.snd.snd, ())
def rectolaw29_LogOpens.L0 (R : Bool →
  Prop) (b : List
  UInt8) (from_ : Int) (sealed : Int) (i : Int) (d_down : Bool) (d_armed : Bool) (d_after : Int) (d_acut : Bool) (d_keep : List
  Int) (d_bs : List
  (List
    (List
      UInt8))) (d_ws : List
  (Int ×
    List
      (List
        UInt8))) (w_rdown : Bool) (w_rarmed : Bool) (w_rafter : Int) (w_racut : Bool) (w_rkeep : List
  Int) (w_rbs : List
  (List
    UInt8)) (w_rws : List
  (Int ×
    List
      UInt8)) (K0 : List UInt8 ×
    Int ×
      Int ×
        Int ×
          Bool ×
            Bool ×
              Int × Bool × List Int × List (List (List UInt8)) × List (Int × List (List UInt8)) × Bool × Bool × Int × Bool × List Int × List (List UInt8) × List (Int × List UInt8) × Unit →
  Prop) : Prop :=
  Rg IntKind.i64 (256 * i) ∧
    bif decide (256 * i < (↑b.length : Int)) then
      Rg IntKind.i64 (256 * i) ∧
        Sb (256 * i) (↑b.length : Int) b.length ∧
          bif decide (256 < (↑(sub b (256 * i) (↑b.length : Int)).length : Int)) then
            Sb 0 256 (sub b (256 * i) (↑b.length : Int)).length ∧
              Lp
                (fun v K =>
                  rectolaw29_LogOpens.L1 R K0 v.fst v.snd.fst v.snd.snd.fst v.snd.snd.snd.fst v.snd.snd.snd.snd.fst v.snd.snd.snd.snd.snd.fst v.snd.snd.snd.snd.snd.snd.fst
                    v.snd.snd.snd.snd.snd.snd.snd.fst v.snd.snd.snd.snd.snd.snd.snd.snd.fst v.snd.snd.snd.snd.snd.snd.snd.snd.snd.fst v.snd.snd.snd.snd.snd.snd.snd.snd.snd.snd.fst
                    v.snd.snd.snd.snd.snd.snd.snd.snd.snd.snd.snd.fst v.snd.snd.snd.snd.snd.snd.snd.snd.snd.snd.snd.snd.fst v.snd.snd.snd.snd.snd.snd.snd.snd.snd.snd.snd.snd.snd.fst
                    v.snd.snd.snd.snd.snd.snd.snd.snd.snd.snd.snd.snd.snd.snd.fst v.snd.snd.snd.snd.snd.snd.snd.snd.snd.snd.snd.snd.snd.snd.snd.fst
                    v.snd.snd.snd.snd.snd.snd.snd.snd.snd.snd.snd.snd.snd.snd.snd.snd.fst v.snd.snd.snd.snd.snd.snd.snd.snd.snd.snd.snd.snd.snd.snd.snd.snd.snd.fst
                    v.snd.snd.snd.snd.snd.snd.snd.snd.snd.snd.snd.snd.snd.snd.snd.snd.snd.snd.fst K)
                (b, from_, sealed, i, sub (sub b (256 * i) (↑b.length : Int)) 0 256, d_down, d_armed, d_after, d_acut, d_keep, d_bs, d_ws, w_rdown, w_rarmed, w_rafter, w_racut, w_rkeep,
                  w_rbs, w_rws, ())
          else
            Lp
              (fun v K =>
                rectolaw29_LogOpens.L2 R K0 v.fst v.snd.fst v.snd.snd.fst v.snd.snd.snd.fst v.snd.snd.snd.snd.fst v.snd.snd.snd.snd.snd.fst v.snd.snd.snd.snd.snd.snd.fst
                  v.snd.snd.snd.snd.snd.snd.snd.fst v.snd.snd.snd.snd.snd.snd.snd.snd.fst v.snd.snd.snd.snd.snd.snd.snd.snd.snd.fst v.snd.snd.snd.snd.snd.snd.snd.snd.snd.snd.fst
                  v.snd.snd.snd.snd.snd.snd.snd.snd.snd.snd.snd.fst v.snd.snd.snd.snd.snd.snd.snd.snd.snd.snd.snd.snd.fst v.snd.snd.snd.snd.snd.snd.snd.snd.snd.snd.snd.snd.snd.fst
                  v.snd.snd.snd.snd.snd.snd.snd.snd.snd.snd.snd.snd.snd.snd.fst v.snd.snd.snd.snd.snd.snd.snd.snd.snd.snd.snd.snd.snd.snd.snd.fst
                  v.snd.snd.snd.snd.snd.snd.snd.snd.snd.snd.snd.snd.snd.snd.snd.snd.fst v.snd.snd.snd.snd.snd.snd.snd.snd.snd.snd.snd.snd.snd.snd.snd.snd.snd.fst
                  v.snd.snd.snd.snd.snd.snd.snd.snd.snd.snd.snd.snd.snd.snd.snd.snd.snd.snd.fst K)
              (b, from_, sealed, i, sub b (256 * i) (↑b.length : Int), d_down, d_armed, d_after, d_acut, d_keep, d_bs, d_ws, w_rdown, w_rarmed, w_rafter, w_racut, w_rkeep, w_rbs, w_rws, ())
    else
      Sp.dPre9 (d_down, d_armed, d_after, d_acut, d_keep, d_bs, d_ws) ∧
        bif Sp.opNil from_ 4 sealed (d_down, d_armed, d_after, d_acut, d_keep, d_bs, d_ws) then
          Sp.roPre (from_, 4, sealed) (w_rdown, w_rarmed, w_rafter, w_racut, w_rkeep, w_rbs, w_rws) ∧
            bif Sp.roNil (from_, 4, sealed) (w_rdown, w_rarmed, w_rafter, w_racut, w_rkeep, w_rbs, w_rws) then
              bif
                  !decide
                      (Sp.opErr from_ 4 sealed (d_down, d_armed, d_after, d_acut, d_keep, d_bs, d_ws) =
                        Sp.roErr (from_, 4, sealed) (w_rdown, w_rarmed, w_rafter, w_racut, w_rkeep, w_rbs, w_rws)) then
                R false
              else R Sp.tt
            else bif !decide (Sp.opErr from_ 4 sealed (d_down, d_armed, d_after, d_acut, d_keep, d_bs, d_ws) = 0) then R false else R false
        else
          Sp.roPre (from_, 4, sealed) (w_rdown, w_rarmed, w_rafter, w_racut, w_rkeep, w_rbs, w_rws) ∧
            bif Sp.roNil (from_, 4, sealed) (w_rdown, w_rarmed, w_rafter, w_racut, w_rkeep, w_rbs, w_rws) then
              bif !decide (0 = Sp.roErr (from_, 4, sealed) (w_rdown, w_rarmed, w_rafter, w_racut, w_rkeep, w_rbs, w_rws)) then R false else R false
            else
              Sp.lOk (from_, 4, Sp.opS from_ sealed (d_down, d_armed, d_after, d_acut, d_keep, d_bs, d_ws), sealed) ∧
                Sp.eqL.pre (Sp.lRecs (from_, 4, Sp.opS from_ sealed (d_down, d_armed, d_after, d_acut, d_keep, d_bs, d_ws), sealed))
                    (Sp.roL (from_, 4, sealed) (w_rdown, w_rarmed, w_rafter, w_racut, w_rkeep, w_rbs, w_rws)) ∧
                  bif
                      Sp.eqL (Sp.lRecs (from_, 4, Sp.opS from_ sealed (d_down, d_armed, d_after, d_acut, d_keep, d_bs, d_ws), sealed))
                        (Sp.roL (from_, 4, sealed) (w_rdown, w_rarmed, w_rafter, w_racut, w_rkeep, w_rbs, w_rws)) then
                    bif decide (Sp.lSealed (from_, 4, Sp.opS from_ sealed (d_down, d_armed, d_after, d_acut, d_keep, d_bs, d_ws), sealed) = sealed) then R Sp.tt else R false
                  else R false
def rectolaw29_LogOpens.vc (R : Bool → Prop) (b : Str) (from_ : Int) (sealed : Int) : Prop :=
  bif decide (1024 < (↑(List.length b) : Int)) then R Sp.tt
  else
    Sp.rNew.pre 6 ∧
      Lp
        (fun v K =>
          rectolaw29_LogOpens.L0 R v.fst v.snd.fst v.snd.snd.fst v.snd.snd.snd.fst v.snd.snd.snd.snd.fst v.snd.snd.snd.snd.snd.fst v.snd.snd.snd.snd.snd.snd.fst
            v.snd.snd.snd.snd.snd.snd.snd.fst v.snd.snd.snd.snd.snd.snd.snd.snd.fst v.snd.snd.snd.snd.snd.snd.snd.snd.snd.fst v.snd.snd.snd.snd.snd.snd.snd.snd.snd.snd.fst
            v.snd.snd.snd.snd.snd.snd.snd.snd.snd.snd.snd.fst v.snd.snd.snd.snd.snd.snd.snd.snd.snd.snd.snd.snd.fst v.snd.snd.snd.snd.snd.snd.snd.snd.snd.snd.snd.snd.snd.fst
            v.snd.snd.snd.snd.snd.snd.snd.snd.snd.snd.snd.snd.snd.snd.fst v.snd.snd.snd.snd.snd.snd.snd.snd.snd.snd.snd.snd.snd.snd.snd.fst
            v.snd.snd.snd.snd.snd.snd.snd.snd.snd.snd.snd.snd.snd.snd.snd.snd.fst v.snd.snd.snd.snd.snd.snd.snd.snd.snd.snd.snd.snd.snd.snd.snd.snd.snd.fst K)
        (b, from_, sealed, 0, false, false, (Sp.dNew 6).snd.snd.fst, false, (Sp.dNew 6).snd.snd.snd.snd.fst, (Sp.dNew 6).snd.snd.snd.snd.snd.fst, (Sp.dNew 6).snd.snd.snd.snd.snd.snd, false,
          false, (Sp.rNew 6).snd.snd.fst, false, (Sp.rNew 6).snd.snd.snd.snd.fst, (Sp.rNew 6).snd.snd.snd.snd.snd.fst, (Sp.rNew 6).snd.snd.snd.snd.snd.snd, ())

