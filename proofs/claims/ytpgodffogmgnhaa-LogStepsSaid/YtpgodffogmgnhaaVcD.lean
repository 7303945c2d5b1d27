/- Conditions of functions. Written by a program of this session. -/
import Derived.Test.YtpgodffogmgnhaaSpD
set_option linter.unnecessarySimpa false
set_option linter.unusedVariables false
set_option linter.unusedSectionVars false
set_option linter.unusedSimpArgs false
set_option autoImplicit false
set_option linter.unusedVariables false
open Go Vi

def slices_Repeat_disk_block_disk_block.L0 (R : List (List (List UInt8)) →
  Prop) (n : Int) (newslice : List (List (List UInt8))) (K0 : Int × List (List (List UInt8)) × Unit → Prop) : Prop :=
  bif decide (n < (↑newslice.length : Int)) then
    Sb n (↑newslice.length : Int) newslice.length ∧
      Sb 0 n newslice.length ∧
        Rg IntKind.i64 (n + cpN n (↑newslice.length : Int) (sub newslice 0 n)) ∧
          K0 (n + cpN n (↑newslice.length : Int) (sub newslice 0 n), cpL n (↑newslice.length : Int) newslice (sub newslice 0 n), ())
  else R newslice
def slices_Repeat_disk_block_disk_block.vc (R : List (List (List UInt8)) → Prop) (x : List (List Str)) (count : Int) : Prop :=
  bif decide (count < 0) then False
  else
    bif decide (0 < (Sp.mulU (IntKind.u64.wrap (↑x.length : Int)) (IntKind.u64.wrap count)).fst) then False
    else
      bif decide (9223372036854775807 < (Sp.mulU (IntKind.u64.wrap (↑x.length : Int)) (IntKind.u64.wrap count)).snd) then False
      else
        Mk (IntKind.i64.wrap (Sp.mulU (IntKind.u64.wrap (↑x.length : Int)) (IntKind.u64.wrap count)).snd)
            (IntKind.i64.wrap (Sp.mulU (IntKind.u64.wrap (↑x.length : Int)) (IntKind.u64.wrap count)).snd) 64 ∧
          Lp (fun v K => slices_Repeat_disk_block_disk_block.L0 R v.fst v.snd.fst K)
            (cpN 0 (↑(rep (IntKind.i64.wrap (Sp.mulU (IntKind.u64.wrap (↑x.length : Int)) (IntKind.u64.wrap count)).snd) (List.replicate 4 ([] : List UInt8))).length : Int) x,
              cpL 0 (↑(rep (IntKind.i64.wrap (Sp.mulU (IntKind.u64.wrap (↑x.length : Int)) (IntKind.u64.wrap count)).snd) (List.replicate 4 ([] : List UInt8))).length : Int)
                (rep (IntKind.i64.wrap (Sp.mulU (IntKind.u64.wrap (↑x.length : Int)) (IntKind.u64.wrap count)).snd) (List.replicate 4 ([] : List UInt8))) x,
              ())

def disk_cut.L0 (R : List (List UInt8) →
  Prop) (s : List UInt8) (t5 : Int) (t2 : List (List UInt8)) (b : List (List UInt8)) (K0 : List UInt8 × Int × List (List UInt8) × List (List UInt8) × Unit → Prop) : Prop :=
  bif decide (t5 < 4) then
    Rg IntKind.i64 (t5 * 64) ∧
      Rg IntKind.i64 (t5 + 1) ∧
        Rg IntKind.i64 ((t5 + 1) * 64) ∧
          Sb (t5 * 64) ((t5 + 1) * 64) s.length ∧
            Ln 4 b.length ∧ Ix t5 4 ∧ Ix t5 b.length ∧ Rg IntKind.i64 (t5 + 1) ∧ K0 (s, t5 + 1, t2, b.set t5.toNat (sub s (t5 * 64) ((t5 + 1) * 64)), ())
  else Ln 4 b.length ∧ Ln 4 t2.length ∧ Ln 4 b.length ∧ R b
def disk_cut.vc (R : List (List UInt8) → Prop) (s : Str) : Prop :=
  Lp (fun v K => disk_cut.L0 R v.fst v.snd.fst v.snd.snd.fst v.snd.snd.snd.fst K) (s, 0, List.replicate 4 [], List.replicate 4 [], ())

def disk_block_text.vc (R : List UInt8 → Prop) (b : List Str) : Prop :=
  Ln 4 b.length ∧ Sb 0 (↑4 : Int) 4 ∧ Sp.joinE.pre (sub b 0 (↑4 : Int)) [] ∧ R (Sp.joinE (sub b 0 (↑4 : Int)) [])

def disk_New.vc (R0 : Int → Prop) (R1 : Int → Bool → Bool → Int → Bool → List Int → List (List (List UInt8)) → List (Int × List (List UInt8)) → Prop) (blocks : Int) : Prop :=
  bif decide (blocks < 4) then R0 1
  else
    bif decide (128 < blocks) then R0 1
    else
      Sp.repS.pre [0] 256 ∧
        Sp.cutB.pre (Sp.repS [0] 256) ∧ Ln 4 4 ∧ Ln 4 4 ∧ Sp.repL.pre [Sp.cutB (Sp.repS [0] 256)] blocks ∧ R1 0 false false 0 false [] (Sp.repL [Sp.cutB (Sp.repS [0] 256)] blocks) []

def disk_Disk_Blocks.vc (R : Int →
  Bool →
    Bool →
      Int →
        Bool →
          List Int →
            List (List (List UInt8)) →
              List (Int × List (List UInt8)) → Prop) (down : Bool) (armed : Bool) (after : Int) (acut : Bool) (keep : List Int) (bs : List (List Str)) (ws : List (Int × List Str)) : Prop :=
  R (↑bs.length : Int) down armed after acut keep bs ws

def disk_Blocks_nil.vc (R : Int → Prop) : Prop :=
  R 0

def disk_Disk_in.vc (R : Bool →
  Bool →
    Bool →
      Int →
        Bool →
          List Int →
            List (List (List UInt8)) →
              List (Int × List (List UInt8)) →
                Prop) (i : Int) (down : Bool) (armed : Bool) (after : Int) (acut : Bool) (keep : List Int) (bs : List (List Str)) (ws : List (Int × List Str)) : Prop :=
  bif decide (0 ≤ i) then
    Sp.dPre (down, armed, after, acut, keep, bs, ws) ∧ R (decide (i < (↑(Sp.DSt.bs (down, armed, after, acut, keep, bs, ws)).length : Int))) down armed after acut keep bs ws
  else R false down armed after acut keep bs ws

def disk_in_nil.vc (R : Bool → Prop) (i : Int) : Prop :=
  bif decide (0 ≤ i) then R (decide (i < 0)) else R false

def disk_Disk_Up.vc (R : Bool →
  Bool →
    Bool →
      Int →
        Bool →
          List Int →
            List (List (List UInt8)) →
              List (Int × List (List UInt8)) → Prop) (down : Bool) (armed : Bool) (after : Int) (acut : Bool) (keep : List Int) (bs : List (List Str)) (ws : List (Int × List Str)) : Prop :=
  R (!down) down armed after acut keep bs ws

def disk_Up_nil.vc (R : Bool → Prop) : Prop :=
  R false

def disk_Disk_Lasts.vc (R : List UInt8 →
  Bool →
    Bool →
      Int →
        Bool →
          List Int →
            List (List (List UInt8)) →
              List (Int × List (List UInt8)) →
                Prop) (i : Int) (down : Bool) (armed : Bool) (after : Int) (acut : Bool) (keep : List Int) (bs : List (List Str)) (ws : List (Int × List Str)) : Prop :=
  Sp.dPre (down, armed, after, acut, keep, bs, ws) ∧
    bif !Sp.inD i (down, armed, after, acut, keep, bs, ws) then R [] down armed after acut keep bs ws
    else Ix i bs.length ∧ Sp.textB4.pre (nth bs i (List.replicate 4 ([] : List UInt8))) ∧ R (Sp.textB4 (nth bs i (List.replicate 4 ([] : List UInt8)))) down armed after acut keep bs ws

def disk_Lasts_nil.vc (R : List UInt8 → Prop) (i : Int) : Prop :=
  R []

def disk_Disk_Read.L0 (R : List UInt8 →
  Int →
    Bool →
      Bool →
        Int →
          Bool →
            List Int →
              List (List (List UInt8)) →
                List (Int × List (List UInt8)) →
                  Prop) (i : Int) (t29 : Int) (t30 : Int) (down : Bool) (armed : Bool) (after : Int) (acut : Bool) (keep : List
  Int) (bs : List
  (List
    (List
      UInt8))) (ws : List
  (Int ×
    List
      (List
        UInt8))) (b : List
  (List UInt8)) (K0 : Int × Int × Int × Bool × Bool × Int × Bool × List Int × List (List (List UInt8)) × List (Int × List (List UInt8)) × List (List UInt8) × Unit → Prop) : Prop :=
  bif decide (t30 < t29) then
    Ix t30 ws.length ∧
      bif decide ((nth ws t30 (0, List.replicate 4 [])).fst = i) then
        Ln 4 b.length ∧
          Rg IntKind.i64 (t30 + 1) ∧
            K0
              (i, t29, t30 + 1, down, armed, after, acut, keep, bs, ws,
                [List.headD (nth ws t30 (0, List.replicate 4 [])).snd [], (List.tail (nth ws t30 (0, List.replicate 4 [])).snd).headD [],
                  (List.tail (nth ws t30 (0, List.replicate 4 [])).snd).tail.headD [], (List.tail (nth ws t30 (0, List.replicate 4 [])).snd).tail.tail.headD []],
                ())
      else Rg IntKind.i64 (t30 + 1) ∧ K0 (i, t29, t30 + 1, down, armed, after, acut, keep, bs, ws, b, ())
  else Ln 4 b.length ∧ Sp.textB4.pre b ∧ R (Sp.textB4 b) 0 down armed after acut keep bs ws
def disk_Disk_Read.vc (R : List UInt8 →
  Int →
    Bool →
      Bool →
        Int →
          Bool →
            List Int →
              List (List (List UInt8)) →
                List (Int × List (List UInt8)) →
                  Prop) (i : Int) (down : Bool) (armed : Bool) (after : Int) (acut : Bool) (keep : List Int) (bs : List (List Str)) (ws : List (Int × List Str)) : Prop :=
  Sp.dPre (down, armed, after, acut, keep, bs, ws) ∧
    bif !Sp.inD i (down, armed, after, acut, keep, bs, ws) then R [] 1 down armed after acut keep bs ws
    else
      Sp.dPre (down, armed, after, acut, keep, bs, ws) ∧
        bif !Sp.upD (down, armed, after, acut, keep, bs, ws) then R [] 271 down armed after acut keep bs ws
        else
          Ix i bs.length ∧
            Ln 4 4 ∧
              Lp
                (fun v K =>
                  disk_Disk_Read.L0 R v.fst v.snd.fst v.snd.snd.fst v.snd.snd.snd.fst v.snd.snd.snd.snd.fst v.snd.snd.snd.snd.snd.fst v.snd.snd.snd.snd.snd.snd.fst
                    v.snd.snd.snd.snd.snd.snd.snd.fst v.snd.snd.snd.snd.snd.snd.snd.snd.fst v.snd.snd.snd.snd.snd.snd.snd.snd.snd.fst v.snd.snd.snd.snd.snd.snd.snd.snd.snd.snd.fst K)
                (i, (↑ws.length : Int), 0, down, armed, after, acut, keep, bs, ws, nth bs i (List.replicate 4 ([] : List UInt8)), ())

def disk_Read_nil.vc (R : List UInt8 → Int → Prop) (i : Int) : Prop :=
  R [] 1

def disk_Disk_fall.L0 (R : Bool →
  Bool →
    Int →
      Bool →
        List Int →
          List (List (List UInt8)) →
            List (Int × List (List UInt8)) →
              Prop) (keep' : List
  Int) (t11 : Int) (t12 : Int) (down : Bool) (armed : Bool) (after : Int) (acut : Bool) (keep : List
  Int) (bs : List
  (List
    (List
      UInt8))) (ws : List
  (Int × List (List UInt8))) (K0 : List Int × Int × Int × Bool × Bool × Int × Bool × List Int × List (List (List UInt8)) × List (Int × List (List UInt8)) × Unit → Prop) : Prop :=
  bif decide (t12 < t11) then
    Ix t12 ws.length ∧
      bif decide (t12 < (↑keep'.length : Int)) then
        Ix t12 keep'.length ∧
          Ix (nth ws t12 (0, List.replicate 4 [])).fst bs.length ∧
            Sb 0 (mn (mx (nth keep' t12 0) 0) 4) 4 ∧
              Sb 0 (mn (mx (nth keep' t12 0) 0) 4) 4 ∧
                Eqi (mn (mx (nth keep' t12 0) 0) 4) (mn (mx (nth keep' t12 0) 0) 4) ∧
                  Rg IntKind.i64 (t12 + 1) ∧
                    K0
                      (keep', t11, t12 + 1, down, armed, after, acut, keep,
                        bs.set (Int.toNat (nth ws t12 (0, List.replicate 4 [])).fst)
                          (cpA (mn (mx (nth keep' t12 0) 0) 4)
                            [List.headD (nth ws t12 (0, List.replicate 4 [])).snd [], (List.tail (nth ws t12 (0, List.replicate 4 [])).snd).headD [],
                              (List.tail (nth ws t12 (0, List.replicate 4 [])).snd).tail.headD [], (List.tail (nth ws t12 (0, List.replicate 4 [])).snd).tail.tail.headD []]
                            (nth bs (nth ws t12 (0, List.replicate 4 [])).fst (List.replicate 4 ([] : List UInt8)))),
                        ws, ())
      else
        Ix (nth ws t12 (0, List.replicate 4 [])).fst bs.length ∧
          Sb 0 0 4 ∧
            Sb 0 0 4 ∧
              Eqi 0 0 ∧
                Rg IntKind.i64 (t12 + 1) ∧
                  K0
                    (keep', t11, t12 + 1, down, armed, after, acut, keep,
                      bs.set (Int.toNat (nth ws t12 (0, List.replicate 4 [])).fst)
                        (cpA 0
                          [List.headD (nth ws t12 (0, List.replicate 4 [])).snd [], (List.tail (nth ws t12 (0, List.replicate 4 [])).snd).headD [],
                            (List.tail (nth ws t12 (0, List.replicate 4 [])).snd).tail.headD [], (List.tail (nth ws t12 (0, List.replicate 4 [])).snd).tail.tail.headD []]
                          (nth bs (nth ws t12 (0, List.replicate 4 [])).fst (List.replicate 4 ([] : List UInt8)))),
                      ws, ())
  else R true false after acut keep bs []
def disk_Disk_fall.vc (R : Bool →
  Bool →
    Int →
      Bool →
        List Int →
          List (List (List UInt8)) →
            List (Int × List (List UInt8)) →
              Prop) (keep_ : List Int) (down : Bool) (armed : Bool) (after : Int) (acut : Bool) (keep : List Int) (bs : List (List Str)) (ws : List (Int × List Str)) : Prop :=
  Lp
    (fun v K =>
      disk_Disk_fall.L0 R v.fst v.snd.fst v.snd.snd.fst v.snd.snd.snd.fst v.snd.snd.snd.snd.fst v.snd.snd.snd.snd.snd.fst v.snd.snd.snd.snd.snd.snd.fst v.snd.snd.snd.snd.snd.snd.snd.fst
        v.snd.snd.snd.snd.snd.snd.snd.snd.fst v.snd.snd.snd.snd.snd.snd.snd.snd.snd.fst K)
    (keep_, (↑ws.length : Int), 0, down, armed, after, acut, keep, bs, ws, ())

def disk_Disk_goes.vc (R : Int →
  Bool →
    Bool →
      Bool →
        Int →
          Bool →
            List Int →
              List (List (List UInt8)) →
                List (Int × List (List UInt8)) →
                  Prop) (down : Bool) (armed : Bool) (after : Int) (acut : Bool) (keep : List Int) (bs : List (List Str)) (ws : List (Int × List Str)) : Prop :=
  bif !armed then R 0 false down armed after acut keep bs ws
  else
    bif decide (0 < after) then Rg IntKind.i64 (after - 1) ∧ R 0 false down armed (after - 1) acut keep bs ws
    else
      bif !acut then R 270 true down false after acut keep bs ws
      else
        Sp.dFall.pre keep (down, false, after, acut, keep, bs, ws) ∧
          R 271 true (Sp.dFall keep (down, false, after, acut, keep, bs, ws)).fst (Sp.dFall keep (down, false, after, acut, keep, bs, ws)).snd.fst
            (Sp.dFall keep (down, false, after, acut, keep, bs, ws)).snd.snd.fst (Sp.dFall keep (down, false, after, acut, keep, bs, ws)).snd.snd.snd.fst
            (Sp.dFall keep (down, false, after, acut, keep, bs, ws)).snd.snd.snd.snd.fst (Sp.dFall keep (down, false, after, acut, keep, bs, ws)).snd.snd.snd.snd.snd.fst
            (Sp.dFall keep (down, false, after, acut, keep, bs, ws)).snd.snd.snd.snd.snd.snd

def disk_Disk_Write.vc (R : Int →
  Bool →
    Bool →
      Int →
        Bool →
          List Int →
            List (List (List UInt8)) →
              List (Int × List (List UInt8)) →
                Prop) (i : Int) (s : Str) (down : Bool) (armed : Bool) (after : Int) (acut : Bool) (keep : List Int) (bs : List (List Str)) (ws : List (Int × List Str)) : Prop :=
  Sp.dPre (down, armed, after, acut, keep, bs, ws) ∧
    bif !Sp.inD i (down, armed, after, acut, keep, bs, ws) then R 1 down armed after acut keep bs ws
    else
      bif !decide ((↑(List.length s) : Int) = 256) then R 1 down armed after acut keep bs ws
      else
        Sp.dPre (down, armed, after, acut, keep, bs, ws) ∧
          bif !Sp.upD (down, armed, after, acut, keep, bs, ws) then R 271 down armed after acut keep bs ws
          else
            Sp.dPre (down, armed, after, acut, keep, bs, ws) ∧
              bif (Sp.dGoes (down, armed, after, acut, keep, bs, ws)).snd.snd then
                R (Sp.dGoes (down, armed, after, acut, keep, bs, ws)).snd.fst (Sp.dGoes (down, armed, after, acut, keep, bs, ws)).fst.fst
                  (Sp.dGoes (down, armed, after, acut, keep, bs, ws)).fst.snd.fst (Sp.dGoes (down, armed, after, acut, keep, bs, ws)).fst.snd.snd.fst
                  (Sp.dGoes (down, armed, after, acut, keep, bs, ws)).fst.snd.snd.snd.fst (Sp.dGoes (down, armed, after, acut, keep, bs, ws)).fst.snd.snd.snd.snd.fst
                  (Sp.dGoes (down, armed, after, acut, keep, bs, ws)).fst.snd.snd.snd.snd.snd.fst (Sp.dGoes (down, armed, after, acut, keep, bs, ws)).fst.snd.snd.snd.snd.snd.snd
              else
                Sp.cutB.pre s ∧
                  Gr (Sp.dGoes (down, armed, after, acut, keep, bs, ws)).fst.snd.snd.snd.snd.snd.snd.length 1 72 ∧
                    R 0 (Sp.dGoes (down, armed, after, acut, keep, bs, ws)).fst.fst (Sp.dGoes (down, armed, after, acut, keep, bs, ws)).fst.snd.fst
                      (Sp.dGoes (down, armed, after, acut, keep, bs, ws)).fst.snd.snd.fst (Sp.dGoes (down, armed, after, acut, keep, bs, ws)).fst.snd.snd.snd.fst
                      (Sp.dGoes (down, armed, after, acut, keep, bs, ws)).fst.snd.snd.snd.snd.fst (Sp.dGoes (down, armed, after, acut, keep, bs, ws)).fst.snd.snd.snd.snd.snd.fst
                      ((Sp.dGoes (down, armed, after, acut, keep, bs, ws)).fst.snd.snd.snd.snd.snd.snd ++
                        [(i, [List.headD (Sp.cutB s) [], (List.tail (Sp.cutB s)).headD [], (List.tail (Sp.cutB s)).tail.headD [], (List.tail (Sp.cutB s)).tail.tail.headD []])])

def disk_Write_nil.vc (R : Int → Prop) (i : Int) (s : Str) : Prop :=
  R 1

def disk_Disk_Flush.L0 (R : Int →
  Bool →
    Bool →
      Int →
        Bool →
          List Int →
            List (List (List UInt8)) →
              List (Int × List (List UInt8)) →
                Prop) (e : Int) (t21 : Int) (t22 : Int) (down : Bool) (armed : Bool) (after : Int) (acut : Bool) (keep : List
  Int) (bs : List
  (List
    (List
      UInt8))) (ws : List
  (Int × List (List UInt8))) (K0 : Int × Int × Int × Bool × Bool × Int × Bool × List Int × List (List (List UInt8)) × List (Int × List (List UInt8)) × Unit → Prop) : Prop :=
  bif decide (t22 < t21) then
    Ix t22 ws.length ∧
      Ix (nth ws t22 (0, List.replicate 4 [])).fst bs.length ∧
        Rg IntKind.i64 (t22 + 1) ∧
          K0
            (e, t21, t22 + 1, down, armed, after, acut, keep,
              bs.set (Int.toNat (nth ws t22 (0, List.replicate 4 [])).fst)
                [List.headD (nth ws t22 (0, List.replicate 4 [])).snd [], (List.tail (nth ws t22 (0, List.replicate 4 [])).snd).headD [],
                  (List.tail (nth ws t22 (0, List.replicate 4 [])).snd).tail.headD [], (List.tail (nth ws t22 (0, List.replicate 4 [])).snd).tail.tail.headD []],
              ws, ())
  else R e down armed after acut keep bs []
def disk_Disk_Flush.vc (R : Int →
  Bool →
    Bool →
      Int →
        Bool →
          List Int →
            List (List (List UInt8)) →
              List (Int × List (List UInt8)) → Prop) (down : Bool) (armed : Bool) (after : Int) (acut : Bool) (keep : List Int) (bs : List (List Str)) (ws : List (Int × List Str)) : Prop :=
  Sp.dPre (down, armed, after, acut, keep, bs, ws) ∧
    bif !Sp.upD (down, armed, after, acut, keep, bs, ws) then R 271 down armed after acut keep bs ws
    else
      Sp.dPre (down, armed, after, acut, keep, bs, ws) ∧
        bif !(Sp.dGoes (down, armed, after, acut, keep, bs, ws)).snd.snd then
          Lp
            (fun v K =>
              disk_Disk_Flush.L0 R v.fst v.snd.fst v.snd.snd.fst v.snd.snd.snd.fst v.snd.snd.snd.snd.fst v.snd.snd.snd.snd.snd.fst v.snd.snd.snd.snd.snd.snd.fst
                v.snd.snd.snd.snd.snd.snd.snd.fst v.snd.snd.snd.snd.snd.snd.snd.snd.fst v.snd.snd.snd.snd.snd.snd.snd.snd.snd.fst K)
            ((Sp.dGoes (down, armed, after, acut, keep, bs, ws)).snd.fst, (↑(Sp.dGoes (down, armed, after, acut, keep, bs, ws)).fst.snd.snd.snd.snd.snd.snd.length : Int), 0,
              (Sp.dGoes (down, armed, after, acut, keep, bs, ws)).fst.fst, (Sp.dGoes (down, armed, after, acut, keep, bs, ws)).fst.snd.fst,
              (Sp.dGoes (down, armed, after, acut, keep, bs, ws)).fst.snd.snd.fst, (Sp.dGoes (down, armed, after, acut, keep, bs, ws)).fst.snd.snd.snd.fst,
              (Sp.dGoes (down, armed, after, acut, keep, bs, ws)).fst.snd.snd.snd.snd.fst, (Sp.dGoes (down, armed, after, acut, keep, bs, ws)).fst.snd.snd.snd.snd.snd.fst,
              (Sp.dGoes (down, armed, after, acut, keep, bs, ws)).fst.snd.snd.snd.snd.snd.snd, ())
        else
          R (Sp.dGoes (down, armed, after, acut, keep, bs, ws)).snd.fst (Sp.dGoes (down, armed, after, acut, keep, bs, ws)).fst.fst
            (Sp.dGoes (down, armed, after, acut, keep, bs, ws)).fst.snd.fst (Sp.dGoes (down, armed, after, acut, keep, bs, ws)).fst.snd.snd.fst
            (Sp.dGoes (down, armed, after, acut, keep, bs, ws)).fst.snd.snd.snd.fst (Sp.dGoes (down, armed, after, acut, keep, bs, ws)).fst.snd.snd.snd.snd.fst
            (Sp.dGoes (down, armed, after, acut, keep, bs, ws)).fst.snd.snd.snd.snd.snd.fst []

def disk_Flush_nil.vc (R : Int → Prop) : Prop :=
  R 271

def disk_Disk_Set.vc (R : Int →
  Bool →
    Bool →
      Int →
        Bool →
          List Int →
            List (List (List UInt8)) →
              List (Int × List (List UInt8)) →
                Prop) (a : Int × Bool × List Int) (down : Bool) (armed : Bool) (after : Int) (acut : Bool) (keep : List Int) (bs : List (List Str)) (ws : List (Int × List Str)) : Prop :=
  bif decide (a.fst < 0) then R 1 down armed after acut keep bs ws
  else
    Sp.dPre (down, armed, after, acut, keep, bs, ws) ∧
      bif !Sp.upD (down, armed, after, acut, keep, bs, ws) then R 271 down armed after acut keep bs ws
      else Sp.cloneI.pre a.snd.snd ∧ R 0 down true a.fst a.snd.fst (Sp.cloneI a.snd.snd) bs ws

def disk_Set_nil.vc (R : Int → Prop) (a : Int × Bool × List Int) : Prop :=
  bif decide (a.fst < 0) then R 1 else R 271

def disk_Disk_Crash.vc (R : Int →
  Bool →
    Bool →
      Int →
        Bool →
          List Int →
            List (List (List UInt8)) →
              List (Int × List (List UInt8)) →
                Prop) (keep_ : List Int) (down : Bool) (armed : Bool) (after : Int) (acut : Bool) (keep : List Int) (bs : List (List Str)) (ws : List (Int × List Str)) : Prop :=
  Sp.dPre (down, armed, after, acut, keep, bs, ws) ∧
    bif !Sp.upD (down, armed, after, acut, keep, bs, ws) then R 271 down armed after acut keep bs ws
    else
      Sp.dFall.pre keep_ (down, armed, after, acut, keep, bs, ws) ∧
        R 0 (Sp.dFall keep_ (down, armed, after, acut, keep, bs, ws)).fst (Sp.dFall keep_ (down, armed, after, acut, keep, bs, ws)).snd.fst
          (Sp.dFall keep_ (down, armed, after, acut, keep, bs, ws)).snd.snd.fst (Sp.dFall keep_ (down, armed, after, acut, keep, bs, ws)).snd.snd.snd.fst
          (Sp.dFall keep_ (down, armed, after, acut, keep, bs, ws)).snd.snd.snd.snd.fst (Sp.dFall keep_ (down, armed, after, acut, keep, bs, ws)).snd.snd.snd.snd.snd.fst
          (Sp.dFall keep_ (down, armed, after, acut, keep, bs, ws)).snd.snd.snd.snd.snd.snd

def disk_Crash_nil.vc (R : Int → Prop) (keep_ : List Int) : Prop :=
  R 271

def disk_Disk_Start.vc (R : Int →
  Bool →
    Bool →
      Int →
        Bool →
          List Int →
            List (List (List UInt8)) →
              List (Int × List (List UInt8)) → Prop) (down : Bool) (armed : Bool) (after : Int) (acut : Bool) (keep : List Int) (bs : List (List Str)) (ws : List (Int × List Str)) : Prop :=
  bif !down then R 7 down armed after acut keep bs ws else R 0 false armed after acut keep bs ws

def disk_Start_nil.vc (R : Int → Prop) : Prop :=
  R 7

def rectoref27_New.L1 (R : Bool →
  Bool →
    Int →
      Bool →
        List Int →
          List (List UInt8) →
            List (Int × List UInt8) →
              Prop) (blocks : Int) (zero : List
  UInt8) (i : Int) (d_rdown : Bool) (d_rarmed : Bool) (d_rafter : Int) (d_racut : Bool) (d_rkeep : List
  Int) (d_rbs : List
  (List UInt8)) (d_rws : List (Int × List UInt8)) (K1 : Int × List UInt8 × Int × Bool × Bool × Int × Bool × List Int × List (List UInt8) × List (Int × List UInt8) × Unit → Prop) : Prop :=
  bif decide (i < blocks) then Gr d_rbs.length 1 16 ∧ Rg IntKind.i64 (i + 1) ∧ K1 (blocks, zero, i + 1, d_rdown, d_rarmed, d_rafter, d_racut, d_rkeep, d_rbs ++ [zero], d_rws, ())
  else R d_rdown d_rarmed d_rafter d_racut d_rkeep d_rbs d_rws
def rectoref27_New.L0 (R : Bool →
  Bool → Int → Bool → List Int → List (List UInt8) → List (Int × List UInt8) → Prop) (blocks : Int) (zero : List UInt8) (i : Int) (K0 : Int × List UInt8 × Int × Unit → Prop) : Prop :=
  bif decide (i < 256) then (↑zero.length : Int) + (↑1 : Int) ≤ 9223372036854775807 ∧ Rg IntKind.i64 (i + 1) ∧ K0 (blocks, zero ++ [0], i + 1, ())
  else
    Lp
      (fun v K =>
        rectoref27_New.L1 R v.fst v.snd.fst v.snd.snd.fst v.snd.snd.snd.fst v.snd.snd.snd.snd.fst v.snd.snd.snd.snd.snd.fst v.snd.snd.snd.snd.snd.snd.fst v.snd.snd.snd.snd.snd.snd.snd.fst
          v.snd.snd.snd.snd.snd.snd.snd.snd.fst v.snd.snd.snd.snd.snd.snd.snd.snd.snd.fst K)
      (blocks, zero, 0, false, false, 0, false, [], [], [], ())
def rectoref27_New.vc (R : Bool → Bool → Int → Bool → List Int → List (List UInt8) → List (Int × List UInt8) → Prop) (blocks : Int) : Prop :=
  Lp (fun v K => rectoref27_New.L0 R v.fst v.snd.fst v.snd.snd.fst K) (blocks, [], 0, ())

def rectoref27_Disk_Read.L0 (R : List UInt8 →
  Int →
    Bool →
      Bool →
        Int →
          Bool →
            List Int →
              List (List UInt8) →
                List (Int × List UInt8) →
                  Prop) (i : Int) (s : List
  UInt8) (t35 : Int) (t36 : Int) (rdown : Bool) (rarmed : Bool) (rafter : Int) (racut : Bool) (rkeep : List
  Int) (rbs : List
  (List
    UInt8)) (rws : List (Int × List UInt8)) (K0 : Int × List UInt8 × Int × Int × Bool × Bool × Int × Bool × List Int × List (List UInt8) × List (Int × List UInt8) × Unit → Prop) : Prop :=
  bif decide (t36 < t35) then
    Ix t36 rws.length ∧
      bif decide ((nth rws t36 (0, [])).fst = i) then Rg IntKind.i64 (t36 + 1) ∧ K0 (i, (nth rws t36 (0, [])).snd, t35, t36 + 1, rdown, rarmed, rafter, racut, rkeep, rbs, rws, ())
      else Rg IntKind.i64 (t36 + 1) ∧ K0 (i, s, t35, t36 + 1, rdown, rarmed, rafter, racut, rkeep, rbs, rws, ())
  else R s 0 rdown rarmed rafter racut rkeep rbs rws
def rectoref27_Disk_Read.vc (R : List UInt8 →
  Int →
    Bool →
      Bool →
        Int →
          Bool →
            List Int →
              List (List UInt8) →
                List (Int × List UInt8) → Prop) (i : Int) (rdown : Bool) (rarmed : Bool) (rafter : Int) (racut : Bool) (rkeep : List Int) (rbs : List Str) (rws : List (Int × Str)) : Prop :=
  bif decide (i < 0) then R [] 1 rdown rarmed rafter racut rkeep rbs rws
  else
    bif decide ((↑rbs.length : Int) ≤ i) then R [] 1 rdown rarmed rafter racut rkeep rbs rws
    else
      bif rdown then R [] 271 rdown rarmed rafter racut rkeep rbs rws
      else
        Ix i rbs.length ∧
          Lp
            (fun v K =>
              rectoref27_Disk_Read.L0 R v.fst v.snd.fst v.snd.snd.fst v.snd.snd.snd.fst v.snd.snd.snd.snd.fst v.snd.snd.snd.snd.snd.fst v.snd.snd.snd.snd.snd.snd.fst
                v.snd.snd.snd.snd.snd.snd.snd.fst v.snd.snd.snd.snd.snd.snd.snd.snd.fst v.snd.snd.snd.snd.snd.snd.snd.snd.snd.fst v.snd.snd.snd.snd.snd.snd.snd.snd.snd.snd.fst K)
            (i, nth rbs i [], (↑rws.length : Int), 0, rdown, rarmed, rafter, racut, rkeep, rbs, rws, ())

def rectoref27_Disk_Fall.L0 (R : Bool →
  Bool →
    Int →
      Bool →
        List Int →
          List (List UInt8) →
            List (Int × List UInt8) →
              Prop) (keep : List
  Int) (t11 : Int) (t12 : Int) (rdown : Bool) (rarmed : Bool) (rafter : Int) (racut : Bool) (rkeep : List
  Int) (rbs : List
  (List UInt8)) (rws : List (Int × List UInt8)) (K0 : List Int × Int × Int × Bool × Bool × Int × Bool × List Int × List (List UInt8) × List (Int × List UInt8) × Unit → Prop) : Prop :=
  bif decide (t12 < t11) then
    Ix t12 rws.length ∧
      bif decide (t12 < (↑keep.length : Int)) then
        Ix t12 keep.length ∧
          bif decide (0 < nth keep t12 0) then
            Ix t12 keep.length ∧
              bif decide (4 < nth keep t12 0) then
                Rg IntKind.i64 (64 * 4) ∧
                  Sb 0 (64 * 4) (List.length (nth rws t12 (0, [])).snd) ∧
                    Ix (nth rws t12 (0, [])).fst rbs.length ∧
                      Rg IntKind.i64 (64 * 4) ∧
                        Sb (64 * 4) (↑(List.length (nth rbs (nth rws t12 (0, [])).fst [])) : Int) (List.length (nth rbs (nth rws t12 (0, [])).fst [])) ∧
                          (↑(sub (nth rws t12 (0, [])).snd 0 (64 * 4)).length : Int) +
                                (↑(sub (nth rbs (nth rws t12 (0, [])).fst []) (64 * 4) (↑(List.length (nth rbs (nth rws t12 (0, [])).fst [])) : Int)).length : Int) ≤
                              9223372036854775807 ∧
                            Ix (nth rws t12 (0, [])).fst rbs.length ∧
                              Rg IntKind.i64 (t12 + 1) ∧
                                K0
                                  (keep, t11, t12 + 1, rdown, rarmed, rafter, racut, rkeep,
                                    rbs.set (Int.toNat (nth rws t12 (0, [])).fst)
                                      (sub (nth rws t12 (0, [])).snd 0 (64 * 4) ++
                                        sub (nth rbs (nth rws t12 (0, [])).fst []) (64 * 4) (↑(List.length (nth rbs (nth rws t12 (0, [])).fst [])) : Int)),
                                    rws, ())
              else
                Rg IntKind.i64 (64 * nth keep t12 0) ∧
                  Sb 0 (64 * nth keep t12 0) (List.length (nth rws t12 (0, [])).snd) ∧
                    Ix (nth rws t12 (0, [])).fst rbs.length ∧
                      Rg IntKind.i64 (64 * nth keep t12 0) ∧
                        Sb (64 * nth keep t12 0) (↑(List.length (nth rbs (nth rws t12 (0, [])).fst [])) : Int) (List.length (nth rbs (nth rws t12 (0, [])).fst [])) ∧
                          (↑(sub (nth rws t12 (0, [])).snd 0 (64 * nth keep t12 0)).length : Int) +
                                (↑(sub (nth rbs (nth rws t12 (0, [])).fst []) (64 * nth keep t12 0) (↑(List.length (nth rbs (nth rws t12 (0, [])).fst [])) : Int)).length : Int) ≤
                              9223372036854775807 ∧
                            Ix (nth rws t12 (0, [])).fst rbs.length ∧
                              Rg IntKind.i64 (t12 + 1) ∧
                                K0
                                  (keep, t11, t12 + 1, rdown, rarmed, rafter, racut, rkeep,
                                    rbs.set (Int.toNat (nth rws t12 (0, [])).fst)
                                      (sub (nth rws t12 (0, [])).snd 0 (64 * nth keep t12 0) ++
                                        sub (nth rbs (nth rws t12 (0, [])).fst []) (64 * nth keep t12 0) (↑(List.length (nth rbs (nth rws t12 (0, [])).fst [])) : Int)),
                                    rws, ())
          else
            Rg IntKind.i64 (64 * 0) ∧
              Sb 0 (64 * 0) (List.length (nth rws t12 (0, [])).snd) ∧
                Ix (nth rws t12 (0, [])).fst rbs.length ∧
                  Rg IntKind.i64 (64 * 0) ∧
                    Sb (64 * 0) (↑(List.length (nth rbs (nth rws t12 (0, [])).fst [])) : Int) (List.length (nth rbs (nth rws t12 (0, [])).fst [])) ∧
                      (↑(sub (nth rws t12 (0, [])).snd 0 (64 * 0)).length : Int) +
                            (↑(sub (nth rbs (nth rws t12 (0, [])).fst []) (64 * 0) (↑(List.length (nth rbs (nth rws t12 (0, [])).fst [])) : Int)).length : Int) ≤
                          9223372036854775807 ∧
                        Ix (nth rws t12 (0, [])).fst rbs.length ∧
                          Rg IntKind.i64 (t12 + 1) ∧
                            K0
                              (keep, t11, t12 + 1, rdown, rarmed, rafter, racut, rkeep,
                                rbs.set (Int.toNat (nth rws t12 (0, [])).fst)
                                  (sub (nth rws t12 (0, [])).snd 0 (64 * 0) ++
                                    sub (nth rbs (nth rws t12 (0, [])).fst []) (64 * 0) (↑(List.length (nth rbs (nth rws t12 (0, [])).fst [])) : Int)),
                                rws, ())
      else
        Rg IntKind.i64 (64 * 0) ∧
          Sb 0 (64 * 0) (List.length (nth rws t12 (0, [])).snd) ∧
            Ix (nth rws t12 (0, [])).fst rbs.length ∧
              Rg IntKind.i64 (64 * 0) ∧
                Sb (64 * 0) (↑(List.length (nth rbs (nth rws t12 (0, [])).fst [])) : Int) (List.length (nth rbs (nth rws t12 (0, [])).fst [])) ∧
                  (↑(sub (nth rws t12 (0, [])).snd 0 (64 * 0)).length : Int) +
                        (↑(sub (nth rbs (nth rws t12 (0, [])).fst []) (64 * 0) (↑(List.length (nth rbs (nth rws t12 (0, [])).fst [])) : Int)).length : Int) ≤
                      9223372036854775807 ∧
                    Ix (nth rws t12 (0, [])).fst rbs.length ∧
                      Rg IntKind.i64 (t12 + 1) ∧
                        K0
                          (keep, t11, t12 + 1, rdown, rarmed, rafter, racut, rkeep,
                            rbs.set (Int.toNat (nth rws t12 (0, [])).fst)
                              (sub (nth rws t12 (0, [])).snd 0 (64 * 0) ++ sub (nth rbs (nth rws t12 (0, [])).fst []) (64 * 0) (↑(List.length (nth rbs (nth rws t12 (0, [])).fst [])) : Int)),
                            rws, ())
  else R true false rafter racut rkeep rbs []
def rectoref27_Disk_Fall.vc (R : Bool →
  Bool →
    Int →
      Bool →
        List Int →
          List (List UInt8) →
            List (Int × List UInt8) →
              Prop) (keep_ : List Int) (rdown : Bool) (rarmed : Bool) (rafter : Int) (racut : Bool) (rkeep : List Int) (rbs : List Str) (rws : List (Int × Str)) : Prop :=
  Lp
    (fun v K =>
      rectoref27_Disk_Fall.L0 R v.fst v.snd.fst v.snd.snd.fst v.snd.snd.snd.fst v.snd.snd.snd.snd.fst v.snd.snd.snd.snd.snd.fst v.snd.snd.snd.snd.snd.snd.fst
        v.snd.snd.snd.snd.snd.snd.snd.fst v.snd.snd.snd.snd.snd.snd.snd.snd.fst v.snd.snd.snd.snd.snd.snd.snd.snd.snd.fst K)
    (keep_, (↑rws.length : Int), 0, rdown, rarmed, rafter, racut, rkeep, rbs, rws, ())

def rectoref27_Disk_goes.vc (R : Int →
  Bool →
    Bool →
      Int →
        Bool →
          List Int →
            List (List UInt8) →
              List (Int × List UInt8) → Prop) (rdown : Bool) (rarmed : Bool) (rafter : Int) (racut : Bool) (rkeep : List Int) (rbs : List Str) (rws : List (Int × Str)) : Prop :=
  bif !rarmed then R 0 rdown rarmed rafter racut rkeep rbs rws
  else
    bif decide (0 < rafter) then Rg IntKind.i64 (rafter - 1) ∧ R 0 rdown rarmed (rafter - 1) racut rkeep rbs rws
    else
      bif racut then
        Sp.rFall.pre rkeep (rdown, false, rafter, racut, rkeep, rbs, rws) ∧
          R 271 (Sp.rFall rkeep (rdown, false, rafter, racut, rkeep, rbs, rws)).fst (Sp.rFall rkeep (rdown, false, rafter, racut, rkeep, rbs, rws)).snd.fst
            (Sp.rFall rkeep (rdown, false, rafter, racut, rkeep, rbs, rws)).snd.snd.fst (Sp.rFall rkeep (rdown, false, rafter, racut, rkeep, rbs, rws)).snd.snd.snd.fst
            (Sp.rFall rkeep (rdown, false, rafter, racut, rkeep, rbs, rws)).snd.snd.snd.snd.fst (Sp.rFall rkeep (rdown, false, rafter, racut, rkeep, rbs, rws)).snd.snd.snd.snd.snd.fst
            (Sp.rFall rkeep (rdown, false, rafter, racut, rkeep, rbs, rws)).snd.snd.snd.snd.snd.snd
      else R 270 rdown false rafter racut rkeep rbs rws

def rectoref27_Disk_Write.vc (R : Int →
  Bool →
    Bool →
      Int →
        Bool →
          List Int →
            List (List UInt8) →
              List (Int × List UInt8) →
                Prop) (i : Int) (s : Str) (rdown : Bool) (rarmed : Bool) (rafter : Int) (racut : Bool) (rkeep : List Int) (rbs : List Str) (rws : List (Int × Str)) : Prop :=
  bif decide (i < 0) then R 1 rdown rarmed rafter racut rkeep rbs rws
  else
    bif decide ((↑rbs.length : Int) ≤ i) then R 1 rdown rarmed rafter racut rkeep rbs rws
    else
      bif !decide ((↑(List.length s) : Int) = 256) then R 1 rdown rarmed rafter racut rkeep rbs rws
      else
        bif rdown then R 271 rdown rarmed rafter racut rkeep rbs rws
        else
          Sp.rPre (rdown, rarmed, rafter, racut, rkeep, rbs, rws) ∧
            bif decide ((Sp.rGoes (rdown, rarmed, rafter, racut, rkeep, rbs, rws)).snd = 0) then
              Gr (Sp.rGoes (rdown, rarmed, rafter, racut, rkeep, rbs, rws)).fst.snd.snd.snd.snd.snd.snd.length 1 24 ∧
                R (Sp.rGoes (rdown, rarmed, rafter, racut, rkeep, rbs, rws)).snd (Sp.rGoes (rdown, rarmed, rafter, racut, rkeep, rbs, rws)).fst.fst
                  (Sp.rGoes (rdown, rarmed, rafter, racut, rkeep, rbs, rws)).fst.snd.fst (Sp.rGoes (rdown, rarmed, rafter, racut, rkeep, rbs, rws)).fst.snd.snd.fst
                  (Sp.rGoes (rdown, rarmed, rafter, racut, rkeep, rbs, rws)).fst.snd.snd.snd.fst (Sp.rGoes (rdown, rarmed, rafter, racut, rkeep, rbs, rws)).fst.snd.snd.snd.snd.fst
                  (Sp.rGoes (rdown, rarmed, rafter, racut, rkeep, rbs, rws)).fst.snd.snd.snd.snd.snd.fst
                  ((Sp.rGoes (rdown, rarmed, rafter, racut, rkeep, rbs, rws)).fst.snd.snd.snd.snd.snd.snd ++ [(i, s)])
            else
              R (Sp.rGoes (rdown, rarmed, rafter, racut, rkeep, rbs, rws)).snd (Sp.rGoes (rdown, rarmed, rafter, racut, rkeep, rbs, rws)).fst.fst
                (Sp.rGoes (rdown, rarmed, rafter, racut, rkeep, rbs, rws)).fst.snd.fst (Sp.rGoes (rdown, rarmed, rafter, racut, rkeep, rbs, rws)).fst.snd.snd.fst
                (Sp.rGoes (rdown, rarmed, rafter, racut, rkeep, rbs, rws)).fst.snd.snd.snd.fst (Sp.rGoes (rdown, rarmed, rafter, racut, rkeep, rbs, rws)).fst.snd.snd.snd.snd.fst
                (Sp.rGoes (rdown, rarmed, rafter, racut, rkeep, rbs, rws)).fst.snd.snd.snd.snd.snd.fst (Sp.rGoes (rdown, rarmed, rafter, racut, rkeep, rbs, rws)).fst.snd.snd.snd.snd.snd.snd

def rectoref27_Disk_Flush.L0 (R : Int →
  Bool →
    Bool →
      Int →
        Bool →
          List Int →
            List (List UInt8) →
              List (Int × List UInt8) →
                Prop) (e : Int) (t18 : Int) (t19 : Int) (rdown : Bool) (rarmed : Bool) (rafter : Int) (racut : Bool) (rkeep : List
  Int) (rbs : List
  (List UInt8)) (rws : List (Int × List UInt8)) (K0 : Int × Int × Int × Bool × Bool × Int × Bool × List Int × List (List UInt8) × List (Int × List UInt8) × Unit → Prop) : Prop :=
  bif decide (t19 < t18) then
    Ix t19 rws.length ∧
      Ix (nth rws t19 (0, [])).fst rbs.length ∧
        Rg IntKind.i64 (t19 + 1) ∧ K0 (e, t18, t19 + 1, rdown, rarmed, rafter, racut, rkeep, rbs.set (Int.toNat (nth rws t19 (0, [])).fst) (nth rws t19 (0, [])).snd, rws, ())
  else R e rdown rarmed rafter racut rkeep rbs []
def rectoref27_Disk_Flush.vc (R : Int →
  Bool →
    Bool →
      Int →
        Bool →
          List Int →
            List (List UInt8) →
              List (Int × List UInt8) → Prop) (rdown : Bool) (rarmed : Bool) (rafter : Int) (racut : Bool) (rkeep : List Int) (rbs : List Str) (rws : List (Int × Str)) : Prop :=
  bif rdown then R 271 rdown rarmed rafter racut rkeep rbs rws
  else
    Sp.rPre (rdown, rarmed, rafter, racut, rkeep, rbs, rws) ∧
      bif decide ((Sp.rGoes (rdown, rarmed, rafter, racut, rkeep, rbs, rws)).snd = 0) then
        Lp
          (fun v K =>
            rectoref27_Disk_Flush.L0 R v.fst v.snd.fst v.snd.snd.fst v.snd.snd.snd.fst v.snd.snd.snd.snd.fst v.snd.snd.snd.snd.snd.fst v.snd.snd.snd.snd.snd.snd.fst
              v.snd.snd.snd.snd.snd.snd.snd.fst v.snd.snd.snd.snd.snd.snd.snd.snd.fst v.snd.snd.snd.snd.snd.snd.snd.snd.snd.fst K)
          ((Sp.rGoes (rdown, rarmed, rafter, racut, rkeep, rbs, rws)).snd, (↑(Sp.rGoes (rdown, rarmed, rafter, racut, rkeep, rbs, rws)).fst.snd.snd.snd.snd.snd.snd.length : Int), 0,
            (Sp.rGoes (rdown, rarmed, rafter, racut, rkeep, rbs, rws)).fst.fst, (Sp.rGoes (rdown, rarmed, rafter, racut, rkeep, rbs, rws)).fst.snd.fst,
            (Sp.rGoes (rdown, rarmed, rafter, racut, rkeep, rbs, rws)).fst.snd.snd.fst, (Sp.rGoes (rdown, rarmed, rafter, racut, rkeep, rbs, rws)).fst.snd.snd.snd.fst,
            (Sp.rGoes (rdown, rarmed, rafter, racut, rkeep, rbs, rws)).fst.snd.snd.snd.snd.fst, (Sp.rGoes (rdown, rarmed, rafter, racut, rkeep, rbs, rws)).fst.snd.snd.snd.snd.snd.fst,
            (Sp.rGoes (rdown, rarmed, rafter, racut, rkeep, rbs, rws)).fst.snd.snd.snd.snd.snd.snd, ())
      else
        R (Sp.rGoes (rdown, rarmed, rafter, racut, rkeep, rbs, rws)).snd (Sp.rGoes (rdown, rarmed, rafter, racut, rkeep, rbs, rws)).fst.fst
          (Sp.rGoes (rdown, rarmed, rafter, racut, rkeep, rbs, rws)).fst.snd.fst (Sp.rGoes (rdown, rarmed, rafter, racut, rkeep, rbs, rws)).fst.snd.snd.fst
          (Sp.rGoes (rdown, rarmed, rafter, racut, rkeep, rbs, rws)).fst.snd.snd.snd.fst (Sp.rGoes (rdown, rarmed, rafter, racut, rkeep, rbs, rws)).fst.snd.snd.snd.snd.fst
          (Sp.rGoes (rdown, rarmed, rafter, racut, rkeep, rbs, rws)).fst.snd.snd.snd.snd.snd.fst []

def rectoref27_Disk_Set.vc (R : Int →
  Bool →
    Bool →
      Int →
        Bool →
          List Int →
            List (List UInt8) →
              List (Int × List UInt8) →
                Prop) (a : Int × Bool × List Int) (rdown : Bool) (rarmed : Bool) (rafter : Int) (racut : Bool) (rkeep : List Int) (rbs : List Str) (rws : List (Int × Str)) : Prop :=
  bif decide (a.fst < 0) then R 1 rdown rarmed rafter racut rkeep rbs rws
  else bif rdown then R 271 rdown rarmed rafter racut rkeep rbs rws else R 0 rdown true a.fst a.snd.fst a.snd.snd rbs rws

def rectoref27_Disk_Crash.vc (R : Int →
  Bool →
    Bool →
      Int →
        Bool →
          List Int →
            List (List UInt8) →
              List (Int × List UInt8) →
                Prop) (keep_ : List Int) (rdown : Bool) (rarmed : Bool) (rafter : Int) (racut : Bool) (rkeep : List Int) (rbs : List Str) (rws : List (Int × Str)) : Prop :=
  bif rdown then R 271 rdown rarmed rafter racut rkeep rbs rws
  else
    Sp.rFall.pre keep_ (rdown, rarmed, rafter, racut, rkeep, rbs, rws) ∧
      R 0 (Sp.rFall keep_ (rdown, rarmed, rafter, racut, rkeep, rbs, rws)).fst (Sp.rFall keep_ (rdown, rarmed, rafter, racut, rkeep, rbs, rws)).snd.fst
        (Sp.rFall keep_ (rdown, rarmed, rafter, racut, rkeep, rbs, rws)).snd.snd.fst (Sp.rFall keep_ (rdown, rarmed, rafter, racut, rkeep, rbs, rws)).snd.snd.snd.fst
        (Sp.rFall keep_ (rdown, rarmed, rafter, racut, rkeep, rbs, rws)).snd.snd.snd.snd.fst (Sp.rFall keep_ (rdown, rarmed, rafter, racut, rkeep, rbs, rws)).snd.snd.snd.snd.snd.fst
        (Sp.rFall keep_ (rdown, rarmed, rafter, racut, rkeep, rbs, rws)).snd.snd.snd.snd.snd.snd

def rectoref27_Disk_Start.vc (R : Int →
  Bool →
    Bool →
      Int →
        Bool →
          List Int →
            List (List UInt8) →
              List (Int × List UInt8) → Prop) (rdown : Bool) (rarmed : Bool) (rafter : Int) (racut : Bool) (rkeep : List Int) (rbs : List Str) (rws : List (Int × Str)) : Prop :=
  bif !rdown then R 7 rdown rarmed rafter racut rkeep rbs rws else R 0 false rarmed rafter racut rkeep rbs rws
