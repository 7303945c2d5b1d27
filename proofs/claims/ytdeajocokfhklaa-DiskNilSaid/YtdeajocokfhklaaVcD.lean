/- Conditions of functions. Written by a program of this session. -/
import Derived.Test.YtdeajocokfhklaaSpD
set_option linter.unnecessarySimpa false
set_option linter.unusedVariables false
set_option linter.unusedSectionVars false
set_option linter.unusedSimpArgs false
set_option autoImplicit false
set_option linter.unusedVariables false
open Go Vi

def slices_Repeat_disk_block_disk_block.L0 (R : List (List (List UInt8)) →
  Prop) (n : Int) (newslice : List (List (List UInt8))) (K0 : Int × List (List (List UInt8)) × Unit → Prop) : Prop :=
  bif decide (n < (↑newslice.length : Int)) then
    Sb n (↑newslice.length : Int) newslice.length ∧
      Sb 0 n newslice.length ∧
        Rg IntKind.i64 (n + cpN n (↑newslice.length : Int) (sub newslice 0 n)) ∧
          K0 (n + cpN n (↑newslice.length : Int) (sub newslice 0 n), cpL n (↑newslice.length : Int) newslice (sub newslice 0 n), ())
  else R newslice
def slices_Repeat_disk_block_disk_block.vc (R : List (List (List UInt8)) → Prop) (x : List (List Str)) (count : Int) : Prop :=
  bif decide (count < 0) then False
  else
    bif decide (0 < (Sp.mulU (IntKind.u64.wrap (↑x.length : Int)) (IntKind.u64.wrap count)).fst) then False
    else
      bif decide (9223372036854775807 < (Sp.mulU (IntKind.u64.wrap (↑x.length : Int)) (IntKind.u64.wrap count)).snd) then False
      else
        Mk (IntKind.i64.wrap (Sp.mulU (IntKind.u64.wrap (↑x.length : Int)) (IntKind.u64.wrap count)).snd)
            (IntKind.i64.wrap (Sp.mulU (IntKind.u64.wrap (↑x.length : Int)) (IntKind.u64.wrap count)).snd) 64 ∧
          Lp (fun v K => slices_Repeat_disk_block_disk_block.L0 R v.fst v.snd.fst K)
            (cpN 0 (↑(rep (IntKind.i64.wrap (Sp.mulU (IntKind.u64.wrap (↑x.length : Int)) (IntKind.u64.wrap count)).snd) (List.replicate 4 ([] : List UInt8))).length : Int) x,
              cpL 0 (↑(rep (IntKind.i64.wrap (Sp.mulU (IntKind.u64.wrap (↑x.length : Int)) (IntKind.u64.wrap count)).snd) (List.replicate 4 ([] : List UInt8))).length : Int)
                (rep (IntKind.i64.wrap (Sp.mulU (IntKind.u64.wrap (↑x.length : Int)) (IntKind.u64.wrap count)).snd) (List.replicate 4 ([] : List UInt8))) x,
              ())

def disk_cut.L0 (R : List (List UInt8) →
  Prop) (s : List UInt8) (t5 : Int) (t2 : List (List UInt8)) (b : List (List UInt8)) (K0 : List UInt8 × Int × List (List UInt8) × List (List UInt8) × Unit → Prop) : Prop :=
  bif decide (t5 < 4) then
    Rg IntKind.i64 (t5 * 64) ∧
      Rg IntKind.i64 (t5 + 1) ∧
        Rg IntKind.i64 ((t5 + 1) * 64) ∧
          Sb (t5 * 64) ((t5 + 1) * 64) s.length ∧
            Ln 4 b.length ∧ Ix t5 4 ∧ Ix t5 b.length ∧ Rg IntKind.i64 (t5 + 1) ∧ K0 (s, t5 + 1, t2, b.set t5.toNat (sub s (t5 * 64) ((t5 + 1) * 64)), ())
  else Ln 4 b.length ∧ Ln 4 t2.length ∧ Ln 4 b.length ∧ R b
def disk_cut.vc (R : List (List UInt8) → Prop) (s : Str) : Prop :=
  Lp (fun v K => disk_cut.L0 R v.fst v.snd.fst v.snd.snd.fst v.snd.snd.snd.fst K) (s, 0, List.replicate 4 [], List.replicate 4 [], ())

def disk_block_text.vc (R : List UInt8 → Prop) (b : List Str) : Prop :=
  Ln 4 b.length ∧ Sb 0 (↑4 : Int) 4 ∧ Sp.joinE.pre (sub b 0 (↑4 : Int)) [] ∧ R (Sp.joinE (sub b 0 (↑4 : Int)) [])

def disk_New.vc (R0 : Int → Prop) (R1 : Int → Bool → Bool → Int → Bool → List Int → List (List (List UInt8)) → List (Int × List (List UInt8)) → Prop) (blocks : Int) : Prop :=
  bif decide (blocks < 4) then R0 1
  else
    bif decide (128 < blocks) then R0 1
    else
      Sp.repS.pre [0] 256 ∧
        Sp.cutB.pre (Sp.repS [0] 256) ∧ Ln 4 4 ∧ Ln 4 4 ∧ Sp.repL.pre [Sp.cutB (Sp.repS [0] 256)] blocks ∧ R1 0 false false 0 false [] (Sp.repL [Sp.cutB (Sp.repS [0] 256)] blocks) []

def disk_Disk_Blocks.vc (R : Int →
  Bool →
    Bool →
      Int →
        Bool →
          List Int →
            List (List (List UInt8)) →
              List (Int × List (List UInt8)) → Prop) (down : Bool) (armed : Bool) (after : Int) (acut : Bool) (keep : List Int) (bs : List (List Str)) (ws : List (Int × List Str)) : Prop :=
  R (↑bs.length : Int) down armed after acut keep bs ws

def disk_Blocks_nil.vc (R : Int → Prop) : Prop :=
  R 0

def disk_Disk_in.vc (R : Bool →
  Bool →
    Bool →
      Int →
        Bool →
          List Int →
            List (List (List UInt8)) →
              List (Int × List (List UInt8)) →
                Prop) (i : Int) (down : Bool) (armed : Bool) (after : Int) (acut : Bool) (keep : List Int) (bs : List (List Str)) (ws : List (Int × List Str)) : Prop :=
  bif decide (0 ≤ i) then
    Sp.dPre (down, armed, after, acut, keep, bs, ws) ∧ R (decide (i < (↑(Sp.DSt.bs (down, armed, after, acut, keep, bs, ws)).length : Int))) down armed after acut keep bs ws
  else R false down armed after acut keep bs ws

def disk_in_nil.vc (R : Bool → Prop) (i : Int) : Prop :=
  bif decide (0 ≤ i) then R (decide (i < 0)) else R false

def disk_Disk_Up.vc (R : Bool →
  Bool →
    Bool →
      Int →
        Bool →
          List Int →
            List (List (List UInt8)) →
              List (Int × List (List UInt8)) → Prop) (down : Bool) (armed : Bool) (after : Int) (acut : Bool) (keep : List Int) (bs : List (List Str)) (ws : List (Int × List Str)) : Prop :=
  R (!down) down armed after acut keep bs ws

def disk_Up_nil.vc (R : Bool → Prop) : Prop :=
  R false

def disk_Disk_Waits.vc (R : Int →
  Bool →
    Bool →
      Int →
        Bool →
          List Int →
            List (List (List UInt8)) →
              List (Int × List (List UInt8)) → Prop) (down : Bool) (armed : Bool) (after : Int) (acut : Bool) (keep : List Int) (bs : List (List Str)) (ws : List (Int × List Str)) : Prop :=
  R (↑ws.length : Int) down armed after acut keep bs ws

def disk_Waits_nil.vc (R : Int → Prop) : Prop :=
  R 0

def disk_Disk_Lasts.vc (R : List UInt8 →
  Bool →
    Bool →
      Int →
        Bool →
          List Int →
            List (List (List UInt8)) →
              List (Int × List (List UInt8)) →
                Prop) (i : Int) (down : Bool) (armed : Bool) (after : Int) (acut : Bool) (keep : List Int) (bs : List (List Str)) (ws : List (Int × List Str)) : Prop :=
  Sp.dPre (down, armed, after, acut, keep, bs, ws) ∧
    bif !Sp.inD i (down, armed, after, acut, keep, bs, ws) then R [] down armed after acut keep bs ws
    else Ix i bs.length ∧ Sp.textB4.pre (nth bs i (List.replicate 4 ([] : List UInt8))) ∧ R (Sp.textB4 (nth bs i (List.replicate 4 ([] : List UInt8)))) down armed after acut keep bs ws

def disk_Lasts_nil.vc (R : List UInt8 → Prop) (i : Int) : Prop :=
  R []

def disk_Disk_Read.L0 (R : List UInt8 →
  Int →
    Bool →
      Bool →
        Int →
          Bool →
            List Int →
              List (List (List UInt8)) →
                List (Int × List (List UInt8)) →
                  Prop) (i : Int) (t29 : Int) (t30 : Int) (down : Bool) (armed : Bool) (after : Int) (acut : Bool) (keep : List
  Int) (bs : List
  (List
    (List
      UInt8))) (ws : List
  (Int ×
    List
      (List
        UInt8))) (b : List
  (List UInt8)) (K0 : Int × Int × Int × Bool × Bool × Int × Bool × List Int × List (List (List UInt8)) × List (Int × List (List UInt8)) × List (List UInt8) × Unit → Prop) : Prop :=
  bif decide (t30 < t29) then
    Ix t30 ws.length ∧
      bif decide ((nth ws t30 (0, List.replicate 4 [])).fst = i) then
        Ln 4 b.length ∧
          Rg IntKind.i64 (t30 + 1) ∧
            K0
              (i, t29, t30 + 1, down, armed, after, acut, keep, bs, ws,
                [List.headD (nth ws t30 (0, List.replicate 4 [])).snd [], (List.tail (nth ws t30 (0, List.replicate 4 [])).snd).headD [],
                  (List.tail (nth ws t30 (0, List.replicate 4 [])).snd).tail.headD [], (List.tail (nth ws t30 (0, List.replicate 4 [])).snd).tail.tail.headD []],
                ())
      else Rg IntKind.i64 (t30 + 1) ∧ K0 (i, t29, t30 + 1, down, armed, after, acut, keep, bs, ws, b, ())
  else Ln 4 b.length ∧ Sp.textB4.pre b ∧ R (Sp.textB4 b) 0 down armed after acut keep bs ws
def disk_Disk_Read.vc (R : List UInt8 →
  Int →
    Bool →
      Bool →
        Int →
          Bool →
            List Int →
              List (List (List UInt8)) →
                List (Int × List (List UInt8)) →
                  Prop) (i : Int) (down : Bool) (armed : Bool) (after : Int) (acut : Bool) (keep : List Int) (bs : List (List Str)) (ws : List (Int × List Str)) : Prop :=
  Sp.dPre (down, armed, after, acut, keep, bs, ws) ∧
    bif !Sp.inD i (down, armed, after, acut, keep, bs, ws) then R [] 1 down armed after acut keep bs ws
    else
      Sp.dPre (down, armed, after, acut, keep, bs, ws) ∧
        bif !Sp.upD (down, armed, after, acut, keep, bs, ws) then R [] 271 down armed after acut keep bs ws
        else
          Ix i bs.length ∧
            Ln 4 4 ∧
              Lp
                (fun v K =>
                  disk_Disk_Read.L0 R v.fst v.snd.fst v.snd.snd.fst v.snd.snd.snd.fst v.snd.snd.snd.snd.fst v.snd.snd.snd.snd.snd.fst v.snd.snd.snd.snd.snd.snd.fst
                    v.snd.snd.snd.snd.snd.snd.snd.fst v.snd.snd.snd.snd.snd.snd.snd.snd.fst v.snd.snd.snd.snd.snd.snd.snd.snd.snd.fst v.snd.snd.snd.snd.snd.snd.snd.snd.snd.snd.fst K)
                (i, (↑ws.length : Int), 0, down, armed, after, acut, keep, bs, ws, nth bs i (List.replicate 4 ([] : List UInt8)), ())

def disk_Read_nil.vc (R : List UInt8 → Int → Prop) (i : Int) : Prop :=
  R [] 1

def disk_Disk_fall.L0 (R : Bool →
  Bool →
    Int →
      Bool →
        List Int →
          List (List (List UInt8)) →
            List (Int × List (List UInt8)) →
              Prop) (keep' : List
  Int) (t11 : Int) (t12 : Int) (down : Bool) (armed : Bool) (after : Int) (acut : Bool) (keep : List
  Int) (bs : List
  (List
    (List
      UInt8))) (ws : List
  (Int × List (List UInt8))) (K0 : List Int × Int × Int × Bool × Bool × Int × Bool × List Int × List (List (List UInt8)) × List (Int × List (List UInt8)) × Unit → Prop) : Prop :=
  bif decide (t12 < t11) then
    Ix t12 ws.length ∧
      bif decide (t12 < (↑keep'.length : Int)) then
        Ix t12 keep'.length ∧
          Ix (nth ws t12 (0, List.replicate 4 [])).fst bs.length ∧
            Sb 0 (mn (mx (nth keep' t12 0) 0) 4) 4 ∧
              Sb 0 (mn (mx (nth keep' t12 0) 0) 4) 4 ∧
                Eqi (mn (mx (nth keep' t12 0) 0) 4) (mn (mx (nth keep' t12 0) 0) 4) ∧
                  Rg IntKind.i64 (t12 + 1) ∧
                    K0
                      (keep', t11, t12 + 1, down, armed, after, acut, keep,
                        bs.set (Int.toNat (nth ws t12 (0, List.replicate 4 [])).fst)
                          (cpA (mn (mx (nth keep' t12 0) 0) 4)
                            [List.headD (nth ws t12 (0, List.replicate 4 [])).snd [], (List.tail (nth ws t12 (0, List.replicate 4 [])).snd).headD [],
                              (List.tail (nth ws t12 (0, List.replicate 4 [])).snd).tail.headD [], (List.tail (nth ws t12 (0, List.replicate 4 [])).snd).tail.tail.headD []]
                            (nth bs (nth ws t12 (0, List.replicate 4 [])).fst (List.replicate 4 ([] : List UInt8)))),
                        ws, ())
      else
        Ix (nth ws t12 (0, List.replicate 4 [])).fst bs.length ∧
          Sb 0 0 4 ∧
            Sb 0 0 4 ∧
              Eqi 0 0 ∧
                Rg IntKind.i64 (t12 + 1) ∧
                  K0
                    (keep', t11, t12 + 1, down, armed, after, acut, keep,
                      bs.set (Int.toNat (nth ws t12 (0, List.replicate 4 [])).fst)
                        (cpA 0
                          [List.headD (nth ws t12 (0, List.replicate 4 [])).snd [], (List.tail (nth ws t12 (0, List.replicate 4 [])).snd).headD [],
                            (List.tail (nth ws t12 (0, List.replicate 4 [])).snd).tail.headD [], (List.tail (nth ws t12 (0, List.replicate 4 [])).snd).tail.tail.headD []]
                          (nth bs (nth ws t12 (0, List.replicate 4 [])).fst (List.replicate 4 ([] : List UInt8)))),
                      ws, ())
  else R true false after acut keep bs []
def disk_Disk_fall.vc (R : Bool →
  Bool →
    Int →
      Bool →
        List Int →
          List (List (List UInt8)) →
            List (Int × List (List UInt8)) →
              Prop) (keep_ : List Int) (down : Bool) (armed : Bool) (after : Int) (acut : Bool) (keep : List Int) (bs : List (List Str)) (ws : List (Int × List Str)) : Prop :=
  Lp
    (fun v K =>
      disk_Disk_fall.L0 R v.fst v.snd.fst v.snd.snd.fst v.snd.snd.snd.fst v.snd.snd.snd.snd.fst v.snd.snd.snd.snd.snd.fst v.snd.snd.snd.snd.snd.snd.fst v.snd.snd.snd.snd.snd.snd.snd.fst
        v.snd.snd.snd.snd.snd.snd.snd.snd.fst v.snd.snd.snd.snd.snd.snd.snd.snd.snd.fst K)
    (keep_, (↑ws.length : Int), 0, down, armed, after, acut, keep, bs, ws, ())

def disk_Disk_goes.vc (R : Int →
  Bool →
    Bool →
      Bool →
        Int →
          Bool →
            List Int →
              List (List (List UInt8)) →
                List (Int × List (List UInt8)) →
                  Prop) (down : Bool) (armed : Bool) (after : Int) (acut : Bool) (keep : List Int) (bs : List (List Str)) (ws : List (Int × List Str)) : Prop :=
  bif !armed then R 0 false down armed after acut keep bs ws
  else
    bif decide (0 < after) then Rg IntKind.i64 (after - 1) ∧ R 0 false down armed (after - 1) acut keep bs ws
    else
      bif !acut then R 270 true down false after acut keep bs ws
      else
        Sp.dFall.pre keep (down, false, after, acut, keep, bs, ws) ∧
          R 271 true (Sp.dFall keep (down, false, after, acut, keep, bs, ws)).fst (Sp.dFall keep (down, false, after, acut, keep, bs, ws)).snd.fst
            (Sp.dFall keep (down, false, after, acut, keep, bs, ws)).snd.snd.fst (Sp.dFall keep (down, false, after, acut, keep, bs, ws)).snd.snd.snd.fst
            (Sp.dFall keep (down, false, after, acut, keep, bs, ws)).snd.snd.snd.snd.fst (Sp.dFall keep (down, false, after, acut, keep, bs, ws)).snd.snd.snd.snd.snd.fst
            (Sp.dFall keep (down, false, after, acut, keep, bs, ws)).snd.snd.snd.snd.snd.snd

def disk_Disk_Write.vc (R : Int →
  Bool →
    Bool →
      Int →
        Bool →
          List Int →
            List (List (List UInt8)) →
              List (Int × List (List UInt8)) →
                Prop) (i : Int) (s : Str) (down : Bool) (armed : Bool) (after : Int) (acut : Bool) (keep : List Int) (bs : List (List Str)) (ws : List (Int × List Str)) : Prop :=
  Sp.dPre (down, armed, after, acut, keep, bs, ws) ∧
    bif !Sp.inD i (down, armed, after, acut, keep, bs, ws) then R 1 down armed after acut keep bs ws
    else
      bif !decide ((↑(List.length s) : Int) = 256) then R 1 down armed after acut keep bs ws
      else
        Sp.dPre (down, armed, after, acut, keep, bs, ws) ∧
          bif !Sp.upD (down, armed, after, acut, keep, bs, ws) then R 271 down armed after acut keep bs ws
          else
            Sp.dPre (down, armed, after, acut, keep, bs, ws) ∧
              bif (Sp.dGoes (down, armed, after, acut, keep, bs, ws)).snd.snd then
                R (Sp.dGoes (down, armed, after, acut, keep, bs, ws)).snd.fst (Sp.dGoes (down, armed, after, acut, keep, bs, ws)).fst.fst
                  (Sp.dGoes (down, armed, after, acut, keep, bs, ws)).fst.snd.fst (Sp.dGoes (down, armed, after, acut, keep, bs, ws)).fst.snd.snd.fst
                  (Sp.dGoes (down, armed, after, acut, keep, bs, ws)).fst.snd.snd.snd.fst (Sp.dGoes (down, armed, after, acut, keep, bs, ws)).fst.snd.snd.snd.snd.fst
                  (Sp.dGoes (down, armed, after, acut, keep, bs, ws)).fst.snd.snd.snd.snd.snd.fst (Sp.dGoes (down, armed, after, acut, keep, bs, ws)).fst.snd.snd.snd.snd.snd.snd
              else
                Sp.cutB.pre s ∧
                  Gr (Sp.dGoes (down, armed, after, acut, keep, bs, ws)).fst.snd.snd.snd.snd.snd.snd.length 1 72 ∧
                    R 0 (Sp.dGoes (down, armed, after, acut, keep, bs, ws)).fst.fst (Sp.dGoes (down, armed, after, acut, keep, bs, ws)).fst.snd.fst
                      (Sp.dGoes (down, armed, after, acut, keep, bs, ws)).fst.snd.snd.fst (Sp.dGoes (down, armed, after, acut, keep, bs, ws)).fst.snd.snd.snd.fst
                      (Sp.dGoes (down, armed, after, acut, keep, bs, ws)).fst.snd.snd.snd.snd.fst (Sp.dGoes (down, armed, after, acut, keep, bs, ws)).fst.snd.snd.snd.snd.snd.fst
                      ((Sp.dGoes (down, armed, after, acut, keep, bs, ws)).fst.snd.snd.snd.snd.snd.snd ++
                        [(i, [List.headD (Sp.cutB s) [], (List.tail (Sp.cutB s)).headD [], (List.tail (Sp.cutB s)).tail.headD [], (List.tail (Sp.cutB s)).tail.tail.headD []])])

def disk_Write_nil.vc (R : Int → Prop) (i : Int) (s : Str) : Prop :=
  R 1

def disk_Disk_Flush.L0 (R : Int →
  Bool →
    Bool →
      Int →
        Bool →
          List Int →
            List (List (List UInt8)) →
              List (Int × List (List UInt8)) →
                Prop) (e : Int) (t21 : Int) (t22 : Int) (down : Bool) (armed : Bool) (after : Int) (acut : Bool) (keep : List
  Int) (bs : List
  (List
    (List
      UInt8))) (ws : List
  (Int × List (List UInt8))) (K0 : Int × Int × Int × Bool × Bool × Int × Bool × List Int × List (List (List UInt8)) × List (Int × List (List UInt8)) × Unit → Prop) : Prop :=
  bif decide (t22 < t21) then
    Ix t22 ws.length ∧
      Ix (nth ws t22 (0, List.replicate 4 [])).fst bs.length ∧
        Rg IntKind.i64 (t22 + 1) ∧
          K0
            (e, t21, t22 + 1, down, armed, after, acut, keep,
              bs.set (Int.toNat (nth ws t22 (0, List.replicate 4 [])).fst)
                [List.headD (nth ws t22 (0, List.replicate 4 [])).snd [], (List.tail (nth ws t22 (0, List.replicate 4 [])).snd).headD [],
                  (List.tail (nth ws t22 (0, List.replicate 4 [])).snd).tail.headD [], (List.tail (nth ws t22 (0, List.replicate 4 [])).snd).tail.tail.headD []],
              ws, ())
  else R e down armed after acut keep bs []
def disk_Disk_Flush.vc (R : Int →
  Bool →
    Bool →
      Int →
        Bool →
          List Int →
            List (List (List UInt8)) →
              List (Int × List (List UInt8)) → Prop) (down : Bool) (armed : Bool) (after : Int) (acut : Bool) (keep : List Int) (bs : List (List Str)) (ws : List (Int × List Str)) : Prop :=
  Sp.dPre (down, armed, after, acut, keep, bs, ws) ∧
    bif !Sp.upD (down, armed, after, acut, keep, bs, ws) then R 271 down armed after acut keep bs ws
    else
      Sp.dPre (down, armed, after, acut, keep, bs, ws) ∧
        bif !(Sp.dGoes (down, armed, after, acut, keep, bs, ws)).snd.snd then
          Lp
            (fun v K =>
              disk_Disk_Flush.L0 R v.fst v.snd.fst v.snd.snd.fst v.snd.snd.snd.fst v.snd.snd.snd.snd.fst v.snd.snd.snd.snd.snd.fst v.snd.snd.snd.snd.snd.snd.fst
                v.snd.snd.snd.snd.snd.snd.snd.fst v.snd.snd.snd.snd.snd.snd.snd.snd.fst v.snd.snd.snd.snd.snd.snd.snd.snd.snd.fst K)
            ((Sp.dGoes (down, armed, after, acut, keep, bs, ws)).snd.fst, (↑(Sp.dGoes (down, armed, after, acut, keep, bs, ws)).fst.snd.snd.snd.snd.snd.snd.length : Int), 0,
              (Sp.dGoes (down, armed, after, acut, keep, bs, ws)).fst.fst, (Sp.dGoes (down, armed, after, acut, keep, bs, ws)).fst.snd.fst,
              (Sp.dGoes (down, armed, after, acut, keep, bs, ws)).fst.snd.snd.fst, (Sp.dGoes (down, armed, after, acut, keep, bs, ws)).fst.snd.snd.snd.fst,
              (Sp.dGoes (down, armed, after, acut, keep, bs, ws)).fst.snd.snd.snd.snd.fst, (Sp.dGoes (down, armed, after, acut, keep, bs, ws)).fst.snd.snd.snd.snd.snd.fst,
              (Sp.dGoes (down, armed, after, acut, keep, bs, ws)).fst.snd.snd.snd.snd.snd.snd, ())
        else
          R (Sp.dGoes (down, armed, after, acut, keep, bs, ws)).snd.fst (Sp.dGoes (down, armed, after, acut, keep, bs, ws)).fst.fst
            (Sp.dGoes (down, armed, after, acut, keep, bs, ws)).fst.snd.fst (Sp.dGoes (down, armed, after, acut, keep, bs, ws)).fst.snd.snd.fst
            (Sp.dGoes (down, armed, after, acut, keep, bs, ws)).fst.snd.snd.snd.fst (Sp.dGoes (down, armed, after, acut, keep, bs, ws)).fst.snd.snd.snd.snd.fst
            (Sp.dGoes (down, armed, after, acut, keep, bs, ws)).fst.snd.snd.snd.snd.snd.fst []

def disk_Flush_nil.vc (R : Int → Prop) : Prop :=
  R 271

def disk_Disk_Set.vc (R : Int →
  Bool →
    Bool →
      Int →
        Bool →
          List Int →
            List (List (List UInt8)) →
              List (Int × List (List UInt8)) →
                Prop) (a : Int × Bool × List Int) (down : Bool) (armed : Bool) (after : Int) (acut : Bool) (keep : List Int) (bs : List (List Str)) (ws : List (Int × List Str)) : Prop :=
  bif decide (a.fst < 0) then R 1 down armed after acut keep bs ws
  else
    Sp.dPre (down, armed, after, acut, keep, bs, ws) ∧
      bif !Sp.upD (down, armed, after, acut, keep, bs, ws) then R 271 down armed after acut keep bs ws
      else Sp.cloneI.pre a.snd.snd ∧ R 0 down true a.fst a.snd.fst (Sp.cloneI a.snd.snd) bs ws

def disk_Set_nil.vc (R : Int → Prop) (a : Int × Bool × List Int) : Prop :=
  bif decide (a.fst < 0) then R 1 else R 271

def disk_Disk_Crash.vc (R : Int →
  Bool →
    Bool →
      Int →
        Bool →
          List Int →
            List (List (List UInt8)) →
              List (Int × List (List UInt8)) →
                Prop) (keep_ : List Int) (down : Bool) (armed : Bool) (after : Int) (acut : Bool) (keep : List Int) (bs : List (List Str)) (ws : List (Int × List Str)) : Prop :=
  Sp.dPre (down, armed, after, acut, keep, bs, ws) ∧
    bif !Sp.upD (down, armed, after, acut, keep, bs, ws) then R 271 down armed after acut keep bs ws
    else
      Sp.dFall.pre keep_ (down, armed, after, acut, keep, bs, ws) ∧
        R 0 (Sp.dFall keep_ (down, armed, after, acut, keep, bs, ws)).fst (Sp.dFall keep_ (down, armed, after, acut, keep, bs, ws)).snd.fst
          (Sp.dFall keep_ (down, armed, after, acut, keep, bs, ws)).snd.snd.fst (Sp.dFall keep_ (down, armed, after, acut, keep, bs, ws)).snd.snd.snd.fst
          (Sp.dFall keep_ (down, armed, after, acut, keep, bs, ws)).snd.snd.snd.snd.fst (Sp.dFall keep_ (down, armed, after, acut, keep, bs, ws)).snd.snd.snd.snd.snd.fst
          (Sp.dFall keep_ (down, armed, after, acut, keep, bs, ws)).snd.snd.snd.snd.snd.snd

def disk_Crash_nil.vc (R : Int → Prop) (keep_ : List Int) : Prop :=
  R 271

def disk_Disk_Start.vc (R : Int →
  Bool →
    Bool →
      Int →
        Bool →
          List Int →
            List (List (List UInt8)) →
              List (Int × List (List UInt8)) → Prop) (down : Bool) (armed : Bool) (after : Int) (acut : Bool) (keep : List Int) (bs : List (List Str)) (ws : List (Int × List Str)) : Prop :=
  bif !down then R 7 down armed after acut keep bs ws else R 0 false armed after acut keep bs ws

def disk_Start_nil.vc (R : Int → Prop) : Prop :=
  R 7

def rectoref27_New.L1 (R : Bool →
  Bool →
    Int →
      Bool →
        List Int →
          List (List UInt8) →
            List (Int × List UInt8) →
              Prop) (blocks : Int) (zero : List
  UInt8) (i : Int) (d_rdown : Bool) (d_rarmed : Bool) (d_rafter : Int) (d_racut : Bool) (d_rkeep : List
  Int) (d_rbs : List
  (List UInt8)) (d_rws : List (Int × List UInt8)) (K1 : Int × List UInt8 × Int × Bool × Bool × Int × Bool × List Int × List (List UInt8) × List (Int × List UInt8) × Unit → Prop) : Prop :=
  bif decide (i < blocks) then Gr d_rbs.length 1 16 ∧ Rg IntKind.i64 (i + 1) ∧ K1 (blocks, zero, i + 1, d_rdown, d_rarmed, d_rafter, d_racut, d_rkeep, d_rbs ++ [zero], d_rws, ())
  else R d_rdown d_rarmed d_rafter d_racut d_rkeep d_rbs d_rws
def rectoref27_New.L0 (R : Bool →
  Bool → Int → Bool → List Int → List (List UInt8) → List (Int × List UInt8) → Prop) (blocks : Int) (zero : List UInt8) (i : Int) (K0 : Int × List UInt8 × Int × Unit → Prop) : Prop :=
  bif decide (i < 256) then (↑zero.length : Int) + (↑1 : Int) ≤ 9223372036854775807 ∧ Rg IntKind.i64 (i + 1) ∧ K0 (blocks, zero ++ [0], i + 1, ())
  else
    Lp
      (fun v K =>
        rectoref27_New.L1 R v.fst v.snd.fst v.snd.snd.fst v.snd.snd.snd.fst v.snd.snd.snd.snd.fst v.snd.snd.snd.snd.snd.fst v.snd.snd.snd.snd.snd.snd.fst v.snd.snd.snd.snd.snd.snd.snd.fst
          v.snd.snd.snd.snd.snd.snd.snd.snd.fst v.snd.snd.snd.snd.snd.snd.snd.snd.snd.fst K)
      (blocks, zero, 0, false, false, 0, false, [], [], [], ())
def rectoref27_New.vc (R : Bool → Bool → Int → Bool → List Int → List (List UInt8) → List (Int × List UInt8) → Prop) (blocks : Int) : Prop :=
  Lp (fun v K => rectoref27_New.L0 R v.fst v.snd.fst v.snd.snd.fst K) (blocks, [], 0, ())

def rectoref27_Disk_Read.L0 (R : List UInt8 →
  Int →
    Bool →
      Bool →
        Int →
          Bool →
            List Int →
              List (List UInt8) →
                List (Int × List UInt8) →
                  Prop) (i : Int) (s : List
  UInt8) (t35 : Int) (t36 : Int) (rdown : Bool) (rarmed : Bool) (rafter : Int) (racut : Bool) (rkeep : List
  Int) (rbs : List
  (List
    UInt8)) (rws : List (Int × List UInt8)) (K0 : Int × List UInt8 × Int × Int × Bool × Bool × Int × Bool × List Int × List (List UInt8) × List (Int × List UInt8) × Unit → Prop) : Prop :=
  bif decide (t36 < t35) then
    Ix t36 rws.length ∧
      bif decide ((nth rws t36 (0, [])).fst = i) then Rg IntKind.i64 (t36 + 1) ∧ K0 (i, (nth rws t36 (0, [])).snd, t35, t36 + 1, rdown, rarmed, rafter, racut, rkeep, rbs, rws, ())
      else Rg IntKind.i64 (t36 + 1) ∧ K0 (i, s, t35, t36 + 1, rdown, rarmed, rafter, racut, rkeep, rbs, rws, ())
  else R s 0 rdown rarmed rafter racut rkeep rbs rws
def rectoref27_Disk_Read.vc (R : List UInt8 →
  Int →
    Bool →
      Bool →
        Int →
          Bool →
            List Int →
              List (List UInt8) →
                List (Int × List UInt8) → Prop) (i : Int) (rdown : Bool) (rarmed : Bool) (rafter : Int) (racut : Bool) (rkeep : List Int) (rbs : List Str) (rws : List (Int × Str)) : Prop :=
  bif decide (i < 0) then R [] 1 rdown rarmed rafter racut rkeep rbs rws
  else
    bif decide ((↑rbs.length : Int) ≤ i) then R [] 1 rdown rarmed rafter racut rkeep rbs rws
    else
      bif rdown then R [] 271 rdown rarmed rafter racut rkeep rbs rws
      else
        Ix i rbs.length ∧
          Lp
            (fun v K =>
              rectoref27_Disk_Read.L0 R v.fst v.snd.fst v.snd.snd.fst v.snd.snd.snd.fst v.snd.snd.snd.snd.fst v.snd.snd.snd.snd.snd.fst v.snd.snd.snd.snd.snd.snd.fst
                v.snd.snd.snd.snd.snd.snd.snd.fst v.snd.snd.snd.snd.snd.snd.snd.snd.fst v.snd.snd.snd.snd.snd.snd.snd.snd.snd.fst v.snd.snd.snd.snd.snd.snd.snd.snd.snd.snd.fst K)
            (i, nth rbs i [], (↑rws.length : Int), 0, rdown, rarmed, rafter, racut, rkeep, rbs, rws, ())

def rectoref27_Disk_Fall.L0 (R : Bool →
  Bool →
    Int →
      Bool →
        List Int →
          List (List UInt8) →
            List (Int × List UInt8) →
              Prop) (keep : List
  Int) (t11 : Int) (t12 : Int) (rdown : Bool) (rarmed : Bool) (rafter : Int) (racut : Bool) (rkeep : List
  Int) (rbs : List
  (List UInt8)) (rws : List (Int × List UInt8)) (K0 : List Int × Int × Int × Bool × Bool × Int × Bool × List Int × List (List UInt8) × List (Int × List UInt8) × Unit → Prop) : Prop :=
  bif decide (t12 < t11) then
    Ix t12 rws.length ∧
      bif decide (t12 < (↑keep.length : Int)) then
        Ix t12 keep.length ∧
          bif decide (0 < nth keep t12 0) then
            Ix t12 keep.length ∧
              bif decide (4 < nth keep t12 0) then
                Rg IntKind.i64 (64 * 4) ∧
                  Sb 0 (64 * 4) (List.length (nth rws t12 (0, [])).snd) ∧
                    Ix (nth rws t12 (0, [])).fst rbs.length ∧
                      Rg IntKind.i64 (64 * 4) ∧
                        Sb (64 * 4) (↑(List.length (nth rbs (nth rws t12 (0, [])).fst [])) : Int) (List.length (nth rbs (nth rws t12 (0, [])).fst [])) ∧
                          (↑(sub (nth rws t12 (0, [])).snd 0 (64 * 4)).length : Int) +
                                (↑(sub (nth rbs (nth rws t12 (0, [])).fst []) (64 * 4) (↑(List.length (nth rbs (nth rws t12 (0, [])).fst [])) : Int)).length : Int) ≤
                              9223372036854775807 ∧
                            Ix (nth rws t12 (0, [])).fst rbs.length ∧
                              Rg IntKind.i64 (t12 + 1) ∧
                                K0
                                  (keep, t11, t12 + 1, rdown, rarmed, rafter, racut, rkeep,
                                    rbs.set (Int.toNat (nth rws t12 (0, [])).fst)
                                      (sub (nth rws t12 (0, [])).snd 0 (64 * 4) ++
                                        sub (nth rbs (nth rws t12 (0, [])).fst []) (64 * 4) (↑(List.length (nth rbs (nth rws t12 (0, [])).fst [])) : Int)),
                                    rws, ())
              else
                Rg IntKind.i64 (64 * nth keep t12 0) ∧
                  Sb 0 (64 * nth keep t12 0) (List.length (nth rws t12 (0, [])).snd) ∧
                    Ix (nth rws t12 (0, [])).fst rbs.length ∧
                      Rg IntKind.i64 (64 * nth keep t12 0) ∧
                        Sb (64 * nth keep t12 0) (↑(List.length (nth rbs (nth rws t12 (0, [])).fst [])) : Int) (List.length (nth rbs (nth rws t12 (0, [])).fst [])) ∧
                          (↑(sub (nth rws t12 (0, [])).snd 0 (64 * nth keep t12 0)).length : Int) +
                                (↑(sub (nth rbs (nth rws t12 (0, [])).fst []) (64 * nth keep t12 0) (↑(List.length (nth rbs (nth rws t12 (0, [])).fst [])) : Int)).length : Int) ≤
                              9223372036854775807 ∧
                            Ix (nth rws t12 (0, [])).fst rbs.length ∧
                              Rg IntKind.i64 (t12 + 1) ∧
                                K0
                                  (keep, t11, t12 + 1, rdown, rarmed, rafter, racut, rkeep,
                                    rbs.set (Int.toNat (nth rws t12 (0, [])).fst)
                                      (sub (nth rws t12 (0, [])).snd 0 (64 * nth keep t12 0) ++
                                        sub (nth rbs (nth rws t12 (0, [])).fst []) (64 * nth keep t12 0) (↑(List.length (nth rbs (nth rws t12 (0, [])).fst [])) : Int)),
                                    rws, ())
          else
            Rg IntKind.i64 (64 * 0) ∧
              Sb 0 (64 * 0) (List.length (nth rws t12 (0, [])).snd) ∧
                Ix (nth rws t12 (0, [])).fst rbs.length ∧
                  Rg IntKind.i64 (64 * 0) ∧
                    Sb (64 * 0) (↑(List.length (nth rbs (nth rws t12 (0, [])).fst [])) : Int) (List.length (nth rbs (nth rws t12 (0, [])).fst [])) ∧
                      (↑(sub (nth rws t12 (0, [])).snd 0 (64 * 0)).length : Int) +
                            (↑(sub (nth rbs (nth rws t12 (0, [])).fst []) (64 * 0) (↑(List.length (nth rbs (nth rws t12 (0, [])).fst [])) : Int)).length : Int) ≤
                          9223372036854775807 ∧
                        Ix (nth rws t12 (0, [])).fst rbs.length ∧
                          Rg IntKind.i64 (t12 + 1) ∧
                            K0
                              (keep, t11, t12 + 1, rdown, rarmed, rafter, racut, rkeep,
                                rbs.set (Int.toNat (nth rws t12 (0, [])).fst)
                                  (sub (nth rws t12 (0, [])).snd 0 (64 * 0) ++
                                    sub (nth rbs (nth rws t12 (0, [])).fst []) (64 * 0) (↑(List.length (nth rbs (nth rws t12 (0, [])).fst [])) : Int)),
                                rws, ())
      else
        Rg IntKind.i64 (64 * 0) ∧
          Sb 0 (64 * 0) (List.length (nth rws t12 (0, [])).snd) ∧
            Ix (nth rws t12 (0, [])).fst rbs.length ∧
              Rg IntKind.i64 (64 * 0) ∧
                Sb (64 * 0) (↑(List.length (nth rbs (nth rws t12 (0, [])).fst [])) : Int) (List.length (nth rbs (nth rws t12 (0, [])).fst [])) ∧
                  (↑(sub (nth rws t12 (0, [])).snd 0 (64 * 0)).length : Int) +
                        (↑(sub (nth rbs (nth rws t12 (0, [])).fst []) (64 * 0) (↑(List.length (nth rbs (nth rws t12 (0, [])).fst [])) : Int)).length : Int) ≤
                      9223372036854775807 ∧
                    Ix (nth rws t12 (0, [])).fst rbs.length ∧
                      Rg IntKind.i64 (t12 + 1) ∧
                        K0
                          (keep, t11, t12 + 1, rdown, rarmed, rafter, racut, rkeep,
                            rbs.set (Int.toNat (nth rws t12 (0, [])).fst)
                              (sub (nth rws t12 (0, [])).snd 0 (64 * 0) ++ sub (nth rbs (nth rws t12 (0, [])).fst []) (64 * 0) (↑(List.length (nth rbs (nth rws t12 (0, [])).fst [])) : Int)),
                            rws, ())
  else R true false rafter racut rkeep rbs []
def rectoref27_Disk_Fall.vc (R : Bool →
  Bool →
    Int →
      Bool →
        List Int →
          List (List UInt8) →
            List (Int × List UInt8) →
              Prop) (keep_ : List Int) (rdown : Bool) (rarmed : Bool) (rafter : Int) (racut : Bool) (rkeep : List Int) (rbs : List Str) (rws : List (Int × Str)) : Prop :=
  Lp
    (fun v K =>
      rectoref27_Disk_Fall.L0 R v.fst v.snd.fst v.snd.snd.fst v.snd.snd.snd.fst v.snd.snd.snd.snd.fst v.snd.snd.snd.snd.snd.fst v.snd.snd.snd.snd.snd.snd.fst
        v.snd.snd.snd.snd.snd.snd.snd.fst v.snd.snd.snd.snd.snd.snd.snd.snd.fst v.snd.snd.snd.snd.snd.snd.snd.snd.snd.fst K)
    (keep_, (↑rws.length : Int), 0, rdown, rarmed, rafter, racut, rkeep, rbs, rws, ())

def rectoref27_Disk_goes.vc (R : Int →
  Bool →
    Bool →
      Int →
        Bool →
          List Int →
            List (List UInt8) →
              List (Int × List UInt8) → Prop) (rdown : Bool) (rarmed : Bool) (rafter : Int) (racut : Bool) (rkeep : List Int) (rbs : List Str) (rws : List (Int × Str)) : Prop :=
  bif !rarmed then R 0 rdown rarmed rafter racut rkeep rbs rws
  else
    bif decide (0 < rafter) then Rg IntKind.i64 (rafter - 1) ∧ R 0 rdown rarmed (rafter - 1) racut rkeep rbs rws
    else
      bif racut then
        Sp.rFall.pre rkeep (rdown, false, rafter, racut, rkeep, rbs, rws) ∧
          R 271 (Sp.rFall rkeep (rdown, false, rafter, racut, rkeep, rbs, rws)).fst (Sp.rFall rkeep (rdown, false, rafter, racut, rkeep, rbs, rws)).snd.fst
            (Sp.rFall rkeep (rdown, false, rafter, racut, rkeep, rbs, rws)).snd.snd.fst (Sp.rFall rkeep (rdown, false, rafter, racut, rkeep, rbs, rws)).snd.snd.snd.fst
            (Sp.rFall rkeep (rdown, false, rafter, racut, rkeep, rbs, rws)).snd.snd.snd.snd.fst (Sp.rFall rkeep (rdown, false, rafter, racut, rkeep, rbs, rws)).snd.snd.snd.snd.snd.fst
            (Sp.rFall rkeep (rdown, false, rafter, racut, rkeep, rbs, rws)).snd.snd.snd.snd.snd.snd
      else R 270 rdown false rafter racut rkeep rbs rws

def rectoref27_Disk_Write.vc (R : Int →
  Bool →
    Bool →
      Int →
        Bool →
          List Int →
            List (List UInt8) →
              List (Int × List UInt8) →
                Prop) (i : Int) (s : Str) (rdown : Bool) (rarmed : Bool) (rafter : Int) (racut : Bool) (rkeep : List Int) (rbs : List Str) (rws : List (Int × Str)) : Prop :=
  bif decide (i < 0) then R 1 rdown rarmed rafter racut rkeep rbs rws
  else
    bif decide ((↑rbs.length : Int) ≤ i) then R 1 rdown rarmed rafter racut rkeep rbs rws
    else
      bif !decide ((↑(List.length s) : Int) = 256) then R 1 rdown rarmed rafter racut rkeep rbs rws
      else
        bif rdown then R 271 rdown rarmed rafter racut rkeep rbs rws
        else
          Sp.rPre (rdown, rarmed, rafter, racut, rkeep, rbs, rws) ∧
            bif decide ((Sp.rGoes (rdown, rarmed, rafter, racut, rkeep, rbs, rws)).snd = 0) then
              Gr (Sp.rGoes (rdown, rarmed, rafter, racut, rkeep, rbs, rws)).fst.snd.snd.snd.snd.snd.snd.length 1 24 ∧
                R (Sp.rGoes (rdown, rarmed, rafter, racut, rkeep, rbs, rws)).snd (Sp.rGoes (rdown, rarmed, rafter, racut, rkeep, rbs, rws)).fst.fst
                  (Sp.rGoes (rdown, rarmed, rafter, racut, rkeep, rbs, rws)).fst.snd.fst (Sp.rGoes (rdown, rarmed, rafter, racut, rkeep, rbs, rws)).fst.snd.snd.fst
                  (Sp.rGoes (rdown, rarmed, rafter, racut, rkeep, rbs, rws)).fst.snd.snd.snd.fst (Sp.rGoes (rdown, rarmed, rafter, racut, rkeep, rbs, rws)).fst.snd.snd.snd.snd.fst
                  (Sp.rGoes (rdown, rarmed, rafter, racut, rkeep, rbs, rws)).fst.snd.snd.snd.snd.snd.fst
                  ((Sp.rGoes (rdown, rarmed, rafter, racut, rkeep, rbs, rws)).fst.snd.snd.snd.snd.snd.snd ++ [(i, s)])
            else
              R (Sp.rGoes (rdown, rarmed, rafter, racut, rkeep, rbs, rws)).snd (Sp.rGoes (rdown, rarmed, rafter, racut, rkeep, rbs, rws)).fst.fst
                (Sp.rGoes (rdown, rarmed, rafter, racut, rkeep, rbs, rws)).fst.snd.fst (Sp.rGoes (rdown, rarmed, rafter, racut, rkeep, rbs, rws)).fst.snd.snd.fst
                (Sp.rGoes (rdown, rarmed, rafter, racut, rkeep, rbs, rws)).fst.snd.snd.snd.fst (Sp.rGoes (rdown, rarmed, rafter, racut, rkeep, rbs, rws)).fst.snd.snd.snd.snd.fst
                (Sp.rGoes (rdown, rarmed, rafter, racut, rkeep, rbs, rws)).fst.snd.snd.snd.snd.snd.fst (Sp.rGoes (rdown, rarmed, rafter, racut, rkeep, rbs, rws)).fst.snd.snd.snd.snd.snd.snd

def rectoref27_Disk_Flush.L0 (R : Int →
  Bool →
    Bool →
      Int →
        Bool →
          List Int →
            List (List UInt8) →
              List (Int × List UInt8) →
                Prop) (e : Int) (t18 : Int) (t19 : Int) (rdown : Bool) (rarmed : Bool) (rafter : Int) (racut : Bool) (rkeep : List
  Int) (rbs : List
  (List UInt8)) (rws : List (Int × List UInt8)) (K0 : Int × Int × Int × Bool × Bool × Int × Bool × List Int × List (List UInt8) × List (Int × List UInt8) × Unit → Prop) : Prop :=
  bif decide (t19 < t18) then
    Ix t19 rws.length ∧
      Ix (nth rws t19 (0, [])).fst rbs.length ∧
        Rg IntKind.i64 (t19 + 1) ∧ K0 (e, t18, t19 + 1, rdown, rarmed, rafter, racut, rkeep, rbs.set (Int.toNat (nth rws t19 (0, [])).fst) (nth rws t19 (0, [])).snd, rws, ())
  else R e rdown rarmed rafter racut rkeep rbs []
def rectoref27_Disk_Flush.vc (R : Int →
  Bool →
    Bool →
      Int →
        Bool →
          List Int →
            List (List UInt8) →
              List (Int × List UInt8) → Prop) (rdown : Bool) (rarmed : Bool) (rafter : Int) (racut : Bool) (rkeep : List Int) (rbs : List Str) (rws : List (Int × Str)) : Prop :=
  bif rdown then R 271 rdown rarmed rafter racut rkeep rbs rws
  else
    Sp.rPre (rdown, rarmed, rafter, racut, rkeep, rbs, rws) ∧
      bif decide ((Sp.rGoes (rdown, rarmed, rafter, racut, rkeep, rbs, rws)).snd = 0) then
        Lp
          (fun v K =>
            rectoref27_Disk_Flush.L0 R v.fst v.snd.fst v.snd.snd.fst v.snd.snd.snd.fst v.snd.snd.snd.snd.fst v.snd.snd.snd.snd.snd.fst v.snd.snd.snd.snd.snd.snd.fst
              v.snd.snd.snd.snd.snd.snd.snd.fst v.snd.snd.snd.snd.snd.snd.snd.snd.fst v.snd.snd.snd.snd.snd.snd.snd.snd.snd.fst K)
          ((Sp.rGoes (rdown, rarmed, rafter, racut, rkeep, rbs, rws)).snd, (↑(Sp.rGoes (rdown, rarmed, rafter, racut, rkeep, rbs, rws)).fst.snd.snd.snd.snd.snd.snd.length : Int), 0,
            (Sp.rGoes (rdown, rarmed, rafter, racut, rkeep, rbs, rws)).fst.fst, (Sp.rGoes (rdown, rarmed, rafter, racut, rkeep, rbs, rws)).fst.snd.fst,
            (Sp.rGoes (rdown, rarmed, rafter, racut, rkeep, rbs, rws)).fst.snd.snd.fst, (Sp.rGoes (rdown, rarmed, rafter, racut, rkeep, rbs, rws)).fst.snd.snd.snd.fst,
            (Sp.rGoes (rdown, rarmed, rafter, racut, rkeep, rbs, rws)).fst.snd.snd.snd.snd.fst, (Sp.rGoes (rdown, rarmed, rafter, racut, rkeep, rbs, rws)).fst.snd.snd.snd.snd.snd.fst,
            (Sp.rGoes (rdown, rarmed, rafter, racut, rkeep, rbs, rws)).fst.snd.snd.snd.snd.snd.snd, ())
      else
        R (Sp.rGoes (rdown, rarmed, rafter, racut, rkeep, rbs, rws)).snd (Sp.rGoes (rdown, rarmed, rafter, racut, rkeep, rbs, rws)).fst.fst
          (Sp.rGoes (rdown, rarmed, rafter, racut, rkeep, rbs, rws)).fst.snd.fst (Sp.rGoes (rdown, rarmed, rafter, racut, rkeep, rbs, rws)).fst.snd.snd.fst
          (Sp.rGoes (rdown, rarmed, rafter, racut, rkeep, rbs, rws)).fst.snd.snd.snd.fst (Sp.rGoes (rdown, rarmed, rafter, racut, rkeep, rbs, rws)).fst.snd.snd.snd.snd.fst
          (Sp.rGoes (rdown, rarmed, rafter, racut, rkeep, rbs, rws)).fst.snd.snd.snd.snd.snd.fst []

def rectoref27_Disk_Set.vc (R : Int →
  Bool →
    Bool →
      Int →
        Bool →
          List Int →
            List (List UInt8) →
              List (Int × List UInt8) →
                Prop) (a : Int × Bool × List Int) (rdown : Bool) (rarmed : Bool) (rafter : Int) (racut : Bool) (rkeep : List Int) (rbs : List Str) (rws : List (Int × Str)) : Prop :=
  bif decide (a.fst < 0) then R 1 rdown rarmed rafter racut rkeep rbs rws
  else bif rdown then R 271 rdown rarmed rafter racut rkeep rbs rws else R 0 rdown true a.fst a.snd.fst a.snd.snd rbs rws

def rectoref27_Disk_Crash.vc (R : Int →
  Bool →
    Bool →
      Int →
        Bool →
          List Int →
            List (List UInt8) →
              List (Int × List UInt8) →
                Prop) (keep_ : List Int) (rdown : Bool) (rarmed : Bool) (rafter : Int) (racut : Bool) (rkeep : List Int) (rbs : List Str) (rws : List (Int × Str)) : Prop :=
  bif rdown then R 271 rdown rarmed rafter racut rkeep rbs rws
  else
    Sp.rFall.pre keep_ (rdown, rarmed, rafter, racut, rkeep, rbs, rws) ∧
      R 0 (Sp.rFall keep_ (rdown, rarmed, rafter, racut, rkeep, rbs, rws)).fst (Sp.rFall keep_ (rdown, rarmed, rafter, racut, rkeep, rbs, rws)).snd.fst
        (Sp.rFall keep_ (rdown, rarmed, rafter, racut, rkeep, rbs, rws)).snd.snd.fst (Sp.rFall keep_ (rdown, rarmed, rafter, racut, rkeep, rbs, rws)).snd.snd.snd.fst
        (Sp.rFall keep_ (rdown, rarmed, rafter, racut, rkeep, rbs, rws)).snd.snd.snd.snd.fst (Sp.rFall keep_ (rdown, rarmed, rafter, racut, rkeep, rbs, rws)).snd.snd.snd.snd.snd.fst
        (Sp.rFall keep_ (rdown, rarmed, rafter, racut, rkeep, rbs, rws)).snd.snd.snd.snd.snd.snd

def rectoref27_Disk_Start.vc (R : Int →
  Bool →
    Bool →
      Int →
        Bool →
          List Int →
            List (List UInt8) →
              List (Int × List UInt8) → Prop) (rdown : Bool) (rarmed : Bool) (rafter : Int) (racut : Bool) (rkeep : List Int) (rbs : List Str) (rws : List (Int × Str)) : Prop :=
  bif !rdown then R 7 rdown rarmed rafter racut rkeep rbs rws else R 0 false rarmed rafter racut rkeep rbs rws

def rectolaw27_fill.L0 (R : List UInt8 → Prop) (b : Int) (t7 : Int) (t8 : Int) (l : List Int) (K0 : Int × Int × Int × List Int × Unit → Prop) : Prop :=
  bif decide (t8 < t7) then Ix t8 l.length ∧ Rg IntKind.i64 (t8 + 1) ∧ K0 (b, t7, t8 + 1, l.set t8.toNat b, ()) else R (bytesOf l)
def rectolaw27_fill.vc (R : List UInt8 → Prop) (b : Int) : Prop :=
  Mk 256 256 1 ∧ Lp (fun v K => rectolaw27_fill.L0 R v.fst v.snd.fst v.snd.snd.fst v.snd.snd.snd.fst K) (b, (↑256 : Int), 0, rep 256 0, ())

def rectolaw27_torn.vc (R : Bool → Prop) : Prop :=
  Sp.fillB.pre 7 ∧
    Sp.dWrite.pre 1 (Sp.fillB 7) (false, false, (Sp.dNew 4).snd.snd.fst, false, (Sp.dNew 4).snd.snd.snd.snd) ∧
      Sp.dFall.pre [2]
          (false, false, (Sp.dWrite 1 (Sp.fillB 7) (false, false, (Sp.dNew 4).snd.snd.fst, false, (Sp.dNew 4).snd.snd.snd.snd)).fst.snd.snd.fst, false,
            (Sp.dWrite 1 (Sp.fillB 7) (false, false, (Sp.dNew 4).snd.snd.fst, false, (Sp.dNew 4).snd.snd.snd.snd)).fst.snd.snd.snd.snd) ∧
        Sp.dPre
            (true, false,
              (Sp.dCrash [2]
                        (false, false, (Sp.dWrite 1 (Sp.fillB 7) (false, false, (Sp.dNew 4).snd.snd.fst, false, (Sp.dNew 4).snd.snd.snd.snd)).fst.snd.snd.fst, false,
                          (Sp.dWrite 1 (Sp.fillB 7) (false, false, (Sp.dNew 4).snd.snd.fst, false, (Sp.dNew 4).snd.snd.snd.snd)).fst.snd.snd.snd.snd)).fst.snd.snd.fst,
              false,
              (Sp.dCrash [2]
                          (false, false, (Sp.dWrite 1 (Sp.fillB 7) (false, false, (Sp.dNew 4).snd.snd.fst, false, (Sp.dNew 4).snd.snd.snd.snd)).fst.snd.snd.fst, false,
                            (Sp.dWrite 1 (Sp.fillB 7) (false, false, (Sp.dNew 4).snd.snd.fst, false, (Sp.dNew 4).snd.snd.snd.snd)).fst.snd.snd.snd.snd)).fst.snd.snd.snd.snd) ∧
          Sp.dPre
              (false, false,
                (Sp.dStart
                          (true, false,
                            (Sp.dCrash [2]
                                      (false, false, (Sp.dWrite 1 (Sp.fillB 7) (false, false, (Sp.dNew 4).snd.snd.fst, false, (Sp.dNew 4).snd.snd.snd.snd)).fst.snd.snd.fst, false,
                                        (Sp.dWrite 1 (Sp.fillB 7) (false, false, (Sp.dNew 4).snd.snd.fst, false, (Sp.dNew 4).snd.snd.snd.snd)).fst.snd.snd.snd.snd)).fst.snd.snd.fst,
                            false,
                            (Sp.dCrash [2]
                                        (false, false, (Sp.dWrite 1 (Sp.fillB 7) (false, false, (Sp.dNew 4).snd.snd.fst, false, (Sp.dNew 4).snd.snd.snd.snd)).fst.snd.snd.fst, false,
                                          (Sp.dWrite 1 (Sp.fillB 7)
                                                      (false, false, (Sp.dNew 4).snd.snd.fst, false,
                                                        (Sp.dNew 4).snd.snd.snd.snd)).fst.snd.snd.snd.snd)).fst.snd.snd.snd.snd)).fst.snd.snd.fst,
                false,
                (Sp.dStart
                            (true, false,
                              (Sp.dCrash [2]
                                        (false, false, (Sp.dWrite 1 (Sp.fillB 7) (false, false, (Sp.dNew 4).snd.snd.fst, false, (Sp.dNew 4).snd.snd.snd.snd)).fst.snd.snd.fst, false,
                                          (Sp.dWrite 1 (Sp.fillB 7) (false, false, (Sp.dNew 4).snd.snd.fst, false, (Sp.dNew 4).snd.snd.snd.snd)).fst.snd.snd.snd.snd)).fst.snd.snd.fst,
                              false,
                              (Sp.dCrash [2]
                                          (false, false, (Sp.dWrite 1 (Sp.fillB 7) (false, false, (Sp.dNew 4).snd.snd.fst, false, (Sp.dNew 4).snd.snd.snd.snd)).fst.snd.snd.fst, false,
                                            (Sp.dWrite 1 (Sp.fillB 7)
                                                        (false, false, (Sp.dNew 4).snd.snd.fst, false,
                                                          (Sp.dNew 4).snd.snd.snd.snd)).fst.snd.snd.snd.snd)).fst.snd.snd.snd.snd)).fst.snd.snd.snd.snd) ∧
            Sp.fillB.pre 7 ∧
              Sb 0 128 256 ∧
                Sp.fillB.pre 0 ∧
                  Sb 0 128 256 ∧
                    (↑128 : Int) + (↑128 : Int) ≤ 9223372036854775807 ∧
                      Sp.dPre
                          (false, false,
                            (Sp.dStart
                                      (true, false,
                                        (Sp.dCrash [2]
                                                  (false, false, (Sp.dWrite 1 (Sp.fillB 7) (false, false, (Sp.dNew 4).snd.snd.fst, false, (Sp.dNew 4).snd.snd.snd.snd)).fst.snd.snd.fst,
                                                    false,
                                                    (Sp.dWrite 1 (Sp.fillB 7)
                                                                (false, false, (Sp.dNew 4).snd.snd.fst, false, (Sp.dNew 4).snd.snd.snd.snd)).fst.snd.snd.snd.snd)).fst.snd.snd.fst,
                                        false,
                                        (Sp.dCrash [2]
                                                    (false, false, (Sp.dWrite 1 (Sp.fillB 7) (false, false, (Sp.dNew 4).snd.snd.fst, false, (Sp.dNew 4).snd.snd.snd.snd)).fst.snd.snd.fst,
                                                      false,
                                                      (Sp.dWrite 1 (Sp.fillB 7)
                                                                  (false, false, (Sp.dNew 4).snd.snd.fst, false,
                                                                    (Sp.dNew 4).snd.snd.snd.snd)).fst.snd.snd.snd.snd)).fst.snd.snd.snd.snd)).fst.snd.snd.fst,
                            false,
                            (Sp.dStart
                                        (true, false,
                                          (Sp.dCrash [2]
                                                    (false, false, (Sp.dWrite 1 (Sp.fillB 7) (false, false, (Sp.dNew 4).snd.snd.fst, false, (Sp.dNew 4).snd.snd.snd.snd)).fst.snd.snd.fst,
                                                      false,
                                                      (Sp.dWrite 1 (Sp.fillB 7)
                                                                  (false, false, (Sp.dNew 4).snd.snd.fst, false, (Sp.dNew 4).snd.snd.snd.snd)).fst.snd.snd.snd.snd)).fst.snd.snd.fst,
                                          false,
                                          (Sp.dCrash [2]
                                                      (false, false, (Sp.dWrite 1 (Sp.fillB 7) (false, false, (Sp.dNew 4).snd.snd.fst, false, (Sp.dNew 4).snd.snd.snd.snd)).fst.snd.snd.fst,
                                                        false,
                                                        (Sp.dWrite 1 (Sp.fillB 7)
                                                                    (false, false, (Sp.dNew 4).snd.snd.fst, false,
                                                                      (Sp.dNew 4).snd.snd.snd.snd)).fst.snd.snd.snd.snd)).fst.snd.snd.snd.snd)).fst.snd.snd.snd.snd) ∧
                        Sp.dPre
                            (false, false,
                              (Sp.dStart
                                        (true, false,
                                          (Sp.dCrash [2]
                                                    (false, false, (Sp.dWrite 1 (Sp.fillB 7) (false, false, (Sp.dNew 4).snd.snd.fst, false, (Sp.dNew 4).snd.snd.snd.snd)).fst.snd.snd.fst,
                                                      false,
                                                      (Sp.dWrite 1 (Sp.fillB 7)
                                                                  (false, false, (Sp.dNew 4).snd.snd.fst, false, (Sp.dNew 4).snd.snd.snd.snd)).fst.snd.snd.snd.snd)).fst.snd.snd.fst,
                                          false,
                                          (Sp.dCrash [2]
                                                      (false, false, (Sp.dWrite 1 (Sp.fillB 7) (false, false, (Sp.dNew 4).snd.snd.fst, false, (Sp.dNew 4).snd.snd.snd.snd)).fst.snd.snd.fst,
                                                        false,
                                                        (Sp.dWrite 1 (Sp.fillB 7)
                                                                    (false, false, (Sp.dNew 4).snd.snd.fst, false,
                                                                      (Sp.dNew 4).snd.snd.snd.snd)).fst.snd.snd.snd.snd)).fst.snd.snd.snd.snd)).fst.snd.snd.fst,
                              false,
                              (Sp.dStart
                                          (true, false,
                                            (Sp.dCrash [2]
                                                      (false, false, (Sp.dWrite 1 (Sp.fillB 7) (false, false, (Sp.dNew 4).snd.snd.fst, false, (Sp.dNew 4).snd.snd.snd.snd)).fst.snd.snd.fst,
                                                        false,
                                                        (Sp.dWrite 1 (Sp.fillB 7)
                                                                    (false, false, (Sp.dNew 4).snd.snd.fst, false, (Sp.dNew 4).snd.snd.snd.snd)).fst.snd.snd.snd.snd)).fst.snd.snd.fst,
                                            false,
                                            (Sp.dCrash [2]
                                                        (false, false, (Sp.dWrite 1 (Sp.fillB 7) (false, false, (Sp.dNew 4).snd.snd.fst, false, (Sp.dNew 4).snd.snd.snd.snd)).fst.snd.snd.fst,
                                                          false,
                                                          (Sp.dWrite 1 (Sp.fillB 7)
                                                                      (false, false, (Sp.dNew 4).snd.snd.fst, false,
                                                                        (Sp.dNew 4).snd.snd.snd.snd)).fst.snd.snd.snd.snd)).fst.snd.snd.snd.snd)).fst.snd.snd.snd.snd) ∧
                          Sp.dPre
                              (false, false,
                                (Sp.dStart
                                          (true, false,
                                            (Sp.dCrash [2]
                                                      (false, false, (Sp.dWrite 1 (Sp.fillB 7) (false, false, (Sp.dNew 4).snd.snd.fst, false, (Sp.dNew 4).snd.snd.snd.snd)).fst.snd.snd.fst,
                                                        false,
                                                        (Sp.dWrite 1 (Sp.fillB 7)
                                                                    (false, false, (Sp.dNew 4).snd.snd.fst, false, (Sp.dNew 4).snd.snd.snd.snd)).fst.snd.snd.snd.snd)).fst.snd.snd.fst,
                                            false,
                                            (Sp.dCrash [2]
                                                        (false, false, (Sp.dWrite 1 (Sp.fillB 7) (false, false, (Sp.dNew 4).snd.snd.fst, false, (Sp.dNew 4).snd.snd.snd.snd)).fst.snd.snd.fst,
                                                          false,
                                                          (Sp.dWrite 1 (Sp.fillB 7)
                                                                      (false, false, (Sp.dNew 4).snd.snd.fst, false,
                                                                        (Sp.dNew 4).snd.snd.snd.snd)).fst.snd.snd.snd.snd)).fst.snd.snd.snd.snd)).fst.snd.snd.fst,
                                false,
                                (Sp.dStart
                                            (true, false,
                                              (Sp.dCrash [2]
                                                        (false, false, (Sp.dWrite 1 (Sp.fillB 7) (false, false, (Sp.dNew 4).snd.snd.fst, false, (Sp.dNew 4).snd.snd.snd.snd)).fst.snd.snd.fst,
                                                          false,
                                                          (Sp.dWrite 1 (Sp.fillB 7)
                                                                      (false, false, (Sp.dNew 4).snd.snd.fst, false, (Sp.dNew 4).snd.snd.snd.snd)).fst.snd.snd.snd.snd)).fst.snd.snd.fst,
                                              false,
                                              (Sp.dCrash [2]
                                                          (false, false,
                                                            (Sp.dWrite 1 (Sp.fillB 7) (false, false, (Sp.dNew 4).snd.snd.fst, false, (Sp.dNew 4).snd.snd.snd.snd)).fst.snd.snd.fst, false,
                                                            (Sp.dWrite 1 (Sp.fillB 7)
                                                                        (false, false, (Sp.dNew 4).snd.snd.fst, false,
                                                                          (Sp.dNew 4).snd.snd.snd.snd)).fst.snd.snd.snd.snd)).fst.snd.snd.snd.snd)).fst.snd.snd.snd.snd) ∧
                            R true

def rectolaw27_long.L0 (R : Bool →
  Prop) (t5 : List (Int × Int × Int × Bool × List Int)) (t6 : Int) (t7 : Int) (K0 : List (Int × Int × Int × Bool × List Int) × Int × Int × Unit → Prop) : Prop :=
  bif decide (t7 < t6) then
    Ix t7 t5.length ∧
      bif decide (60 < t7) then R true
      else bif decide (60 < (↑(List.length (nth t5 t7 (0, 0, 0, false, [])).snd.snd.snd.snd) : Int)) then R true else Rg IntKind.i64 (t7 + 1) ∧ K0 (t5, t6, t7 + 1, ())
  else R false
def rectolaw27_long.vc (R : Bool → Prop) (l : List (Int × Int × Int × Bool × List Int)) : Prop :=
  Lp (fun v K => rectolaw27_long.L0 R v.fst v.snd.fst v.snd.snd.fst K) (l, (↑l.length : Int), 0, ())

def rectolaw27_does.vc (R : Bool →
  Bool →
    Bool →
      Int →
        Bool →
          List Int →
            Bool →
              Bool →
                Int →
                  Bool →
                    List Int →
                      List (List (List UInt8)) →
                        List (Int × List (List UInt8)) →
                          List (List UInt8) →
                            List (Int × List UInt8) →
                              Prop) (s : Int ×
  Int ×
    Int ×
      Bool ×
        List
          Int) (down : Bool) (armed : Bool) (after : Int) (acut : Bool) (keep : List
  Int) (rdown : Bool) (rarmed : Bool) (rafter : Int) (racut : Bool) (rkeep : List Int) (bs : List (List Str)) (ws : List (Int × List Str)) (rbs : List Str) (rws : List (Int × Str)) : Prop :=
  bif decide (s.fst = 0) then
    bif decide (s.fst = 0) then
      Sp.fillB.pre s.snd.snd.fst ∧
        Sp.dWrite.pre s.snd.fst (Sp.fillB s.snd.snd.fst) (down, armed, after, acut, keep, bs, ws) ∧
          Sp.fillB.pre s.snd.snd.fst ∧
            Sp.rWrite.pre s.snd.fst (Sp.fillB s.snd.snd.fst) (rdown, rarmed, rafter, racut, rkeep, rbs, rws) ∧
              R
                (decide
                  ((Sp.dWrite s.snd.fst (Sp.fillB s.snd.snd.fst) (down, armed, after, acut, keep, bs, ws)).snd =
                    (Sp.rWrite s.snd.fst (Sp.fillB s.snd.snd.fst) (rdown, rarmed, rafter, racut, rkeep, rbs, rws)).snd))
                (Sp.dWrite s.snd.fst (Sp.fillB s.snd.snd.fst) (down, armed, after, acut, keep, bs, ws)).fst.fst
                (Sp.dWrite s.snd.fst (Sp.fillB s.snd.snd.fst) (down, armed, after, acut, keep, bs, ws)).fst.snd.fst
                (Sp.dWrite s.snd.fst (Sp.fillB s.snd.snd.fst) (down, armed, after, acut, keep, bs, ws)).fst.snd.snd.fst
                (Sp.dWrite s.snd.fst (Sp.fillB s.snd.snd.fst) (down, armed, after, acut, keep, bs, ws)).fst.snd.snd.snd.fst
                (Sp.dWrite s.snd.fst (Sp.fillB s.snd.snd.fst) (down, armed, after, acut, keep, bs, ws)).fst.snd.snd.snd.snd.fst
                (Sp.rWrite s.snd.fst (Sp.fillB s.snd.snd.fst) (rdown, rarmed, rafter, racut, rkeep, rbs, rws)).fst.fst
                (Sp.rWrite s.snd.fst (Sp.fillB s.snd.snd.fst) (rdown, rarmed, rafter, racut, rkeep, rbs, rws)).fst.snd.fst
                (Sp.rWrite s.snd.fst (Sp.fillB s.snd.snd.fst) (rdown, rarmed, rafter, racut, rkeep, rbs, rws)).fst.snd.snd.fst
                (Sp.rWrite s.snd.fst (Sp.fillB s.snd.snd.fst) (rdown, rarmed, rafter, racut, rkeep, rbs, rws)).fst.snd.snd.snd.fst
                (Sp.rWrite s.snd.fst (Sp.fillB s.snd.snd.fst) (rdown, rarmed, rafter, racut, rkeep, rbs, rws)).fst.snd.snd.snd.snd.fst
                (Sp.dWrite s.snd.fst (Sp.fillB s.snd.snd.fst) (down, armed, after, acut, keep, bs, ws)).fst.snd.snd.snd.snd.snd.fst
                (Sp.dWrite s.snd.fst (Sp.fillB s.snd.snd.fst) (down, armed, after, acut, keep, bs, ws)).fst.snd.snd.snd.snd.snd.snd
                (Sp.rWrite s.snd.fst (Sp.fillB s.snd.snd.fst) (rdown, rarmed, rafter, racut, rkeep, rbs, rws)).fst.snd.snd.snd.snd.snd.fst
                (Sp.rWrite s.snd.fst (Sp.fillB s.snd.snd.fst) (rdown, rarmed, rafter, racut, rkeep, rbs, rws)).fst.snd.snd.snd.snd.snd.snd
    else
      bif decide (s.fst = 3) then
        Sp.dPre (down, armed, after, acut, keep, bs, ws) ∧
          Sp.rPre (rdown, rarmed, rafter, racut, rkeep, rbs, rws) ∧
            R (decide ((Sp.dFlush (down, armed, after, acut, keep, bs, ws)).snd = (Sp.rFlush (rdown, rarmed, rafter, racut, rkeep, rbs, rws)).snd))
              (Sp.dFlush (down, armed, after, acut, keep, bs, ws)).fst.fst (Sp.dFlush (down, armed, after, acut, keep, bs, ws)).fst.snd.fst
              (Sp.dFlush (down, armed, after, acut, keep, bs, ws)).fst.snd.snd.fst (Sp.dFlush (down, armed, after, acut, keep, bs, ws)).fst.snd.snd.snd.fst
              (Sp.dFlush (down, armed, after, acut, keep, bs, ws)).fst.snd.snd.snd.snd.fst (Sp.rFlush (rdown, rarmed, rafter, racut, rkeep, rbs, rws)).fst.fst
              (Sp.rFlush (rdown, rarmed, rafter, racut, rkeep, rbs, rws)).fst.snd.fst (Sp.rFlush (rdown, rarmed, rafter, racut, rkeep, rbs, rws)).fst.snd.snd.fst
              (Sp.rFlush (rdown, rarmed, rafter, racut, rkeep, rbs, rws)).fst.snd.snd.snd.fst (Sp.rFlush (rdown, rarmed, rafter, racut, rkeep, rbs, rws)).fst.snd.snd.snd.snd.fst
              (Sp.dFlush (down, armed, after, acut, keep, bs, ws)).fst.snd.snd.snd.snd.snd.fst (Sp.dFlush (down, armed, after, acut, keep, bs, ws)).fst.snd.snd.snd.snd.snd.snd
              (Sp.rFlush (rdown, rarmed, rafter, racut, rkeep, rbs, rws)).fst.snd.snd.snd.snd.snd.fst (Sp.rFlush (rdown, rarmed, rafter, racut, rkeep, rbs, rws)).fst.snd.snd.snd.snd.snd.snd
      else
        bif decide (s.fst = 4) then
          Sp.dFall.pre s.snd.snd.snd.snd (down, armed, after, acut, keep, bs, ws) ∧
            Sp.rFall.pre s.snd.snd.snd.snd (rdown, rarmed, rafter, racut, rkeep, rbs, rws) ∧
              R (decide ((Sp.dCrash s.snd.snd.snd.snd (down, armed, after, acut, keep, bs, ws)).snd = (Sp.rCrash s.snd.snd.snd.snd (rdown, rarmed, rafter, racut, rkeep, rbs, rws)).snd))
                (Sp.dCrash s.snd.snd.snd.snd (down, armed, after, acut, keep, bs, ws)).fst.fst (Sp.dCrash s.snd.snd.snd.snd (down, armed, after, acut, keep, bs, ws)).fst.snd.fst
                (Sp.dCrash s.snd.snd.snd.snd (down, armed, after, acut, keep, bs, ws)).fst.snd.snd.fst
                (Sp.dCrash s.snd.snd.snd.snd (down, armed, after, acut, keep, bs, ws)).fst.snd.snd.snd.fst
                (Sp.dCrash s.snd.snd.snd.snd (down, armed, after, acut, keep, bs, ws)).fst.snd.snd.snd.snd.fst
                (Sp.rCrash s.snd.snd.snd.snd (rdown, rarmed, rafter, racut, rkeep, rbs, rws)).fst.fst
                (Sp.rCrash s.snd.snd.snd.snd (rdown, rarmed, rafter, racut, rkeep, rbs, rws)).fst.snd.fst
                (Sp.rCrash s.snd.snd.snd.snd (rdown, rarmed, rafter, racut, rkeep, rbs, rws)).fst.snd.snd.fst
                (Sp.rCrash s.snd.snd.snd.snd (rdown, rarmed, rafter, racut, rkeep, rbs, rws)).fst.snd.snd.snd.fst
                (Sp.rCrash s.snd.snd.snd.snd (rdown, rarmed, rafter, racut, rkeep, rbs, rws)).fst.snd.snd.snd.snd.fst
                (Sp.dCrash s.snd.snd.snd.snd (down, armed, after, acut, keep, bs, ws)).fst.snd.snd.snd.snd.snd.fst
                (Sp.dCrash s.snd.snd.snd.snd (down, armed, after, acut, keep, bs, ws)).fst.snd.snd.snd.snd.snd.snd
                (Sp.rCrash s.snd.snd.snd.snd (rdown, rarmed, rafter, racut, rkeep, rbs, rws)).fst.snd.snd.snd.snd.snd.fst
                (Sp.rCrash s.snd.snd.snd.snd (rdown, rarmed, rafter, racut, rkeep, rbs, rws)).fst.snd.snd.snd.snd.snd.snd
        else
          bif decide (s.fst = 5) then
            Sp.dPre (down, armed, after, acut, keep, bs, ws) ∧
              Sp.rPre (rdown, rarmed, rafter, racut, rkeep, rbs, rws) ∧
                R (decide ((Sp.dStart (down, armed, after, acut, keep, bs, ws)).snd = (Sp.rStart (rdown, rarmed, rafter, racut, rkeep, rbs, rws)).snd))
                  (Sp.dStart (down, armed, after, acut, keep, bs, ws)).fst.fst (Sp.dStart (down, armed, after, acut, keep, bs, ws)).fst.snd.fst
                  (Sp.dStart (down, armed, after, acut, keep, bs, ws)).fst.snd.snd.fst (Sp.dStart (down, armed, after, acut, keep, bs, ws)).fst.snd.snd.snd.fst
                  (Sp.dStart (down, armed, after, acut, keep, bs, ws)).fst.snd.snd.snd.snd.fst (Sp.rStart (rdown, rarmed, rafter, racut, rkeep, rbs, rws)).fst.fst
                  (Sp.rStart (rdown, rarmed, rafter, racut, rkeep, rbs, rws)).fst.snd.fst (Sp.rStart (rdown, rarmed, rafter, racut, rkeep, rbs, rws)).fst.snd.snd.fst
                  (Sp.rStart (rdown, rarmed, rafter, racut, rkeep, rbs, rws)).fst.snd.snd.snd.fst (Sp.rStart (rdown, rarmed, rafter, racut, rkeep, rbs, rws)).fst.snd.snd.snd.snd.fst
                  (Sp.dStart (down, armed, after, acut, keep, bs, ws)).fst.snd.snd.snd.snd.snd.fst (Sp.dStart (down, armed, after, acut, keep, bs, ws)).fst.snd.snd.snd.snd.snd.snd
                  (Sp.rStart (rdown, rarmed, rafter, racut, rkeep, rbs, rws)).fst.snd.snd.snd.snd.snd.fst
                  (Sp.rStart (rdown, rarmed, rafter, racut, rkeep, rbs, rws)).fst.snd.snd.snd.snd.snd.snd
          else
            bif decide (s.fst = 6) then
              Sp.dSet.pre (s.snd.fst, s.snd.snd.snd) (down, armed, after, acut, keep, bs, ws) ∧
                Sp.rSet.pre (s.snd.fst, s.snd.snd.snd) (rdown, rarmed, rafter, racut, rkeep, rbs, rws) ∧
                  R
                    (decide
                      ((Sp.dSet (s.snd.fst, s.snd.snd.snd) (down, armed, after, acut, keep, bs, ws)).snd =
                        (Sp.rSet (s.snd.fst, s.snd.snd.snd) (rdown, rarmed, rafter, racut, rkeep, rbs, rws)).snd))
                    (Sp.dSet (s.snd.fst, s.snd.snd.snd) (down, armed, after, acut, keep, bs, ws)).fst.fst
                    (Sp.dSet (s.snd.fst, s.snd.snd.snd) (down, armed, after, acut, keep, bs, ws)).fst.snd.fst
                    (Sp.dSet (s.snd.fst, s.snd.snd.snd) (down, armed, after, acut, keep, bs, ws)).fst.snd.snd.fst
                    (Sp.dSet (s.snd.fst, s.snd.snd.snd) (down, armed, after, acut, keep, bs, ws)).fst.snd.snd.snd.fst
                    (Sp.dSet (s.snd.fst, s.snd.snd.snd) (down, armed, after, acut, keep, bs, ws)).fst.snd.snd.snd.snd.fst
                    (Sp.rSet (s.snd.fst, s.snd.snd.snd) (rdown, rarmed, rafter, racut, rkeep, rbs, rws)).fst.fst
                    (Sp.rSet (s.snd.fst, s.snd.snd.snd) (rdown, rarmed, rafter, racut, rkeep, rbs, rws)).fst.snd.fst
                    (Sp.rSet (s.snd.fst, s.snd.snd.snd) (rdown, rarmed, rafter, racut, rkeep, rbs, rws)).fst.snd.snd.fst
                    (Sp.rSet (s.snd.fst, s.snd.snd.snd) (rdown, rarmed, rafter, racut, rkeep, rbs, rws)).fst.snd.snd.snd.fst
                    (Sp.rSet (s.snd.fst, s.snd.snd.snd) (rdown, rarmed, rafter, racut, rkeep, rbs, rws)).fst.snd.snd.snd.snd.fst
                    (Sp.dSet (s.snd.fst, s.snd.snd.snd) (down, armed, after, acut, keep, bs, ws)).fst.snd.snd.snd.snd.snd.fst
                    (Sp.dSet (s.snd.fst, s.snd.snd.snd) (down, armed, after, acut, keep, bs, ws)).fst.snd.snd.snd.snd.snd.snd
                    (Sp.rSet (s.snd.fst, s.snd.snd.snd) (rdown, rarmed, rafter, racut, rkeep, rbs, rws)).fst.snd.snd.snd.snd.snd.fst
                    (Sp.rSet (s.snd.fst, s.snd.snd.snd) (rdown, rarmed, rafter, racut, rkeep, rbs, rws)).fst.snd.snd.snd.snd.snd.snd
            else
              bif decide (s.fst = 7) then
                Sp.dWrite.pre s.snd.fst [120] (down, armed, after, acut, keep, bs, ws) ∧
                  R (decide ((Sp.dWrite s.snd.fst [120] (down, armed, after, acut, keep, bs, ws)).snd = 1)) (Sp.dWrite s.snd.fst [120] (down, armed, after, acut, keep, bs, ws)).fst.fst
                    (Sp.dWrite s.snd.fst [120] (down, armed, after, acut, keep, bs, ws)).fst.snd.fst (Sp.dWrite s.snd.fst [120] (down, armed, after, acut, keep, bs, ws)).fst.snd.snd.fst
                    (Sp.dWrite s.snd.fst [120] (down, armed, after, acut, keep, bs, ws)).fst.snd.snd.snd.fst
                    (Sp.dWrite s.snd.fst [120] (down, armed, after, acut, keep, bs, ws)).fst.snd.snd.snd.snd.fst rdown rarmed rafter racut rkeep
                    (Sp.dWrite s.snd.fst [120] (down, armed, after, acut, keep, bs, ws)).fst.snd.snd.snd.snd.snd.fst
                    (Sp.dWrite s.snd.fst [120] (down, armed, after, acut, keep, bs, ws)).fst.snd.snd.snd.snd.snd.snd rbs rws
              else R true down armed after acut keep rdown rarmed rafter racut rkeep bs ws rbs rws
  else
    bif decide (s.fst = 1) then
      bif decide (s.fst = 1) then
        Sp.fillB.pre s.snd.snd.fst ∧
          Sp.dWrite.pre s.snd.fst (Sp.fillB s.snd.snd.fst) (down, armed, after, acut, keep, bs, ws) ∧
            Sp.fillB.pre s.snd.snd.fst ∧
              Sp.rWrite.pre s.snd.fst (Sp.fillB s.snd.snd.fst) (rdown, rarmed, rafter, racut, rkeep, rbs, rws) ∧
                R
                  (decide
                    ((Sp.dWrite s.snd.fst (Sp.fillB s.snd.snd.fst) (down, armed, after, acut, keep, bs, ws)).snd =
                      (Sp.rWrite s.snd.fst (Sp.fillB s.snd.snd.fst) (rdown, rarmed, rafter, racut, rkeep, rbs, rws)).snd))
                  (Sp.dWrite s.snd.fst (Sp.fillB s.snd.snd.fst) (down, armed, after, acut, keep, bs, ws)).fst.fst
                  (Sp.dWrite s.snd.fst (Sp.fillB s.snd.snd.fst) (down, armed, after, acut, keep, bs, ws)).fst.snd.fst
                  (Sp.dWrite s.snd.fst (Sp.fillB s.snd.snd.fst) (down, armed, after, acut, keep, bs, ws)).fst.snd.snd.fst
                  (Sp.dWrite s.snd.fst (Sp.fillB s.snd.snd.fst) (down, armed, after, acut, keep, bs, ws)).fst.snd.snd.snd.fst
                  (Sp.dWrite s.snd.fst (Sp.fillB s.snd.snd.fst) (down, armed, after, acut, keep, bs, ws)).fst.snd.snd.snd.snd.fst
                  (Sp.rWrite s.snd.fst (Sp.fillB s.snd.snd.fst) (rdown, rarmed, rafter, racut, rkeep, rbs, rws)).fst.fst
                  (Sp.rWrite s.snd.fst (Sp.fillB s.snd.snd.fst) (rdown, rarmed, rafter, racut, rkeep, rbs, rws)).fst.snd.fst
                  (Sp.rWrite s.snd.fst (Sp.fillB s.snd.snd.fst) (rdown, rarmed, rafter, racut, rkeep, rbs, rws)).fst.snd.snd.fst
                  (Sp.rWrite s.snd.fst (Sp.fillB s.snd.snd.fst) (rdown, rarmed, rafter, racut, rkeep, rbs, rws)).fst.snd.snd.snd.fst
                  (Sp.rWrite s.snd.fst (Sp.fillB s.snd.snd.fst) (rdown, rarmed, rafter, racut, rkeep, rbs, rws)).fst.snd.snd.snd.snd.fst
                  (Sp.dWrite s.snd.fst (Sp.fillB s.snd.snd.fst) (down, armed, after, acut, keep, bs, ws)).fst.snd.snd.snd.snd.snd.fst
                  (Sp.dWrite s.snd.fst (Sp.fillB s.snd.snd.fst) (down, armed, after, acut, keep, bs, ws)).fst.snd.snd.snd.snd.snd.snd
                  (Sp.rWrite s.snd.fst (Sp.fillB s.snd.snd.fst) (rdown, rarmed, rafter, racut, rkeep, rbs, rws)).fst.snd.snd.snd.snd.snd.fst
                  (Sp.rWrite s.snd.fst (Sp.fillB s.snd.snd.fst) (rdown, rarmed, rafter, racut, rkeep, rbs, rws)).fst.snd.snd.snd.snd.snd.snd
      else
        bif decide (s.fst = 3) then
          Sp.dPre (down, armed, after, acut, keep, bs, ws) ∧
            Sp.rPre (rdown, rarmed, rafter, racut, rkeep, rbs, rws) ∧
              R (decide ((Sp.dFlush (down, armed, after, acut, keep, bs, ws)).snd = (Sp.rFlush (rdown, rarmed, rafter, racut, rkeep, rbs, rws)).snd))
                (Sp.dFlush (down, armed, after, acut, keep, bs, ws)).fst.fst (Sp.dFlush (down, armed, after, acut, keep, bs, ws)).fst.snd.fst
                (Sp.dFlush (down, armed, after, acut, keep, bs, ws)).fst.snd.snd.fst (Sp.dFlush (down, armed, after, acut, keep, bs, ws)).fst.snd.snd.snd.fst
                (Sp.dFlush (down, armed, after, acut, keep, bs, ws)).fst.snd.snd.snd.snd.fst (Sp.rFlush (rdown, rarmed, rafter, racut, rkeep, rbs, rws)).fst.fst
                (Sp.rFlush (rdown, rarmed, rafter, racut, rkeep, rbs, rws)).fst.snd.fst (Sp.rFlush (rdown, rarmed, rafter, racut, rkeep, rbs, rws)).fst.snd.snd.fst
                (Sp.rFlush (rdown, rarmed, rafter, racut, rkeep, rbs, rws)).fst.snd.snd.snd.fst (Sp.rFlush (rdown, rarmed, rafter, racut, rkeep, rbs, rws)).fst.snd.snd.snd.snd.fst
                (Sp.dFlush (down, armed, after, acut, keep, bs, ws)).fst.snd.snd.snd.snd.snd.fst (Sp.dFlush (down, armed, after, acut, keep, bs, ws)).fst.snd.snd.snd.snd.snd.snd
                (Sp.rFlush (rdown, rarmed, rafter, racut, rkeep, rbs, rws)).fst.snd.snd.snd.snd.snd.fst
                (Sp.rFlush (rdown, rarmed, rafter, racut, rkeep, rbs, rws)).fst.snd.snd.snd.snd.snd.snd
        else
          bif decide (s.fst = 4) then
            Sp.dFall.pre s.snd.snd.snd.snd (down, armed, after, acut, keep, bs, ws) ∧
              Sp.rFall.pre s.snd.snd.snd.snd (rdown, rarmed, rafter, racut, rkeep, rbs, rws) ∧
                R (decide ((Sp.dCrash s.snd.snd.snd.snd (down, armed, after, acut, keep, bs, ws)).snd = (Sp.rCrash s.snd.snd.snd.snd (rdown, rarmed, rafter, racut, rkeep, rbs, rws)).snd))
                  (Sp.dCrash s.snd.snd.snd.snd (down, armed, after, acut, keep, bs, ws)).fst.fst (Sp.dCrash s.snd.snd.snd.snd (down, armed, after, acut, keep, bs, ws)).fst.snd.fst
                  (Sp.dCrash s.snd.snd.snd.snd (down, armed, after, acut, keep, bs, ws)).fst.snd.snd.fst
                  (Sp.dCrash s.snd.snd.snd.snd (down, armed, after, acut, keep, bs, ws)).fst.snd.snd.snd.fst
                  (Sp.dCrash s.snd.snd.snd.snd (down, armed, after, acut, keep, bs, ws)).fst.snd.snd.snd.snd.fst
                  (Sp.rCrash s.snd.snd.snd.snd (rdown, rarmed, rafter, racut, rkeep, rbs, rws)).fst.fst
                  (Sp.rCrash s.snd.snd.snd.snd (rdown, rarmed, rafter, racut, rkeep, rbs, rws)).fst.snd.fst
                  (Sp.rCrash s.snd.snd.snd.snd (rdown, rarmed, rafter, racut, rkeep, rbs, rws)).fst.snd.snd.fst
                  (Sp.rCrash s.snd.snd.snd.snd (rdown, rarmed, rafter, racut, rkeep, rbs, rws)).fst.snd.snd.snd.fst
                  (Sp.rCrash s.snd.snd.snd.snd (rdown, rarmed, rafter, racut, rkeep, rbs, rws)).fst.snd.snd.snd.snd.fst
                  (Sp.dCrash s.snd.snd.snd.snd (down, armed, after, acut, keep, bs, ws)).fst.snd.snd.snd.snd.snd.fst
                  (Sp.dCrash s.snd.snd.snd.snd (down, armed, after, acut, keep, bs, ws)).fst.snd.snd.snd.snd.snd.snd
                  (Sp.rCrash s.snd.snd.snd.snd (rdown, rarmed, rafter, racut, rkeep, rbs, rws)).fst.snd.snd.snd.snd.snd.fst
                  (Sp.rCrash s.snd.snd.snd.snd (rdown, rarmed, rafter, racut, rkeep, rbs, rws)).fst.snd.snd.snd.snd.snd.snd
          else
            bif decide (s.fst = 5) then
              Sp.dPre (down, armed, after, acut, keep, bs, ws) ∧
                Sp.rPre (rdown, rarmed, rafter, racut, rkeep, rbs, rws) ∧
                  R (decide ((Sp.dStart (down, armed, after, acut, keep, bs, ws)).snd = (Sp.rStart (rdown, rarmed, rafter, racut, rkeep, rbs, rws)).snd))
                    (Sp.dStart (down, armed, after, acut, keep, bs, ws)).fst.fst (Sp.dStart (down, armed, after, acut, keep, bs, ws)).fst.snd.fst
                    (Sp.dStart (down, armed, after, acut, keep, bs, ws)).fst.snd.snd.fst (Sp.dStart (down, armed, after, acut, keep, bs, ws)).fst.snd.snd.snd.fst
                    (Sp.dStart (down, armed, after, acut, keep, bs, ws)).fst.snd.snd.snd.snd.fst (Sp.rStart (rdown, rarmed, rafter, racut, rkeep, rbs, rws)).fst.fst
                    (Sp.rStart (rdown, rarmed, rafter, racut, rkeep, rbs, rws)).fst.snd.fst (Sp.rStart (rdown, rarmed, rafter, racut, rkeep, rbs, rws)).fst.snd.snd.fst
                    (Sp.rStart (rdown, rarmed, rafter, racut, rkeep, rbs, rws)).fst.snd.snd.snd.fst (Sp.rStart (rdown, rarmed, rafter, racut, rkeep, rbs, rws)).fst.snd.snd.snd.snd.fst
                    (Sp.dStart (down, armed, after, acut, keep, bs, ws)).fst.snd.snd.snd.snd.snd.fst (Sp.dStart (down, armed, after, acut, keep, bs, ws)).fst.snd.snd.snd.snd.snd.snd
                    (Sp.rStart (rdown, rarmed, rafter, racut, rkeep, rbs, rws)).fst.snd.snd.snd.snd.snd.fst
                    (Sp.rStart (rdown, rarmed, rafter, racut, rkeep, rbs, rws)).fst.snd.snd.snd.snd.snd.snd
            else
              bif decide (s.fst = 6) then
                Sp.dSet.pre (s.snd.fst, s.snd.snd.snd) (down, armed, after, acut, keep, bs, ws) ∧
                  Sp.rSet.pre (s.snd.fst, s.snd.snd.snd) (rdown, rarmed, rafter, racut, rkeep, rbs, rws) ∧
                    R
                      (decide
                        ((Sp.dSet (s.snd.fst, s.snd.snd.snd) (down, armed, after, acut, keep, bs, ws)).snd =
                          (Sp.rSet (s.snd.fst, s.snd.snd.snd) (rdown, rarmed, rafter, racut, rkeep, rbs, rws)).snd))
                      (Sp.dSet (s.snd.fst, s.snd.snd.snd) (down, armed, after, acut, keep, bs, ws)).fst.fst
                      (Sp.dSet (s.snd.fst, s.snd.snd.snd) (down, armed, after, acut, keep, bs, ws)).fst.snd.fst
                      (Sp.dSet (s.snd.fst, s.snd.snd.snd) (down, armed, after, acut, keep, bs, ws)).fst.snd.snd.fst
                      (Sp.dSet (s.snd.fst, s.snd.snd.snd) (down, armed, after, acut, keep, bs, ws)).fst.snd.snd.snd.fst
                      (Sp.dSet (s.snd.fst, s.snd.snd.snd) (down, armed, after, acut, keep, bs, ws)).fst.snd.snd.snd.snd.fst
                      (Sp.rSet (s.snd.fst, s.snd.snd.snd) (rdown, rarmed, rafter, racut, rkeep, rbs, rws)).fst.fst
                      (Sp.rSet (s.snd.fst, s.snd.snd.snd) (rdown, rarmed, rafter, racut, rkeep, rbs, rws)).fst.snd.fst
                      (Sp.rSet (s.snd.fst, s.snd.snd.snd) (rdown, rarmed, rafter, racut, rkeep, rbs, rws)).fst.snd.snd.fst
                      (Sp.rSet (s.snd.fst, s.snd.snd.snd) (rdown, rarmed, rafter, racut, rkeep, rbs, rws)).fst.snd.snd.snd.fst
                      (Sp.rSet (s.snd.fst, s.snd.snd.snd) (rdown, rarmed, rafter, racut, rkeep, rbs, rws)).fst.snd.snd.snd.snd.fst
                      (Sp.dSet (s.snd.fst, s.snd.snd.snd) (down, armed, after, acut, keep, bs, ws)).fst.snd.snd.snd.snd.snd.fst
                      (Sp.dSet (s.snd.fst, s.snd.snd.snd) (down, armed, after, acut, keep, bs, ws)).fst.snd.snd.snd.snd.snd.snd
                      (Sp.rSet (s.snd.fst, s.snd.snd.snd) (rdown, rarmed, rafter, racut, rkeep, rbs, rws)).fst.snd.snd.snd.snd.snd.fst
                      (Sp.rSet (s.snd.fst, s.snd.snd.snd) (rdown, rarmed, rafter, racut, rkeep, rbs, rws)).fst.snd.snd.snd.snd.snd.snd
              else
                bif decide (s.fst = 7) then
                  Sp.dWrite.pre s.snd.fst [120] (down, armed, after, acut, keep, bs, ws) ∧
                    R (decide ((Sp.dWrite s.snd.fst [120] (down, armed, after, acut, keep, bs, ws)).snd = 1)) (Sp.dWrite s.snd.fst [120] (down, armed, after, acut, keep, bs, ws)).fst.fst
                      (Sp.dWrite s.snd.fst [120] (down, armed, after, acut, keep, bs, ws)).fst.snd.fst (Sp.dWrite s.snd.fst [120] (down, armed, after, acut, keep, bs, ws)).fst.snd.snd.fst
                      (Sp.dWrite s.snd.fst [120] (down, armed, after, acut, keep, bs, ws)).fst.snd.snd.snd.fst
                      (Sp.dWrite s.snd.fst [120] (down, armed, after, acut, keep, bs, ws)).fst.snd.snd.snd.snd.fst rdown rarmed rafter racut rkeep
                      (Sp.dWrite s.snd.fst [120] (down, armed, after, acut, keep, bs, ws)).fst.snd.snd.snd.snd.snd.fst
                      (Sp.dWrite s.snd.fst [120] (down, armed, after, acut, keep, bs, ws)).fst.snd.snd.snd.snd.snd.snd rbs rws
                else R true down armed after acut keep rdown rarmed rafter racut rkeep bs ws rbs rws
    else
      bif decide (s.fst = 2) then
        Sp.fillB.pre s.snd.snd.fst ∧
          Sp.dWrite.pre s.snd.fst (Sp.fillB s.snd.snd.fst) (down, armed, after, acut, keep, bs, ws) ∧
            Sp.fillB.pre s.snd.snd.fst ∧
              Sp.rWrite.pre s.snd.fst (Sp.fillB s.snd.snd.fst) (rdown, rarmed, rafter, racut, rkeep, rbs, rws) ∧
                R
                  (decide
                    ((Sp.dWrite s.snd.fst (Sp.fillB s.snd.snd.fst) (down, armed, after, acut, keep, bs, ws)).snd =
                      (Sp.rWrite s.snd.fst (Sp.fillB s.snd.snd.fst) (rdown, rarmed, rafter, racut, rkeep, rbs, rws)).snd))
                  (Sp.dWrite s.snd.fst (Sp.fillB s.snd.snd.fst) (down, armed, after, acut, keep, bs, ws)).fst.fst
                  (Sp.dWrite s.snd.fst (Sp.fillB s.snd.snd.fst) (down, armed, after, acut, keep, bs, ws)).fst.snd.fst
                  (Sp.dWrite s.snd.fst (Sp.fillB s.snd.snd.fst) (down, armed, after, acut, keep, bs, ws)).fst.snd.snd.fst
                  (Sp.dWrite s.snd.fst (Sp.fillB s.snd.snd.fst) (down, armed, after, acut, keep, bs, ws)).fst.snd.snd.snd.fst
                  (Sp.dWrite s.snd.fst (Sp.fillB s.snd.snd.fst) (down, armed, after, acut, keep, bs, ws)).fst.snd.snd.snd.snd.fst
                  (Sp.rWrite s.snd.fst (Sp.fillB s.snd.snd.fst) (rdown, rarmed, rafter, racut, rkeep, rbs, rws)).fst.fst
                  (Sp.rWrite s.snd.fst (Sp.fillB s.snd.snd.fst) (rdown, rarmed, rafter, racut, rkeep, rbs, rws)).fst.snd.fst
                  (Sp.rWrite s.snd.fst (Sp.fillB s.snd.snd.fst) (rdown, rarmed, rafter, racut, rkeep, rbs, rws)).fst.snd.snd.fst
                  (Sp.rWrite s.snd.fst (Sp.fillB s.snd.snd.fst) (rdown, rarmed, rafter, racut, rkeep, rbs, rws)).fst.snd.snd.snd.fst
                  (Sp.rWrite s.snd.fst (Sp.fillB s.snd.snd.fst) (rdown, rarmed, rafter, racut, rkeep, rbs, rws)).fst.snd.snd.snd.snd.fst
                  (Sp.dWrite s.snd.fst (Sp.fillB s.snd.snd.fst) (down, armed, after, acut, keep, bs, ws)).fst.snd.snd.snd.snd.snd.fst
                  (Sp.dWrite s.snd.fst (Sp.fillB s.snd.snd.fst) (down, armed, after, acut, keep, bs, ws)).fst.snd.snd.snd.snd.snd.snd
                  (Sp.rWrite s.snd.fst (Sp.fillB s.snd.snd.fst) (rdown, rarmed, rafter, racut, rkeep, rbs, rws)).fst.snd.snd.snd.snd.snd.fst
                  (Sp.rWrite s.snd.fst (Sp.fillB s.snd.snd.fst) (rdown, rarmed, rafter, racut, rkeep, rbs, rws)).fst.snd.snd.snd.snd.snd.snd
      else
        bif decide (s.fst = 3) then
          Sp.dPre (down, armed, after, acut, keep, bs, ws) ∧
            Sp.rPre (rdown, rarmed, rafter, racut, rkeep, rbs, rws) ∧
              R (decide ((Sp.dFlush (down, armed, after, acut, keep, bs, ws)).snd = (Sp.rFlush (rdown, rarmed, rafter, racut, rkeep, rbs, rws)).snd))
                (Sp.dFlush (down, armed, after, acut, keep, bs, ws)).fst.fst (Sp.dFlush (down, armed, after, acut, keep, bs, ws)).fst.snd.fst
                (Sp.dFlush (down, armed, after, acut, keep, bs, ws)).fst.snd.snd.fst (Sp.dFlush (down, armed, after, acut, keep, bs, ws)).fst.snd.snd.snd.fst
                (Sp.dFlush (down, armed, after, acut, keep, bs, ws)).fst.snd.snd.snd.snd.fst (Sp.rFlush (rdown, rarmed, rafter, racut, rkeep, rbs, rws)).fst.fst
                (Sp.rFlush (rdown, rarmed, rafter, racut, rkeep, rbs, rws)).fst.snd.fst (Sp.rFlush (rdown, rarmed, rafter, racut, rkeep, rbs, rws)).fst.snd.snd.fst
                (Sp.rFlush (rdown, rarmed, rafter, racut, rkeep, rbs, rws)).fst.snd.snd.snd.fst (Sp.rFlush (rdown, rarmed, rafter, racut, rkeep, rbs, rws)).fst.snd.snd.snd.snd.fst
                (Sp.dFlush (down, armed, after, acut, keep, bs, ws)).fst.snd.snd.snd.snd.snd.fst (Sp.dFlush (down, armed, after, acut, keep, bs, ws)).fst.snd.snd.snd.snd.snd.snd
                (Sp.rFlush (rdown, rarmed, rafter, racut, rkeep, rbs, rws)).fst.snd.snd.snd.snd.snd.fst
                (Sp.rFlush (rdown, rarmed, rafter, racut, rkeep, rbs, rws)).fst.snd.snd.snd.snd.snd.snd
        else
          bif decide (s.fst = 4) then
            Sp.dFall.pre s.snd.snd.snd.snd (down, armed, after, acut, keep, bs, ws) ∧
              Sp.rFall.pre s.snd.snd.snd.snd (rdown, rarmed, rafter, racut, rkeep, rbs, rws) ∧
                R (decide ((Sp.dCrash s.snd.snd.snd.snd (down, armed, after, acut, keep, bs, ws)).snd = (Sp.rCrash s.snd.snd.snd.snd (rdown, rarmed, rafter, racut, rkeep, rbs, rws)).snd))
                  (Sp.dCrash s.snd.snd.snd.snd (down, armed, after, acut, keep, bs, ws)).fst.fst (Sp.dCrash s.snd.snd.snd.snd (down, armed, after, acut, keep, bs, ws)).fst.snd.fst
                  (Sp.dCrash s.snd.snd.snd.snd (down, armed, after, acut, keep, bs, ws)).fst.snd.snd.fst
                  (Sp.dCrash s.snd.snd.snd.snd (down, armed, after, acut, keep, bs, ws)).fst.snd.snd.snd.fst
                  (Sp.dCrash s.snd.snd.snd.snd (down, armed, after, acut, keep, bs, ws)).fst.snd.snd.snd.snd.fst
                  (Sp.rCrash s.snd.snd.snd.snd (rdown, rarmed, rafter, racut, rkeep, rbs, rws)).fst.fst
                  (Sp.rCrash s.snd.snd.snd.snd (rdown, rarmed, rafter, racut, rkeep, rbs, rws)).fst.snd.fst
                  (Sp.rCrash s.snd.snd.snd.snd (rdown, rarmed, rafter, racut, rkeep, rbs, rws)).fst.snd.snd.fst
                  (Sp.rCrash s.snd.snd.snd.snd (rdown, rarmed, rafter, racut, rkeep, rbs, rws)).fst.snd.snd.snd.fst
                  (Sp.rCrash s.snd.snd.snd.snd (rdown, rarmed, rafter, racut, rkeep, rbs, rws)).fst.snd.snd.snd.snd.fst
                  (Sp.dCrash s.snd.snd.snd.snd (down, armed, after, acut, keep, bs, ws)).fst.snd.snd.snd.snd.snd.fst
                  (Sp.dCrash s.snd.snd.snd.snd (down, armed, after, acut, keep, bs, ws)).fst.snd.snd.snd.snd.snd.snd
                  (Sp.rCrash s.snd.snd.snd.snd (rdown, rarmed, rafter, racut, rkeep, rbs, rws)).fst.snd.snd.snd.snd.snd.fst
                  (Sp.rCrash s.snd.snd.snd.snd (rdown, rarmed, rafter, racut, rkeep, rbs, rws)).fst.snd.snd.snd.snd.snd.snd
          else
            bif decide (s.fst = 5) then
              Sp.dPre (down, armed, after, acut, keep, bs, ws) ∧
                Sp.rPre (rdown, rarmed, rafter, racut, rkeep, rbs, rws) ∧
                  R (decide ((Sp.dStart (down, armed, after, acut, keep, bs, ws)).snd = (Sp.rStart (rdown, rarmed, rafter, racut, rkeep, rbs, rws)).snd))
                    (Sp.dStart (down, armed, after, acut, keep, bs, ws)).fst.fst (Sp.dStart (down, armed, after, acut, keep, bs, ws)).fst.snd.fst
                    (Sp.dStart (down, armed, after, acut, keep, bs, ws)).fst.snd.snd.fst (Sp.dStart (down, armed, after, acut, keep, bs, ws)).fst.snd.snd.snd.fst
                    (Sp.dStart (down, armed, after, acut, keep, bs, ws)).fst.snd.snd.snd.snd.fst (Sp.rStart (rdown, rarmed, rafter, racut, rkeep, rbs, rws)).fst.fst
                    (Sp.rStart (rdown, rarmed, rafter, racut, rkeep, rbs, rws)).fst.snd.fst (Sp.rStart (rdown, rarmed, rafter, racut, rkeep, rbs, rws)).fst.snd.snd.fst
                    (Sp.rStart (rdown, rarmed, rafter, racut, rkeep, rbs, rws)).fst.snd.snd.snd.fst (Sp.rStart (rdown, rarmed, rafter, racut, rkeep, rbs, rws)).fst.snd.snd.snd.snd.fst
                    (Sp.dStart (down, armed, after, acut, keep, bs, ws)).fst.snd.snd.snd.snd.snd.fst (Sp.dStart (down, armed, after, acut, keep, bs, ws)).fst.snd.snd.snd.snd.snd.snd
                    (Sp.rStart (rdown, rarmed, rafter, racut, rkeep, rbs, rws)).fst.snd.snd.snd.snd.snd.fst
                    (Sp.rStart (rdown, rarmed, rafter, racut, rkeep, rbs, rws)).fst.snd.snd.snd.snd.snd.snd
            else
              bif decide (s.fst = 6) then
                Sp.dSet.pre (s.snd.fst, s.snd.snd.snd) (down, armed, after, acut, keep, bs, ws) ∧
                  Sp.rSet.pre (s.snd.fst, s.snd.snd.snd) (rdown, rarmed, rafter, racut, rkeep, rbs, rws) ∧
                    R
                      (decide
                        ((Sp.dSet (s.snd.fst, s.snd.snd.snd) (down, armed, after, acut, keep, bs, ws)).snd =
                          (Sp.rSet (s.snd.fst, s.snd.snd.snd) (rdown, rarmed, rafter, racut, rkeep, rbs, rws)).snd))
                      (Sp.dSet (s.snd.fst, s.snd.snd.snd) (down, armed, after, acut, keep, bs, ws)).fst.fst
                      (Sp.dSet (s.snd.fst, s.snd.snd.snd) (down, armed, after, acut, keep, bs, ws)).fst.snd.fst
                      (Sp.dSet (s.snd.fst, s.snd.snd.snd) (down, armed, after, acut, keep, bs, ws)).fst.snd.snd.fst
                      (Sp.dSet (s.snd.fst, s.snd.snd.snd) (down, armed, after, acut, keep, bs, ws)).fst.snd.snd.snd.fst
                      (Sp.dSet (s.snd.fst, s.snd.snd.snd) (down, armed, after, acut, keep, bs, ws)).fst.snd.snd.snd.snd.fst
                      (Sp.rSet (s.snd.fst, s.snd.snd.snd) (rdown, rarmed, rafter, racut, rkeep, rbs, rws)).fst.fst
                      (Sp.rSet (s.snd.fst, s.snd.snd.snd) (rdown, rarmed, rafter, racut, rkeep, rbs, rws)).fst.snd.fst
                      (Sp.rSet (s.snd.fst, s.snd.snd.snd) (rdown, rarmed, rafter, racut, rkeep, rbs, rws)).fst.snd.snd.fst
                      (Sp.rSet (s.snd.fst, s.snd.snd.snd) (rdown, rarmed, rafter, racut, rkeep, rbs, rws)).fst.snd.snd.snd.fst
                      (Sp.rSet (s.snd.fst, s.snd.snd.snd) (rdown, rarmed, rafter, racut, rkeep, rbs, rws)).fst.snd.snd.snd.snd.fst
                      (Sp.dSet (s.snd.fst, s.snd.snd.snd) (down, armed, after, acut, keep, bs, ws)).fst.snd.snd.snd.snd.snd.fst
                      (Sp.dSet (s.snd.fst, s.snd.snd.snd) (down, armed, after, acut, keep, bs, ws)).fst.snd.snd.snd.snd.snd.snd
                      (Sp.rSet (s.snd.fst, s.snd.snd.snd) (rdown, rarmed, rafter, racut, rkeep, rbs, rws)).fst.snd.snd.snd.snd.snd.fst
                      (Sp.rSet (s.snd.fst, s.snd.snd.snd) (rdown, rarmed, rafter, racut, rkeep, rbs, rws)).fst.snd.snd.snd.snd.snd.snd
              else
                bif decide (s.fst = 7) then
                  Sp.dWrite.pre s.snd.fst [120] (down, armed, after, acut, keep, bs, ws) ∧
                    R (decide ((Sp.dWrite s.snd.fst [120] (down, armed, after, acut, keep, bs, ws)).snd = 1)) (Sp.dWrite s.snd.fst [120] (down, armed, after, acut, keep, bs, ws)).fst.fst
                      (Sp.dWrite s.snd.fst [120] (down, armed, after, acut, keep, bs, ws)).fst.snd.fst (Sp.dWrite s.snd.fst [120] (down, armed, after, acut, keep, bs, ws)).fst.snd.snd.fst
                      (Sp.dWrite s.snd.fst [120] (down, armed, after, acut, keep, bs, ws)).fst.snd.snd.snd.fst
                      (Sp.dWrite s.snd.fst [120] (down, armed, after, acut, keep, bs, ws)).fst.snd.snd.snd.snd.fst rdown rarmed rafter racut rkeep
                      (Sp.dWrite s.snd.fst [120] (down, armed, after, acut, keep, bs, ws)).fst.snd.snd.snd.snd.snd.fst
                      (Sp.dWrite s.snd.fst [120] (down, armed, after, acut, keep, bs, ws)).fst.snd.snd.snd.snd.snd.snd rbs rws
                else R true down armed after acut keep rdown rarmed rafter racut rkeep bs ws rbs rws

def rectolaw27_DiskSteps.L0 (R : Bool →
  Prop) (t : Int) (A : Int) (t58 : List
  (Int ×
    Int ×
      Int ×
        Bool ×
          List
            Int)) (t59 : Int) (t60 : Int) (t7_down : Bool) (t7_armed : Bool) (t7_after : Int) (t7_acut : Bool) (t7_keep : List
  Int) (t7_bs : List
  (List
    (List
      UInt8))) (t7_ws : List
  (Int ×
    List
      (List
        UInt8))) (t9_rdown : Bool) (t9_rarmed : Bool) (t9_rafter : Int) (t9_racut : Bool) (t9_rkeep : List
  Int) (t9_rbs : List
  (List
    UInt8)) (t9_rws : List
  (Int ×
    List
      UInt8)) (K0 : Int ×
    Int ×
      List (Int × Int × Int × Bool × List Int) ×
        Int ×
          Int ×
            Bool ×
              Bool ×
                Int ×
                  Bool × List Int × List (List (List UInt8)) × List (Int × List (List UInt8)) × Bool × Bool × Int × Bool × List Int × List (List UInt8) × List (Int × List UInt8) × Unit →
  Prop) : Prop :=
  bif decide (t60 < t59) then
    Ix t60 t58.length ∧
      Sp.does.pre (nth t58 t60 (0, 0, 0, false, [])) (t7_down, t7_armed, t7_after, t7_acut, t7_keep, t7_bs, t7_ws) (t9_rdown, t9_rarmed, t9_rafter, t9_racut, t9_rkeep, t9_rbs, t9_rws) ∧
        bif
            !Sp.does (nth t58 t60 (0, 0, 0, false, [])) (t7_down, t7_armed, t7_after, t7_acut, t7_keep, t7_bs, t7_ws)
                (t9_rdown, t9_rarmed, t9_rafter, t9_racut, t9_rkeep, t9_rbs, t9_rws) then
          R false
        else
          Sp.dPre (Sp.dStep (nth t58 t60 (0, 0, 0, false, [])) (t7_down, t7_armed, t7_after, t7_acut, t7_keep, t7_bs, t7_ws)).fst ∧
            bif
                !eqB (Sp.upD (Sp.dStep (nth t58 t60 (0, 0, 0, false, [])) (t7_down, t7_armed, t7_after, t7_acut, t7_keep, t7_bs, t7_ws)).fst)
                    !(Sp.rStep (nth t58 t60 (0, 0, 0, false, [])) (t9_rdown, t9_rarmed, t9_rafter, t9_racut, t9_rkeep, t9_rbs, t9_rws)).fst.fst then
              R false
            else
              Sp.dPre (Sp.dStep (nth t58 t60 (0, 0, 0, false, [])) (t7_down, t7_armed, t7_after, t7_acut, t7_keep, t7_bs, t7_ws)).fst ∧
                bif
                    !decide
                        ((↑(Sp.dStep (nth t58 t60 (0, 0, 0, false, [])) (t7_down, t7_armed, t7_after, t7_acut, t7_keep, t7_bs, t7_ws)).fst.ws.length : Int) =
                          (↑(Sp.rStep (nth t58 t60 (0, 0, 0, false, [])) (t9_rdown, t9_rarmed, t9_rafter, t9_racut, t9_rkeep, t9_rbs, t9_rws)).fst.snd.snd.snd.snd.snd.snd.length : Int)) then
                  R false
                else
                  Sp.dPre (Sp.dStep (nth t58 t60 (0, 0, 0, false, [])) (t7_down, t7_armed, t7_after, t7_acut, t7_keep, t7_bs, t7_ws)).fst ∧
                    bif !decide ((↑(Sp.dStep (nth t58 t60 (0, 0, 0, false, [])) (t7_down, t7_armed, t7_after, t7_acut, t7_keep, t7_bs, t7_ws)).fst.bs.length : Int) = t) then R false
                    else
                      Sp.dPre (Sp.dStep (nth t58 t60 (0, 0, 0, false, [])) (t7_down, t7_armed, t7_after, t7_acut, t7_keep, t7_bs, t7_ws)).fst ∧
                        Sp.rPre (Sp.rStep (nth t58 t60 (0, 0, 0, false, [])) (t9_rdown, t9_rarmed, t9_rafter, t9_racut, t9_rkeep, t9_rbs, t9_rws)).fst ∧
                          bif decide (0 ≤ A) then
                            bif decide (A < t) then
                              Ix A (Sp.rStep (nth t58 t60 (0, 0, 0, false, [])) (t9_rdown, t9_rarmed, t9_rafter, t9_racut, t9_rkeep, t9_rbs, t9_rws)).fst.snd.snd.snd.snd.snd.fst.length ∧
                                bif
                                    !decide
                                        ((Sp.dRead A (Sp.dStep (nth t58 t60 (0, 0, 0, false, [])) (t7_down, t7_armed, t7_after, t7_acut, t7_keep, t7_bs, t7_ws)).fst).fst =
                                          (Sp.rRead A (Sp.rStep (nth t58 t60 (0, 0, 0, false, [])) (t9_rdown, t9_rarmed, t9_rafter, t9_racut, t9_rkeep, t9_rbs, t9_rws)).fst).fst) then
                                  R false
                                else
                                  bif
                                      !decide
                                          ((Sp.dRead A (Sp.dStep (nth t58 t60 (0, 0, 0, false, [])) (t7_down, t7_armed, t7_after, t7_acut, t7_keep, t7_bs, t7_ws)).fst).snd =
                                            (Sp.rRead A (Sp.rStep (nth t58 t60 (0, 0, 0, false, [])) (t9_rdown, t9_rarmed, t9_rafter, t9_racut, t9_rkeep, t9_rbs, t9_rws)).fst).snd) then
                                    R false
                                  else
                                    Sp.dPre (Sp.dStep (nth t58 t60 (0, 0, 0, false, [])) (t7_down, t7_armed, t7_after, t7_acut, t7_keep, t7_bs, t7_ws)).fst ∧
                                      bif
                                          !decide
                                              (Sp.dLasts A (Sp.dStep (nth t58 t60 (0, 0, 0, false, [])) (t7_down, t7_armed, t7_after, t7_acut, t7_keep, t7_bs, t7_ws)).fst =
                                                nth
                                                  (Sp.rStep (nth t58 t60 (0, 0, 0, false, []))
                                                                  (t9_rdown, t9_rarmed, t9_rafter, t9_racut, t9_rkeep, t9_rbs, t9_rws)).fst.snd.snd.snd.snd.snd.fst
                                                  A []) then
                                        R false
                                      else
                                        Rg IntKind.i64 (t60 + 1) ∧
                                          K0
                                            (t, A, t58, t59, t60 + 1, (Sp.dStep (nth t58 t60 (0, 0, 0, false, [])) (t7_down, t7_armed, t7_after, t7_acut, t7_keep, t7_bs, t7_ws)).fst.fst,
                                              (Sp.dStep (nth t58 t60 (0, 0, 0, false, [])) (t7_down, t7_armed, t7_after, t7_acut, t7_keep, t7_bs, t7_ws)).fst.snd.fst,
                                              (Sp.dStep (nth t58 t60 (0, 0, 0, false, [])) (t7_down, t7_armed, t7_after, t7_acut, t7_keep, t7_bs, t7_ws)).fst.snd.snd.fst,
                                              (Sp.dStep (nth t58 t60 (0, 0, 0, false, [])) (t7_down, t7_armed, t7_after, t7_acut, t7_keep, t7_bs, t7_ws)).fst.snd.snd.snd.fst,
                                              (Sp.dStep (nth t58 t60 (0, 0, 0, false, [])) (t7_down, t7_armed, t7_after, t7_acut, t7_keep, t7_bs, t7_ws)).fst.snd.snd.snd.snd.fst,
                                              (Sp.dStep (nth t58 t60 (0, 0, 0, false, [])) (t7_down, t7_armed, t7_after, t7_acut, t7_keep, t7_bs, t7_ws)).fst.snd.snd.snd.snd.snd.fst,
                                              (Sp.dStep (nth t58 t60 (0, 0, 0, false, [])) (t7_down, t7_armed, t7_after, t7_acut, t7_keep, t7_bs, t7_ws)).fst.snd.snd.snd.snd.snd.snd,
                                              (Sp.rStep (nth t58 t60 (0, 0, 0, false, [])) (t9_rdown, t9_rarmed, t9_rafter, t9_racut, t9_rkeep, t9_rbs, t9_rws)).fst.fst,
                                              (Sp.rStep (nth t58 t60 (0, 0, 0, false, [])) (t9_rdown, t9_rarmed, t9_rafter, t9_racut, t9_rkeep, t9_rbs, t9_rws)).fst.snd.fst,
                                              (Sp.rStep (nth t58 t60 (0, 0, 0, false, [])) (t9_rdown, t9_rarmed, t9_rafter, t9_racut, t9_rkeep, t9_rbs, t9_rws)).fst.snd.snd.fst,
                                              (Sp.rStep (nth t58 t60 (0, 0, 0, false, [])) (t9_rdown, t9_rarmed, t9_rafter, t9_racut, t9_rkeep, t9_rbs, t9_rws)).fst.snd.snd.snd.fst,
                                              (Sp.rStep (nth t58 t60 (0, 0, 0, false, [])) (t9_rdown, t9_rarmed, t9_rafter, t9_racut, t9_rkeep, t9_rbs, t9_rws)).fst.snd.snd.snd.snd.fst,
                                              (Sp.rStep (nth t58 t60 (0, 0, 0, false, [])) (t9_rdown, t9_rarmed, t9_rafter, t9_racut, t9_rkeep, t9_rbs, t9_rws)).fst.snd.snd.snd.snd.snd.fst,
                                              (Sp.rStep (nth t58 t60 (0, 0, 0, false, [])) (t9_rdown, t9_rarmed, t9_rafter, t9_racut, t9_rkeep, t9_rbs, t9_rws)).fst.snd.snd.snd.snd.snd.snd,
                                              ())
                            else
                              bif
                                  !decide
                                      ((Sp.dRead A (Sp.dStep (nth t58 t60 (0, 0, 0, false, [])) (t7_down, t7_armed, t7_after, t7_acut, t7_keep, t7_bs, t7_ws)).fst).fst =
                                        (Sp.rRead A (Sp.rStep (nth t58 t60 (0, 0, 0, false, [])) (t9_rdown, t9_rarmed, t9_rafter, t9_racut, t9_rkeep, t9_rbs, t9_rws)).fst).fst) then
                                R false
                              else
                                bif
                                    !decide
                                        ((Sp.dRead A (Sp.dStep (nth t58 t60 (0, 0, 0, false, [])) (t7_down, t7_armed, t7_after, t7_acut, t7_keep, t7_bs, t7_ws)).fst).snd =
                                          (Sp.rRead A (Sp.rStep (nth t58 t60 (0, 0, 0, false, [])) (t9_rdown, t9_rarmed, t9_rafter, t9_racut, t9_rkeep, t9_rbs, t9_rws)).fst).snd) then
                                  R false
                                else
                                  Sp.dPre (Sp.dStep (nth t58 t60 (0, 0, 0, false, [])) (t7_down, t7_armed, t7_after, t7_acut, t7_keep, t7_bs, t7_ws)).fst ∧
                                    bif !decide (Sp.dLasts A (Sp.dStep (nth t58 t60 (0, 0, 0, false, [])) (t7_down, t7_armed, t7_after, t7_acut, t7_keep, t7_bs, t7_ws)).fst = []) then
                                      R false
                                    else
                                      Rg IntKind.i64 (t60 + 1) ∧
                                        K0
                                          (t, A, t58, t59, t60 + 1, (Sp.dStep (nth t58 t60 (0, 0, 0, false, [])) (t7_down, t7_armed, t7_after, t7_acut, t7_keep, t7_bs, t7_ws)).fst.fst,
                                            (Sp.dStep (nth t58 t60 (0, 0, 0, false, [])) (t7_down, t7_armed, t7_after, t7_acut, t7_keep, t7_bs, t7_ws)).fst.snd.fst,
                                            (Sp.dStep (nth t58 t60 (0, 0, 0, false, [])) (t7_down, t7_armed, t7_after, t7_acut, t7_keep, t7_bs, t7_ws)).fst.snd.snd.fst,
                                            (Sp.dStep (nth t58 t60 (0, 0, 0, false, [])) (t7_down, t7_armed, t7_after, t7_acut, t7_keep, t7_bs, t7_ws)).fst.snd.snd.snd.fst,
                                            (Sp.dStep (nth t58 t60 (0, 0, 0, false, [])) (t7_down, t7_armed, t7_after, t7_acut, t7_keep, t7_bs, t7_ws)).fst.snd.snd.snd.snd.fst,
                                            (Sp.dStep (nth t58 t60 (0, 0, 0, false, [])) (t7_down, t7_armed, t7_after, t7_acut, t7_keep, t7_bs, t7_ws)).fst.snd.snd.snd.snd.snd.fst,
                                            (Sp.dStep (nth t58 t60 (0, 0, 0, false, [])) (t7_down, t7_armed, t7_after, t7_acut, t7_keep, t7_bs, t7_ws)).fst.snd.snd.snd.snd.snd.snd,
                                            (Sp.rStep (nth t58 t60 (0, 0, 0, false, [])) (t9_rdown, t9_rarmed, t9_rafter, t9_racut, t9_rkeep, t9_rbs, t9_rws)).fst.fst,
                                            (Sp.rStep (nth t58 t60 (0, 0, 0, false, [])) (t9_rdown, t9_rarmed, t9_rafter, t9_racut, t9_rkeep, t9_rbs, t9_rws)).fst.snd.fst,
                                            (Sp.rStep (nth t58 t60 (0, 0, 0, false, [])) (t9_rdown, t9_rarmed, t9_rafter, t9_racut, t9_rkeep, t9_rbs, t9_rws)).fst.snd.snd.fst,
                                            (Sp.rStep (nth t58 t60 (0, 0, 0, false, [])) (t9_rdown, t9_rarmed, t9_rafter, t9_racut, t9_rkeep, t9_rbs, t9_rws)).fst.snd.snd.snd.fst,
                                            (Sp.rStep (nth t58 t60 (0, 0, 0, false, [])) (t9_rdown, t9_rarmed, t9_rafter, t9_racut, t9_rkeep, t9_rbs, t9_rws)).fst.snd.snd.snd.snd.fst,
                                            (Sp.rStep (nth t58 t60 (0, 0, 0, false, [])) (t9_rdown, t9_rarmed, t9_rafter, t9_racut, t9_rkeep, t9_rbs, t9_rws)).fst.snd.snd.snd.snd.snd.fst,
                                            (Sp.rStep (nth t58 t60 (0, 0, 0, false, [])) (t9_rdown, t9_rarmed, t9_rafter, t9_racut, t9_rkeep, t9_rbs, t9_rws)).fst.snd.snd.snd.snd.snd.snd,
                                            ())
                          else
                            bif
                                !decide
                                    ((Sp.dRead A (Sp.dStep (nth t58 t60 (0, 0, 0, false, [])) (t7_down, t7_armed, t7_after, t7_acut, t7_keep, t7_bs, t7_ws)).fst).fst =
                                      (Sp.rRead A (Sp.rStep (nth t58 t60 (0, 0, 0, false, [])) (t9_rdown, t9_rarmed, t9_rafter, t9_racut, t9_rkeep, t9_rbs, t9_rws)).fst).fst) then
                              R false
                            else
                              bif
                                  !decide
                                      ((Sp.dRead A (Sp.dStep (nth t58 t60 (0, 0, 0, false, [])) (t7_down, t7_armed, t7_after, t7_acut, t7_keep, t7_bs, t7_ws)).fst).snd =
                                        (Sp.rRead A (Sp.rStep (nth t58 t60 (0, 0, 0, false, [])) (t9_rdown, t9_rarmed, t9_rafter, t9_racut, t9_rkeep, t9_rbs, t9_rws)).fst).snd) then
                                R false
                              else
                                Sp.dPre (Sp.dStep (nth t58 t60 (0, 0, 0, false, [])) (t7_down, t7_armed, t7_after, t7_acut, t7_keep, t7_bs, t7_ws)).fst ∧
                                  bif !decide (Sp.dLasts A (Sp.dStep (nth t58 t60 (0, 0, 0, false, [])) (t7_down, t7_armed, t7_after, t7_acut, t7_keep, t7_bs, t7_ws)).fst = []) then R false
                                  else
                                    Rg IntKind.i64 (t60 + 1) ∧
                                      K0
                                        (t, A, t58, t59, t60 + 1, (Sp.dStep (nth t58 t60 (0, 0, 0, false, [])) (t7_down, t7_armed, t7_after, t7_acut, t7_keep, t7_bs, t7_ws)).fst.fst,
                                          (Sp.dStep (nth t58 t60 (0, 0, 0, false, [])) (t7_down, t7_armed, t7_after, t7_acut, t7_keep, t7_bs, t7_ws)).fst.snd.fst,
                                          (Sp.dStep (nth t58 t60 (0, 0, 0, false, [])) (t7_down, t7_armed, t7_after, t7_acut, t7_keep, t7_bs, t7_ws)).fst.snd.snd.fst,
                                          (Sp.dStep (nth t58 t60 (0, 0, 0, false, [])) (t7_down, t7_armed, t7_after, t7_acut, t7_keep, t7_bs, t7_ws)).fst.snd.snd.snd.fst,
                                          (Sp.dStep (nth t58 t60 (0, 0, 0, false, [])) (t7_down, t7_armed, t7_after, t7_acut, t7_keep, t7_bs, t7_ws)).fst.snd.snd.snd.snd.fst,
                                          (Sp.dStep (nth t58 t60 (0, 0, 0, false, [])) (t7_down, t7_armed, t7_after, t7_acut, t7_keep, t7_bs, t7_ws)).fst.snd.snd.snd.snd.snd.fst,
                                          (Sp.dStep (nth t58 t60 (0, 0, 0, false, [])) (t7_down, t7_armed, t7_after, t7_acut, t7_keep, t7_bs, t7_ws)).fst.snd.snd.snd.snd.snd.snd,
                                          (Sp.rStep (nth t58 t60 (0, 0, 0, false, [])) (t9_rdown, t9_rarmed, t9_rafter, t9_racut, t9_rkeep, t9_rbs, t9_rws)).fst.fst,
                                          (Sp.rStep (nth t58 t60 (0, 0, 0, false, [])) (t9_rdown, t9_rarmed, t9_rafter, t9_racut, t9_rkeep, t9_rbs, t9_rws)).fst.snd.fst,
                                          (Sp.rStep (nth t58 t60 (0, 0, 0, false, [])) (t9_rdown, t9_rarmed, t9_rafter, t9_racut, t9_rkeep, t9_rbs, t9_rws)).fst.snd.snd.fst,
                                          (Sp.rStep (nth t58 t60 (0, 0, 0, false, [])) (t9_rdown, t9_rarmed, t9_rafter, t9_racut, t9_rkeep, t9_rbs, t9_rws)).fst.snd.snd.snd.fst,
                                          (Sp.rStep (nth t58 t60 (0, 0, 0, false, [])) (t9_rdown, t9_rarmed, t9_rafter, t9_racut, t9_rkeep, t9_rbs, t9_rws)).fst.snd.snd.snd.snd.fst,
                                          (Sp.rStep (nth t58 t60 (0, 0, 0, false, [])) (t9_rdown, t9_rarmed, t9_rafter, t9_racut, t9_rkeep, t9_rbs, t9_rws)).fst.snd.snd.snd.snd.snd.fst,
                                          (Sp.rStep (nth t58 t60 (0, 0, 0, false, [])) (t9_rdown, t9_rarmed, t9_rafter, t9_racut, t9_rkeep, t9_rbs, t9_rws)).fst.snd.snd.snd.snd.snd.snd, ())
  else R Sp.tt
def rectolaw27_DiskSteps.vc (R : Bool → Prop) (t : Int) (o : List (Int × Int × Int × Bool × List Int)) (A : Int) : Prop :=
  bif Sp.badN t then bif decide (t < 4) then R Sp.tt else bif decide (128 < t) then R Sp.tt else R false
  else
    bif decide (t < 4) then R false
    else
      bif decide (128 < t) then R false
      else
        Sp.longS.pre o ∧
          bif Sp.longS o then R Sp.tt
          else
            Sp.rNew.pre t ∧
              Lp
                (fun v K =>
                  rectolaw27_DiskSteps.L0 R v.fst v.snd.fst v.snd.snd.fst v.snd.snd.snd.fst v.snd.snd.snd.snd.fst v.snd.snd.snd.snd.snd.fst v.snd.snd.snd.snd.snd.snd.fst
                    v.snd.snd.snd.snd.snd.snd.snd.fst v.snd.snd.snd.snd.snd.snd.snd.snd.fst v.snd.snd.snd.snd.snd.snd.snd.snd.snd.fst v.snd.snd.snd.snd.snd.snd.snd.snd.snd.snd.fst
                    v.snd.snd.snd.snd.snd.snd.snd.snd.snd.snd.snd.fst v.snd.snd.snd.snd.snd.snd.snd.snd.snd.snd.snd.snd.fst v.snd.snd.snd.snd.snd.snd.snd.snd.snd.snd.snd.snd.snd.fst
                    v.snd.snd.snd.snd.snd.snd.snd.snd.snd.snd.snd.snd.snd.snd.fst v.snd.snd.snd.snd.snd.snd.snd.snd.snd.snd.snd.snd.snd.snd.snd.fst
                    v.snd.snd.snd.snd.snd.snd.snd.snd.snd.snd.snd.snd.snd.snd.snd.snd.fst v.snd.snd.snd.snd.snd.snd.snd.snd.snd.snd.snd.snd.snd.snd.snd.snd.snd.fst
                    v.snd.snd.snd.snd.snd.snd.snd.snd.snd.snd.snd.snd.snd.snd.snd.snd.snd.snd.fst K)
                (t, A, o, (↑o.length : Int), 0, (Sp.dNew t).fst, (Sp.dNew t).snd.fst, (Sp.dNew t).snd.snd.fst, (Sp.dNew t).snd.snd.snd.fst, (Sp.dNew t).snd.snd.snd.snd.fst,
                  (Sp.dNew t).snd.snd.snd.snd.snd.fst, (Sp.dNew t).snd.snd.snd.snd.snd.snd, (Sp.rNew t).fst, (Sp.rNew t).snd.fst, (Sp.rNew t).snd.snd.fst, (Sp.rNew t).snd.snd.snd.fst,
                  (Sp.rNew t).snd.snd.snd.snd.fst, (Sp.rNew t).snd.snd.snd.snd.snd.fst, (Sp.rNew t).snd.snd.snd.snd.snd.snd, ())

def rectolaw27_DiskLasts.L0 (R : Bool →
  Prop) (at_ : Int) (b : Int) (t67 : List
  (Int ×
    Int ×
      Int ×
        Bool ×
          List
            Int)) (t68 : Int) (t69 : Int) (d_down : Bool) (d_armed : Bool) (d_after : Int) (d_acut : Bool) (d_keep : List
  Int) (d_bs : List
  (List
    (List
      UInt8))) (d_ws : List
  (Int ×
    List
      (List
        UInt8))) (w_rdown : Bool) (w_rarmed : Bool) (w_rafter : Int) (w_racut : Bool) (w_rkeep : List
  Int) (w_rbs : List
  (List
    UInt8)) (w_rws : List
  (Int ×
    List
      UInt8)) (K0 : Int ×
    Int ×
      List (Int × Int × Int × Bool × List Int) ×
        Int ×
          Int ×
            Bool ×
              Bool ×
                Int ×
                  Bool × List Int × List (List (List UInt8)) × List (Int × List (List UInt8)) × Bool × Bool × Int × Bool × List Int × List (List UInt8) × List (Int × List UInt8) × Unit →
  Prop) : Prop :=
  bif decide (t69 < t68) then
    Ix t69 t67.length ∧
      bif decide ((nth t67 t69 (0, 0, 0, false, [])).fst < 3) then
        bif decide ((nth t67 t69 (0, 0, 0, false, [])).snd.fst = at_) then
          Rg IntKind.i64 (t69 + 1) ∧ K0 (at_, b, t67, t68, t69 + 1, d_down, d_armed, d_after, d_acut, d_keep, d_bs, d_ws, w_rdown, w_rarmed, w_rafter, w_racut, w_rkeep, w_rbs, w_rws, ())
        else
          Sp.does.pre (nth t67 t69 (0, 0, 0, false, [])) (d_down, d_armed, d_after, d_acut, d_keep, d_bs, d_ws) (w_rdown, w_rarmed, w_rafter, w_racut, w_rkeep, w_rbs, w_rws) ∧
            Sp.dPre (Sp.dStep (nth t67 t69 (0, 0, 0, false, [])) (d_down, d_armed, d_after, d_acut, d_keep, d_bs, d_ws)).fst ∧
              Sp.fillB.pre b ∧
                bif !decide (Sp.dLasts at_ (Sp.dStep (nth t67 t69 (0, 0, 0, false, [])) (d_down, d_armed, d_after, d_acut, d_keep, d_bs, d_ws)).fst = Sp.fillB b) then R false
                else
                  Rg IntKind.i64 (t69 + 1) ∧
                    K0
                      (at_, b, t67, t68, t69 + 1, (Sp.dStep (nth t67 t69 (0, 0, 0, false, [])) (d_down, d_armed, d_after, d_acut, d_keep, d_bs, d_ws)).fst.fst,
                        (Sp.dStep (nth t67 t69 (0, 0, 0, false, [])) (d_down, d_armed, d_after, d_acut, d_keep, d_bs, d_ws)).fst.snd.fst,
                        (Sp.dStep (nth t67 t69 (0, 0, 0, false, [])) (d_down, d_armed, d_after, d_acut, d_keep, d_bs, d_ws)).fst.snd.snd.fst,
                        (Sp.dStep (nth t67 t69 (0, 0, 0, false, [])) (d_down, d_armed, d_after, d_acut, d_keep, d_bs, d_ws)).fst.snd.snd.snd.fst,
                        (Sp.dStep (nth t67 t69 (0, 0, 0, false, [])) (d_down, d_armed, d_after, d_acut, d_keep, d_bs, d_ws)).fst.snd.snd.snd.snd.fst,
                        (Sp.dStep (nth t67 t69 (0, 0, 0, false, [])) (d_down, d_armed, d_after, d_acut, d_keep, d_bs, d_ws)).fst.snd.snd.snd.snd.snd.fst,
                        (Sp.dStep (nth t67 t69 (0, 0, 0, false, [])) (d_down, d_armed, d_after, d_acut, d_keep, d_bs, d_ws)).fst.snd.snd.snd.snd.snd.snd,
                        (Sp.rStep (nth t67 t69 (0, 0, 0, false, [])) (w_rdown, w_rarmed, w_rafter, w_racut, w_rkeep, w_rbs, w_rws)).fst.fst,
                        (Sp.rStep (nth t67 t69 (0, 0, 0, false, [])) (w_rdown, w_rarmed, w_rafter, w_racut, w_rkeep, w_rbs, w_rws)).fst.snd.fst,
                        (Sp.rStep (nth t67 t69 (0, 0, 0, false, [])) (w_rdown, w_rarmed, w_rafter, w_racut, w_rkeep, w_rbs, w_rws)).fst.snd.snd.fst,
                        (Sp.rStep (nth t67 t69 (0, 0, 0, false, [])) (w_rdown, w_rarmed, w_rafter, w_racut, w_rkeep, w_rbs, w_rws)).fst.snd.snd.snd.fst,
                        (Sp.rStep (nth t67 t69 (0, 0, 0, false, [])) (w_rdown, w_rarmed, w_rafter, w_racut, w_rkeep, w_rbs, w_rws)).fst.snd.snd.snd.snd.fst,
                        (Sp.rStep (nth t67 t69 (0, 0, 0, false, [])) (w_rdown, w_rarmed, w_rafter, w_racut, w_rkeep, w_rbs, w_rws)).fst.snd.snd.snd.snd.snd.fst,
                        (Sp.rStep (nth t67 t69 (0, 0, 0, false, [])) (w_rdown, w_rarmed, w_rafter, w_racut, w_rkeep, w_rbs, w_rws)).fst.snd.snd.snd.snd.snd.snd, ())
      else
        Sp.does.pre (nth t67 t69 (0, 0, 0, false, [])) (d_down, d_armed, d_after, d_acut, d_keep, d_bs, d_ws) (w_rdown, w_rarmed, w_rafter, w_racut, w_rkeep, w_rbs, w_rws) ∧
          Sp.dPre (Sp.dStep (nth t67 t69 (0, 0, 0, false, [])) (d_down, d_armed, d_after, d_acut, d_keep, d_bs, d_ws)).fst ∧
            Sp.fillB.pre b ∧
              bif !decide (Sp.dLasts at_ (Sp.dStep (nth t67 t69 (0, 0, 0, false, [])) (d_down, d_armed, d_after, d_acut, d_keep, d_bs, d_ws)).fst = Sp.fillB b) then R false
              else
                Rg IntKind.i64 (t69 + 1) ∧
                  K0
                    (at_, b, t67, t68, t69 + 1, (Sp.dStep (nth t67 t69 (0, 0, 0, false, [])) (d_down, d_armed, d_after, d_acut, d_keep, d_bs, d_ws)).fst.fst,
                      (Sp.dStep (nth t67 t69 (0, 0, 0, false, [])) (d_down, d_armed, d_after, d_acut, d_keep, d_bs, d_ws)).fst.snd.fst,
                      (Sp.dStep (nth t67 t69 (0, 0, 0, false, [])) (d_down, d_armed, d_after, d_acut, d_keep, d_bs, d_ws)).fst.snd.snd.fst,
                      (Sp.dStep (nth t67 t69 (0, 0, 0, false, [])) (d_down, d_armed, d_after, d_acut, d_keep, d_bs, d_ws)).fst.snd.snd.snd.fst,
                      (Sp.dStep (nth t67 t69 (0, 0, 0, false, [])) (d_down, d_armed, d_after, d_acut, d_keep, d_bs, d_ws)).fst.snd.snd.snd.snd.fst,
                      (Sp.dStep (nth t67 t69 (0, 0, 0, false, [])) (d_down, d_armed, d_after, d_acut, d_keep, d_bs, d_ws)).fst.snd.snd.snd.snd.snd.fst,
                      (Sp.dStep (nth t67 t69 (0, 0, 0, false, [])) (d_down, d_armed, d_after, d_acut, d_keep, d_bs, d_ws)).fst.snd.snd.snd.snd.snd.snd,
                      (Sp.rStep (nth t67 t69 (0, 0, 0, false, [])) (w_rdown, w_rarmed, w_rafter, w_racut, w_rkeep, w_rbs, w_rws)).fst.fst,
                      (Sp.rStep (nth t67 t69 (0, 0, 0, false, [])) (w_rdown, w_rarmed, w_rafter, w_racut, w_rkeep, w_rbs, w_rws)).fst.snd.fst,
                      (Sp.rStep (nth t67 t69 (0, 0, 0, false, [])) (w_rdown, w_rarmed, w_rafter, w_racut, w_rkeep, w_rbs, w_rws)).fst.snd.snd.fst,
                      (Sp.rStep (nth t67 t69 (0, 0, 0, false, [])) (w_rdown, w_rarmed, w_rafter, w_racut, w_rkeep, w_rbs, w_rws)).fst.snd.snd.snd.fst,
                      (Sp.rStep (nth t67 t69 (0, 0, 0, false, [])) (w_rdown, w_rarmed, w_rafter, w_racut, w_rkeep, w_rbs, w_rws)).fst.snd.snd.snd.snd.fst,
                      (Sp.rStep (nth t67 t69 (0, 0, 0, false, [])) (w_rdown, w_rarmed, w_rafter, w_racut, w_rkeep, w_rbs, w_rws)).fst.snd.snd.snd.snd.snd.fst,
                      (Sp.rStep (nth t67 t69 (0, 0, 0, false, [])) (w_rdown, w_rarmed, w_rafter, w_racut, w_rkeep, w_rbs, w_rws)).fst.snd.snd.snd.snd.snd.snd, ())
  else R Sp.tt
def rectolaw27_DiskLasts.vc (R : Bool → Prop) (l : List (Int × Int × Int × Bool × List Int)) (at_ : Int) (b : Int) : Prop :=
  Sp.longS.pre l ∧
    bif Sp.longS l then R Sp.tt
    else
      bif decide (at_ < 0) then R Sp.tt
      else
        bif decide (15 < at_) then R Sp.tt
        else
          Sp.fillB.pre b ∧
            Sp.dWrite.pre at_ (Sp.fillB b) (false, false, (Sp.dNew 16).snd.snd.fst, false, (Sp.dNew 16).snd.snd.snd.snd) ∧
              Sp.dPre (Sp.dWrite at_ (Sp.fillB b) (false, false, (Sp.dNew 16).snd.snd.fst, false, (Sp.dNew 16).snd.snd.snd.snd)).fst ∧
                bif !decide ((Sp.dWrite at_ (Sp.fillB b) (false, false, (Sp.dNew 16).snd.snd.fst, false, (Sp.dNew 16).snd.snd.snd.snd)).snd = 0) then R false
                else
                  bif !decide ((Sp.dFlush (Sp.dWrite at_ (Sp.fillB b) (false, false, (Sp.dNew 16).snd.snd.fst, false, (Sp.dNew 16).snd.snd.snd.snd)).fst).snd = 0) then R false
                  else
                    Sp.dPre (Sp.dFlush (Sp.dWrite at_ (Sp.fillB b) (false, false, (Sp.dNew 16).snd.snd.fst, false, (Sp.dNew 16).snd.snd.snd.snd)).fst).fst ∧
                      Sp.fillB.pre b ∧
                        bif
                            !decide
                                (Sp.dLasts at_ (Sp.dFlush (Sp.dWrite at_ (Sp.fillB b) (false, false, (Sp.dNew 16).snd.snd.fst, false, (Sp.dNew 16).snd.snd.snd.snd)).fst).fst =
                                  Sp.fillB b) then
                          R false
                        else
                          Sp.rNew.pre 16 ∧
                            Lp
                              (fun v K =>
                                rectolaw27_DiskLasts.L0 R v.fst v.snd.fst v.snd.snd.fst v.snd.snd.snd.fst v.snd.snd.snd.snd.fst v.snd.snd.snd.snd.snd.fst v.snd.snd.snd.snd.snd.snd.fst
                                  v.snd.snd.snd.snd.snd.snd.snd.fst v.snd.snd.snd.snd.snd.snd.snd.snd.fst v.snd.snd.snd.snd.snd.snd.snd.snd.snd.fst
                                  v.snd.snd.snd.snd.snd.snd.snd.snd.snd.snd.fst v.snd.snd.snd.snd.snd.snd.snd.snd.snd.snd.snd.fst v.snd.snd.snd.snd.snd.snd.snd.snd.snd.snd.snd.snd.fst
                                  v.snd.snd.snd.snd.snd.snd.snd.snd.snd.snd.snd.snd.snd.fst v.snd.snd.snd.snd.snd.snd.snd.snd.snd.snd.snd.snd.snd.snd.fst
                                  v.snd.snd.snd.snd.snd.snd.snd.snd.snd.snd.snd.snd.snd.snd.snd.fst v.snd.snd.snd.snd.snd.snd.snd.snd.snd.snd.snd.snd.snd.snd.snd.snd.fst
                                  v.snd.snd.snd.snd.snd.snd.snd.snd.snd.snd.snd.snd.snd.snd.snd.snd.snd.fst v.snd.snd.snd.snd.snd.snd.snd.snd.snd.snd.snd.snd.snd.snd.snd.snd.snd.snd.fst K)
                              (at_, b, l, (↑l.length : Int), 0,
                                (Sp.dFlush (Sp.dWrite at_ (Sp.fillB b) (false, false, (Sp.dNew 16).snd.snd.fst, false, (Sp.dNew 16).snd.snd.snd.snd)).fst).fst.fst,
                                (Sp.dFlush (Sp.dWrite at_ (Sp.fillB b) (false, false, (Sp.dNew 16).snd.snd.fst, false, (Sp.dNew 16).snd.snd.snd.snd)).fst).fst.snd.fst,
                                (Sp.dFlush (Sp.dWrite at_ (Sp.fillB b) (false, false, (Sp.dNew 16).snd.snd.fst, false, (Sp.dNew 16).snd.snd.snd.snd)).fst).fst.snd.snd.fst,
                                (Sp.dFlush (Sp.dWrite at_ (Sp.fillB b) (false, false, (Sp.dNew 16).snd.snd.fst, false, (Sp.dNew 16).snd.snd.snd.snd)).fst).fst.snd.snd.snd.fst,
                                (Sp.dFlush (Sp.dWrite at_ (Sp.fillB b) (false, false, (Sp.dNew 16).snd.snd.fst, false, (Sp.dNew 16).snd.snd.snd.snd)).fst).fst.snd.snd.snd.snd.fst,
                                (Sp.dFlush (Sp.dWrite at_ (Sp.fillB b) (false, false, (Sp.dNew 16).snd.snd.fst, false, (Sp.dNew 16).snd.snd.snd.snd)).fst).fst.snd.snd.snd.snd.snd.fst,
                                (Sp.dFlush (Sp.dWrite at_ (Sp.fillB b) (false, false, (Sp.dNew 16).snd.snd.fst, false, (Sp.dNew 16).snd.snd.snd.snd)).fst).fst.snd.snd.snd.snd.snd.snd, false,
                                false, (Sp.rNew 16).snd.snd.fst, false, (Sp.rNew 16).snd.snd.snd.snd.fst, (Sp.rNew 16).snd.snd.snd.snd.snd.fst, (Sp.rNew 16).snd.snd.snd.snd.snd.snd, ())

def rectolaw27_DiskSectors.L1 (K0 : List Int ×
    List (Int × Int × Int × Bool × List Int) ×
      Int ×
        Int ×
          Bool ×
            Bool ×
              Int ×
                Bool ×
                  List Int ×
                    List (List (List UInt8)) ×
                      List (Int × List (List UInt8)) ×
                        Bool ×
                          Bool ×
                            Int × Bool × List Int × List (List UInt8) × List (Int × List UInt8) × Bool × Bool × Int × Bool × List Int × List (List UInt8) × List (Int × List UInt8) × Unit →
  Prop) (o : List
  Int) (t49 : List
  (Int ×
    Int ×
      Int ×
        Bool ×
          List
            Int)) (t50 : Int) (t51 : Int) (t84 : Int) (t85 : Int) (a_down : Bool) (a_armed : Bool) (a_after : Int) (a_acut : Bool) (a_keep : List
  Int) (a_bs : List
  (List
    (List
      UInt8))) (a_ws : List
  (Int ×
    List
      (List
        UInt8))) (t7_rdown : Bool) (t7_rarmed : Bool) (t7_rafter : Int) (t7_racut : Bool) (t7_rkeep : List
  Int) (t7_rbs : List
  (List
    UInt8)) (t7_rws : List
  (Int ×
    List
      UInt8)) (t8_rdown : Bool) (t8_rarmed : Bool) (t8_rafter : Int) (t8_racut : Bool) (t8_rkeep : List
  Int) (t8_rbs : List
  (List
    UInt8)) (t8_rws : List
  (Int ×
    List
      UInt8)) (K1 : List Int ×
    List (Int × Int × Int × Bool × List Int) ×
      Int ×
        Int ×
          Int ×
            Int ×
              Bool ×
                Bool ×
                  Int ×
                    Bool ×
                      List Int ×
                        List (List (List UInt8)) ×
                          List (Int × List (List UInt8)) ×
                            Bool ×
                              Bool ×
                                Int ×
                                  Bool × List Int × List (List UInt8) × List (Int × List UInt8) × Bool × Bool × Int × Bool × List Int × List (List UInt8) × List (Int × List UInt8) × Unit →
  Prop) : Prop :=
  bif decide (t85 < t84) then
    Ix t85 t8_rbs.length ∧
      Ix t85 t7_rbs.length ∧
        Rg IntKind.i64 (t85 + 1) ∧
          K1
            (o, t49, t50, t51, t84, t85 + 1, a_down, a_armed, a_after, a_acut, a_keep, a_bs, a_ws, t7_rdown, t7_rarmed, t7_rafter, t7_racut, t7_rkeep,
              t7_rbs.set t85.toNat (nth t8_rbs t85 []), t7_rws, t8_rdown, t8_rarmed, t8_rafter, t8_racut, t8_rkeep, t8_rbs, t8_rws, ())
  else
    Rg IntKind.i64 (t51 + 1) ∧
      K0
        (o, t49, t50, t51 + 1, a_down, a_armed, a_after, a_acut, a_keep, a_bs, a_ws, t7_rdown, t7_rarmed, t7_rafter, t7_racut, t7_rkeep, t7_rbs, t7_rws, t8_rdown, t8_rarmed, t8_rafter,
          t8_racut, t8_rkeep, t8_rbs, t8_rws, ())
def rectolaw27_DiskSectors.L2 (K0 : List Int ×
    List (Int × Int × Int × Bool × List Int) ×
      Int ×
        Int ×
          Bool ×
            Bool ×
              Int ×
                Bool ×
                  List Int ×
                    List (List (List UInt8)) ×
                      List (Int × List (List UInt8)) ×
                        Bool ×
                          Bool ×
                            Int × Bool × List Int × List (List UInt8) × List (Int × List UInt8) × Bool × Bool × Int × Bool × List Int × List (List UInt8) × List (Int × List UInt8) × Unit →
  Prop) (t12 : List
  Int) (t13 : List
  (Int ×
    Int ×
      Int ×
        Bool ×
          List
            Int)) (a_down : Int) (a_armed : Int) (a_after : Int) (a_acut : Int) (a_keep : Bool) (a_bs : Bool) (a_ws : Int) (t7_rdown : Bool) (t7_rarmed : List
  Int) (t7_rafter : List
  (List
    (List
      UInt8))) (t7_racut : List
  (Int ×
    List
      (List
        UInt8))) (t7_rkeep : Bool) (t7_rbs : Bool) (t7_rws : Int) (x216 : Bool) (x217 : List
  Int) (x218 : List
  (List
    UInt8)) (x219 : List
  (Int ×
    List
      UInt8)) (x220 : Bool) (x221 : Bool) (x222 : Int) (x223 : Bool) (x224 : List
  Int) (x225 : List
  (List
    UInt8)) (x226 : List
  (Int ×
    List
      UInt8)) (K2 : List Int ×
    List (Int × Int × Int × Bool × List Int) ×
      Int ×
        Int ×
          Int ×
            Int ×
              Bool ×
                Bool ×
                  Int ×
                    Bool ×
                      List Int ×
                        List (List (List UInt8)) ×
                          List (Int × List (List UInt8)) ×
                            Bool ×
                              Bool ×
                                Int ×
                                  Bool × List Int × List (List UInt8) × List (Int × List UInt8) × Bool × Bool × Int × Bool × List Int × List (List UInt8) × List (Int × List UInt8) × Unit →
  Prop) : Prop :=
  bif decide (a_acut < a_after) then
    Ix a_acut x225.length ∧
      Ix a_acut x218.length ∧
        Rg IntKind.i64 (a_acut + 1) ∧
          K2
            (t12, t13, a_down, a_armed, a_after, a_acut + 1, a_keep, a_bs, a_ws, t7_rdown, t7_rarmed, t7_rafter, t7_racut, t7_rkeep, t7_rbs, t7_rws, x216, x217,
              x218.set a_acut.toNat (nth x225 a_acut []), x219, x220, x221, x222, x223, x224, x225, x226, ())
  else
    Rg IntKind.i64 (a_armed + 1) ∧
      K0
        (t12, t13, a_down, a_armed + 1, a_keep, a_bs, a_ws, t7_rdown, t7_rarmed, t7_rafter, t7_racut, t7_rkeep, t7_rbs, t7_rws, x216, x217, x218, x219, x220, x221, x222, x223, x224, x225,
          x226, ())
def rectolaw27_DiskSectors.L5 (R : Bool →
  Prop) (K4 : List (Int × List UInt8) ×
    Int ×
      List UInt8 ×
        Int ×
          Bool ×
            Bool ×
              Int × Bool × List Int × List (List (List UInt8)) × List (Int × List (List UInt8)) × Bool × Bool × Int × Bool × List Int × List (List UInt8) × List (Int × List UInt8) × Unit →
  Prop) (x50 : List
  (Int ×
    List
      UInt8)) (x51 : Int) (x52 : List
  UInt8) (x53 : Int) (x54 : Bool) (x55 : List
  (Int ×
    List
      UInt8)) (x56 : Int) (x57 : Int) (x58 : Bool) (x59 : Bool) (x510 : Int) (x511 : Bool) (x512 : List
  Int) (x513 : List
  (List
    (List
      UInt8))) (x514 : List
  (Int ×
    List
      (List
        UInt8))) (x515 : Bool) (x516 : Bool) (x517 : Int) (x518 : Bool) (x519 : List
  Int) (x520 : List
  (List
    UInt8)) (x521 : List
  (Int ×
    List
      UInt8)) (K5 : List (Int × List UInt8) ×
    Int ×
      List UInt8 ×
        Int ×
          Bool ×
            List (Int × List UInt8) ×
              Int ×
                Int ×
                  Bool ×
                    Bool ×
                      Int ×
                        Bool ×
                          List Int × List (List (List UInt8)) × List (Int × List (List UInt8)) × Bool × Bool × Int × Bool × List Int × List (List UInt8) × List (Int × List UInt8) × Unit →
  Prop) : Prop :=
  bif decide (x57 < x56) then
    Ix x57 x55.length ∧
      bif x54 then Rg IntKind.i64 (x57 + 1) ∧ K5 (x50, x51, x52, x53, true, x55, x56, x57 + 1, x58, x59, x510, x511, x512, x513, x514, x515, x516, x517, x518, x519, x520, x521, ())
      else
        bif decide ((nth x55 x57 (0, [])).fst = x51) then
          Rg IntKind.i64 (64 * x53) ∧
            Rg IntKind.i64 (64 * x53) ∧
              Rg IntKind.i64 (64 * x53 + 64) ∧
                Sb (64 * x53) (64 * x53 + 64) x52.length ∧
                  Rg IntKind.i64 (64 * x53) ∧
                    Rg IntKind.i64 (64 * x53) ∧
                      Rg IntKind.i64 (64 * x53 + 64) ∧
                        Sb (64 * x53) (64 * x53 + 64) (List.length (nth x55 x57 (0, [])).snd) ∧
                          Rg IntKind.i64 (x57 + 1) ∧
                            K5
                              (x50, x51, x52, x53, decide (sub x52 (64 * x53) (64 * x53 + 64) = sub (nth x55 x57 (0, [])).snd (64 * x53) (64 * x53 + 64)), x55, x56, x57 + 1, x58, x59, x510,
                                x511, x512, x513, x514, x515, x516, x517, x518, x519, x520, x521, ())
        else Rg IntKind.i64 (x57 + 1) ∧ K5 (x50, x51, x52, x53, false, x55, x56, x57 + 1, x58, x59, x510, x511, x512, x513, x514, x515, x516, x517, x518, x519, x520, x521, ())
  else bif !x54 then R false else Rg IntKind.i64 (x53 + 1) ∧ K4 (x50, x51, x52, x53 + 1, x58, x59, x510, x511, x512, x513, x514, x515, x516, x517, x518, x519, x520, x521, ())
def rectolaw27_DiskSectors.L4 (R : Bool →
  Prop) (K3 : List (Int × List UInt8) ×
    Int ×
      Bool ×
        Bool × Int × Bool × List Int × List (List (List UInt8)) × List (Int × List (List UInt8)) × Bool × Bool × Int × Bool × List Int × List (List UInt8) × List (Int × List UInt8) × Unit →
  Prop) (t12 : List
  (Int ×
    List
      UInt8)) (t13 : Int) (t14 : List
  UInt8) (t15 : Int) (t16 : Bool) (t146 : Bool) (t147 : Int) (t148 : Bool) (a_down : List
  Int) (a_armed : List
  (List
    (List
      UInt8))) (a_after : List
  (Int ×
    List
      (List
        UInt8))) (a_acut : Bool) (a_keep : Bool) (a_bs : Int) (a_ws : Bool) (t7_rdown : List
  Int) (t7_rarmed : List
  (List
    UInt8)) (t7_rafter : List
  (Int ×
    List
      UInt8)) (K4 : List (Int × List UInt8) ×
    Int ×
      List UInt8 ×
        Int ×
          Bool ×
            Bool ×
              Int × Bool × List Int × List (List (List UInt8)) × List (Int × List (List UInt8)) × Bool × Bool × Int × Bool × List Int × List (List UInt8) × List (Int × List UInt8) × Unit →
  Prop) : Prop :=
  bif decide (t15 < 4) then
    Rg IntKind.i64 (64 * t15) ∧
      Rg IntKind.i64 (64 * t15) ∧
        Rg IntKind.i64 (64 * t15 + 64) ∧
          Sb (64 * t15) (64 * t15 + 64) t14.length ∧
            Ix t13 t7_rarmed.length ∧
              Rg IntKind.i64 (64 * t15) ∧
                Rg IntKind.i64 (64 * t15) ∧
                  Rg IntKind.i64 (64 * t15 + 64) ∧
                    Sb (64 * t15) (64 * t15 + 64) (List.length (nth t7_rarmed t13 [])) ∧
                      Lp
                        (fun v K =>
                          rectolaw27_DiskSectors.L5 R K4 v.fst v.snd.fst v.snd.snd.fst v.snd.snd.snd.fst v.snd.snd.snd.snd.fst v.snd.snd.snd.snd.snd.fst v.snd.snd.snd.snd.snd.snd.fst
                            v.snd.snd.snd.snd.snd.snd.snd.fst v.snd.snd.snd.snd.snd.snd.snd.snd.fst v.snd.snd.snd.snd.snd.snd.snd.snd.snd.fst v.snd.snd.snd.snd.snd.snd.snd.snd.snd.snd.fst
                            v.snd.snd.snd.snd.snd.snd.snd.snd.snd.snd.snd.fst v.snd.snd.snd.snd.snd.snd.snd.snd.snd.snd.snd.snd.fst v.snd.snd.snd.snd.snd.snd.snd.snd.snd.snd.snd.snd.snd.fst
                            v.snd.snd.snd.snd.snd.snd.snd.snd.snd.snd.snd.snd.snd.snd.fst v.snd.snd.snd.snd.snd.snd.snd.snd.snd.snd.snd.snd.snd.snd.snd.fst
                            v.snd.snd.snd.snd.snd.snd.snd.snd.snd.snd.snd.snd.snd.snd.snd.snd.fst v.snd.snd.snd.snd.snd.snd.snd.snd.snd.snd.snd.snd.snd.snd.snd.snd.snd.fst
                            v.snd.snd.snd.snd.snd.snd.snd.snd.snd.snd.snd.snd.snd.snd.snd.snd.snd.snd.fst v.snd.snd.snd.snd.snd.snd.snd.snd.snd.snd.snd.snd.snd.snd.snd.snd.snd.snd.snd.fst
                            v.snd.snd.snd.snd.snd.snd.snd.snd.snd.snd.snd.snd.snd.snd.snd.snd.snd.snd.snd.snd.fst
                            v.snd.snd.snd.snd.snd.snd.snd.snd.snd.snd.snd.snd.snd.snd.snd.snd.snd.snd.snd.snd.snd.fst K)
                        (t12, t13, t14, t15, decide (sub t14 (64 * t15) (64 * t15 + 64) = sub (nth t7_rarmed t13 []) (64 * t15) (64 * t15 + 64)), t12, (↑t12.length : Int), 0, t16, t146,
                          t147, t148, a_down, a_armed, a_after, a_acut, a_keep, a_bs, a_ws, t7_rdown, t7_rarmed, t7_rafter, ())
  else Rg IntKind.i64 (t13 + 1) ∧ K3 (t12, t13 + 1, t16, t146, t147, t148, a_down, a_armed, a_after, a_acut, a_keep, a_bs, a_ws, t7_rdown, t7_rarmed, t7_rafter, ())
def rectolaw27_DiskSectors.L3 (R : Bool →
  Prop) (t12 : List
  (Int ×
    List
      UInt8)) (t13 : Int) (t14 : Bool) (t15 : Bool) (a_down : Int) (a_armed : Bool) (a_after : List
  Int) (a_acut : List
  (List
    (List
      UInt8))) (a_keep : List
  (Int ×
    List
      (List
        UInt8))) (a_bs : Bool) (a_ws : Bool) (t7_rdown : Int) (t7_rarmed : Bool) (t7_rafter : List
  Int) (t7_racut : List
  (List
    UInt8)) (t7_rkeep : List
  (Int ×
    List
      UInt8)) (K3 : List (Int × List UInt8) ×
    Int ×
      Bool ×
        Bool × Int × Bool × List Int × List (List (List UInt8)) × List (Int × List (List UInt8)) × Bool × Bool × Int × Bool × List Int × List (List UInt8) × List (Int × List UInt8) × Unit →
  Prop) : Prop :=
  bif decide (t13 < 8) then
    Sp.dPre (t14, t15, a_down, a_armed, a_after, a_acut, a_keep) ∧
      bif !decide ((↑(List.length (Sp.dLasts t13 (t14, t15, a_down, a_armed, a_after, a_acut, a_keep))) : Int) = 256) then R false
      else
        Lp
          (fun v K =>
            rectolaw27_DiskSectors.L4 R K3 v.fst v.snd.fst v.snd.snd.fst v.snd.snd.snd.fst v.snd.snd.snd.snd.fst v.snd.snd.snd.snd.snd.fst v.snd.snd.snd.snd.snd.snd.fst
              v.snd.snd.snd.snd.snd.snd.snd.fst v.snd.snd.snd.snd.snd.snd.snd.snd.fst v.snd.snd.snd.snd.snd.snd.snd.snd.snd.fst v.snd.snd.snd.snd.snd.snd.snd.snd.snd.snd.fst
              v.snd.snd.snd.snd.snd.snd.snd.snd.snd.snd.snd.fst v.snd.snd.snd.snd.snd.snd.snd.snd.snd.snd.snd.snd.fst v.snd.snd.snd.snd.snd.snd.snd.snd.snd.snd.snd.snd.snd.fst
              v.snd.snd.snd.snd.snd.snd.snd.snd.snd.snd.snd.snd.snd.snd.fst v.snd.snd.snd.snd.snd.snd.snd.snd.snd.snd.snd.snd.snd.snd.snd.fst
              v.snd.snd.snd.snd.snd.snd.snd.snd.snd.snd.snd.snd.snd.snd.snd.snd.fst v.snd.snd.snd.snd.snd.snd.snd.snd.snd.snd.snd.snd.snd.snd.snd.snd.snd.fst K)
          (t12, t13, Sp.dLasts t13 (t14, t15, a_down, a_armed, a_after, a_acut, a_keep), 0, t14, t15, a_down, a_armed, a_after, a_acut, a_keep, a_bs, a_ws, t7_rdown, t7_rarmed, t7_rafter,
            t7_racut, t7_rkeep, ())
  else R Sp.tt
def rectolaw27_DiskSectors.L0 (R : Bool →
  Prop) (o : List
  Int) (t49 : List
  (Int ×
    Int ×
      Int ×
        Bool ×
          List
            Int)) (t50 : Int) (t51 : Int) (a_down : Bool) (a_armed : Bool) (a_after : Int) (a_acut : Bool) (a_keep : List
  Int) (a_bs : List
  (List
    (List
      UInt8))) (a_ws : List
  (Int ×
    List
      (List
        UInt8))) (t7_rdown : Bool) (t7_rarmed : Bool) (t7_rafter : Int) (t7_racut : Bool) (t7_rkeep : List
  Int) (t7_rbs : List
  (List
    UInt8)) (t7_rws : List
  (Int ×
    List
      UInt8)) (t8_rdown : Bool) (t8_rarmed : Bool) (t8_rafter : Int) (t8_racut : Bool) (t8_rkeep : List
  Int) (t8_rbs : List
  (List
    UInt8)) (t8_rws : List
  (Int ×
    List
      UInt8)) (K0 : List Int ×
    List (Int × Int × Int × Bool × List Int) ×
      Int ×
        Int ×
          Bool ×
            Bool ×
              Int ×
                Bool ×
                  List Int ×
                    List (List (List UInt8)) ×
                      List (Int × List (List UInt8)) ×
                        Bool ×
                          Bool ×
                            Int × Bool × List Int × List (List UInt8) × List (Int × List UInt8) × Bool × Bool × Int × Bool × List Int × List (List UInt8) × List (Int × List UInt8) × Unit →
  Prop) : Prop :=
  bif decide (t51 < t50) then
    Ix t51 t49.length ∧
      bif decide ((nth t49 t51 (0, 0, 0, false, [])).fst < 3) then
        Sp.fillB.pre (nth t49 t51 (0, 0, 0, false, [])).snd.snd.fst ∧
          Sp.dWrite.pre (nth t49 t51 (0, 0, 0, false, [])).snd.fst (Sp.fillB (nth t49 t51 (0, 0, 0, false, [])).snd.snd.fst) (a_down, a_armed, a_after, a_acut, a_keep, a_bs, a_ws) ∧
            Sp.fillB.pre (nth t49 t51 (0, 0, 0, false, [])).snd.snd.fst ∧
              Sp.rWrite.pre (nth t49 t51 (0, 0, 0, false, [])).snd.fst (Sp.fillB (nth t49 t51 (0, 0, 0, false, [])).snd.snd.fst)
                  (t8_rdown, t8_rarmed, t8_rafter, t8_racut, t8_rkeep, t8_rbs, t8_rws) ∧
                bif decide ((nth t49 t51 (0, 0, 0, false, [])).fst = 3) then
                  Sp.dPre
                      (Sp.dWrite (nth t49 t51 (0, 0, 0, false, [])).snd.fst (Sp.fillB (nth t49 t51 (0, 0, 0, false, [])).snd.snd.fst)
                          (a_down, a_armed, a_after, a_acut, a_keep, a_bs, a_ws)).fst ∧
                    Sp.rPre
                        (Sp.rWrite (nth t49 t51 (0, 0, 0, false, [])).snd.fst (Sp.fillB (nth t49 t51 (0, 0, 0, false, [])).snd.snd.fst)
                            (t8_rdown, t8_rarmed, t8_rafter, t8_racut, t8_rkeep, t8_rbs, t8_rws)).fst ∧
                      Sp.rNew.pre 8 ∧
                        Lp
                          (fun v K =>
                            rectolaw27_DiskSectors.L1 K0 v.fst v.snd.fst v.snd.snd.fst v.snd.snd.snd.fst v.snd.snd.snd.snd.fst v.snd.snd.snd.snd.snd.fst v.snd.snd.snd.snd.snd.snd.fst
                              v.snd.snd.snd.snd.snd.snd.snd.fst v.snd.snd.snd.snd.snd.snd.snd.snd.fst v.snd.snd.snd.snd.snd.snd.snd.snd.snd.fst v.snd.snd.snd.snd.snd.snd.snd.snd.snd.snd.fst
                              v.snd.snd.snd.snd.snd.snd.snd.snd.snd.snd.snd.fst v.snd.snd.snd.snd.snd.snd.snd.snd.snd.snd.snd.snd.fst
                              v.snd.snd.snd.snd.snd.snd.snd.snd.snd.snd.snd.snd.snd.fst v.snd.snd.snd.snd.snd.snd.snd.snd.snd.snd.snd.snd.snd.snd.fst
                              v.snd.snd.snd.snd.snd.snd.snd.snd.snd.snd.snd.snd.snd.snd.snd.fst v.snd.snd.snd.snd.snd.snd.snd.snd.snd.snd.snd.snd.snd.snd.snd.snd.fst
                              v.snd.snd.snd.snd.snd.snd.snd.snd.snd.snd.snd.snd.snd.snd.snd.snd.snd.fst v.snd.snd.snd.snd.snd.snd.snd.snd.snd.snd.snd.snd.snd.snd.snd.snd.snd.snd.fst
                              v.snd.snd.snd.snd.snd.snd.snd.snd.snd.snd.snd.snd.snd.snd.snd.snd.snd.snd.snd.fst
                              v.snd.snd.snd.snd.snd.snd.snd.snd.snd.snd.snd.snd.snd.snd.snd.snd.snd.snd.snd.snd.fst
                              v.snd.snd.snd.snd.snd.snd.snd.snd.snd.snd.snd.snd.snd.snd.snd.snd.snd.snd.snd.snd.snd.fst
                              v.snd.snd.snd.snd.snd.snd.snd.snd.snd.snd.snd.snd.snd.snd.snd.snd.snd.snd.snd.snd.snd.snd.fst
                              v.snd.snd.snd.snd.snd.snd.snd.snd.snd.snd.snd.snd.snd.snd.snd.snd.snd.snd.snd.snd.snd.snd.snd.fst
                              v.snd.snd.snd.snd.snd.snd.snd.snd.snd.snd.snd.snd.snd.snd.snd.snd.snd.snd.snd.snd.snd.snd.snd.snd.fst
                              v.snd.snd.snd.snd.snd.snd.snd.snd.snd.snd.snd.snd.snd.snd.snd.snd.snd.snd.snd.snd.snd.snd.snd.snd.snd.fst
                              v.snd.snd.snd.snd.snd.snd.snd.snd.snd.snd.snd.snd.snd.snd.snd.snd.snd.snd.snd.snd.snd.snd.snd.snd.snd.snd.fst K)
                          (o, t49, t50, t51, (↑8 : Int), 0,
                            (Sp.dFlush
                                  (Sp.dWrite (nth t49 t51 (0, 0, 0, false, [])).snd.fst (Sp.fillB (nth t49 t51 (0, 0, 0, false, [])).snd.snd.fst)
                                      (a_down, a_armed, a_after, a_acut, a_keep, a_bs, a_ws)).fst).fst.fst,
                            (Sp.dFlush
                                    (Sp.dWrite (nth t49 t51 (0, 0, 0, false, [])).snd.fst (Sp.fillB (nth t49 t51 (0, 0, 0, false, [])).snd.snd.fst)
                                        (a_down, a_armed, a_after, a_acut, a_keep, a_bs, a_ws)).fst).fst.snd.fst,
                            (Sp.dFlush
                                      (Sp.dWrite (nth t49 t51 (0, 0, 0, false, [])).snd.fst (Sp.fillB (nth t49 t51 (0, 0, 0, false, [])).snd.snd.fst)
                                          (a_down, a_armed, a_after, a_acut, a_keep, a_bs, a_ws)).fst).fst.snd.snd.fst,
                            (Sp.dFlush
                                        (Sp.dWrite (nth t49 t51 (0, 0, 0, false, [])).snd.fst (Sp.fillB (nth t49 t51 (0, 0, 0, false, [])).snd.snd.fst)
                                            (a_down, a_armed, a_after, a_acut, a_keep, a_bs, a_ws)).fst).fst.snd.snd.snd.fst,
                            (Sp.dFlush
                                          (Sp.dWrite (nth t49 t51 (0, 0, 0, false, [])).snd.fst (Sp.fillB (nth t49 t51 (0, 0, 0, false, [])).snd.snd.fst)
                                              (a_down, a_armed, a_after, a_acut, a_keep, a_bs, a_ws)).fst).fst.snd.snd.snd.snd.fst,
                            (Sp.dFlush
                                            (Sp.dWrite (nth t49 t51 (0, 0, 0, false, [])).snd.fst (Sp.fillB (nth t49 t51 (0, 0, 0, false, [])).snd.snd.fst)
                                                (a_down, a_armed, a_after, a_acut, a_keep, a_bs, a_ws)).fst).fst.snd.snd.snd.snd.snd.fst,
                            (Sp.dFlush
                                            (Sp.dWrite (nth t49 t51 (0, 0, 0, false, [])).snd.fst (Sp.fillB (nth t49 t51 (0, 0, 0, false, [])).snd.snd.fst)
                                                (a_down, a_armed, a_after, a_acut, a_keep, a_bs, a_ws)).fst).fst.snd.snd.snd.snd.snd.snd,
                            false, false, (Sp.rNew 8).snd.snd.fst, false, (Sp.rNew 8).snd.snd.snd.snd.fst, (Sp.rNew 8).snd.snd.snd.snd.snd.fst, (Sp.rNew 8).snd.snd.snd.snd.snd.snd,
                            (Sp.rFlush
                                  (Sp.rWrite (nth t49 t51 (0, 0, 0, false, [])).snd.fst (Sp.fillB (nth t49 t51 (0, 0, 0, false, [])).snd.snd.fst)
                                      (t8_rdown, t8_rarmed, t8_rafter, t8_racut, t8_rkeep, t8_rbs, t8_rws)).fst).fst.fst,
                            (Sp.rFlush
                                    (Sp.rWrite (nth t49 t51 (0, 0, 0, false, [])).snd.fst (Sp.fillB (nth t49 t51 (0, 0, 0, false, [])).snd.snd.fst)
                                        (t8_rdown, t8_rarmed, t8_rafter, t8_racut, t8_rkeep, t8_rbs, t8_rws)).fst).fst.snd.fst,
                            (Sp.rFlush
                                      (Sp.rWrite (nth t49 t51 (0, 0, 0, false, [])).snd.fst (Sp.fillB (nth t49 t51 (0, 0, 0, false, [])).snd.snd.fst)
                                          (t8_rdown, t8_rarmed, t8_rafter, t8_racut, t8_rkeep, t8_rbs, t8_rws)).fst).fst.snd.snd.fst,
                            (Sp.rFlush
                                        (Sp.rWrite (nth t49 t51 (0, 0, 0, false, [])).snd.fst (Sp.fillB (nth t49 t51 (0, 0, 0, false, [])).snd.snd.fst)
                                            (t8_rdown, t8_rarmed, t8_rafter, t8_racut, t8_rkeep, t8_rbs, t8_rws)).fst).fst.snd.snd.snd.fst,
                            (Sp.rFlush
                                          (Sp.rWrite (nth t49 t51 (0, 0, 0, false, [])).snd.fst (Sp.fillB (nth t49 t51 (0, 0, 0, false, [])).snd.snd.fst)
                                              (t8_rdown, t8_rarmed, t8_rafter, t8_racut, t8_rkeep, t8_rbs, t8_rws)).fst).fst.snd.snd.snd.snd.fst,
                            (Sp.rFlush
                                            (Sp.rWrite (nth t49 t51 (0, 0, 0, false, [])).snd.fst (Sp.fillB (nth t49 t51 (0, 0, 0, false, [])).snd.snd.fst)
                                                (t8_rdown, t8_rarmed, t8_rafter, t8_racut, t8_rkeep, t8_rbs, t8_rws)).fst).fst.snd.snd.snd.snd.snd.fst,
                            (Sp.rFlush
                                            (Sp.rWrite (nth t49 t51 (0, 0, 0, false, [])).snd.fst (Sp.fillB (nth t49 t51 (0, 0, 0, false, [])).snd.snd.fst)
                                                (t8_rdown, t8_rarmed, t8_rafter, t8_racut, t8_rkeep, t8_rbs, t8_rws)).fst).fst.snd.snd.snd.snd.snd.snd,
                            ())
                else
                  Rg IntKind.i64 (t51 + 1) ∧
                    K0
                      (o, t49, t50, t51 + 1,
                        (Sp.dWrite (nth t49 t51 (0, 0, 0, false, [])).snd.fst (Sp.fillB (nth t49 t51 (0, 0, 0, false, [])).snd.snd.fst)
                              (a_down, a_armed, a_after, a_acut, a_keep, a_bs, a_ws)).fst.fst,
                        (Sp.dWrite (nth t49 t51 (0, 0, 0, false, [])).snd.fst (Sp.fillB (nth t49 t51 (0, 0, 0, false, [])).snd.snd.fst)
                                (a_down, a_armed, a_after, a_acut, a_keep, a_bs, a_ws)).fst.snd.fst,
                        (Sp.dWrite (nth t49 t51 (0, 0, 0, false, [])).snd.fst (Sp.fillB (nth t49 t51 (0, 0, 0, false, [])).snd.snd.fst)
                                  (a_down, a_armed, a_after, a_acut, a_keep, a_bs, a_ws)).fst.snd.snd.fst,
                        (Sp.dWrite (nth t49 t51 (0, 0, 0, false, [])).snd.fst (Sp.fillB (nth t49 t51 (0, 0, 0, false, [])).snd.snd.fst)
                                    (a_down, a_armed, a_after, a_acut, a_keep, a_bs, a_ws)).fst.snd.snd.snd.fst,
                        (Sp.dWrite (nth t49 t51 (0, 0, 0, false, [])).snd.fst (Sp.fillB (nth t49 t51 (0, 0, 0, false, [])).snd.snd.fst)
                                      (a_down, a_armed, a_after, a_acut, a_keep, a_bs, a_ws)).fst.snd.snd.snd.snd.fst,
                        (Sp.dWrite (nth t49 t51 (0, 0, 0, false, [])).snd.fst (Sp.fillB (nth t49 t51 (0, 0, 0, false, [])).snd.snd.fst)
                                        (a_down, a_armed, a_after, a_acut, a_keep, a_bs, a_ws)).fst.snd.snd.snd.snd.snd.fst,
                        (Sp.dWrite (nth t49 t51 (0, 0, 0, false, [])).snd.fst (Sp.fillB (nth t49 t51 (0, 0, 0, false, [])).snd.snd.fst)
                                        (a_down, a_armed, a_after, a_acut, a_keep, a_bs, a_ws)).fst.snd.snd.snd.snd.snd.snd,
                        t7_rdown, t7_rarmed, t7_rafter, t7_racut, t7_rkeep, t7_rbs, t7_rws,
                        (Sp.rWrite (nth t49 t51 (0, 0, 0, false, [])).snd.fst (Sp.fillB (nth t49 t51 (0, 0, 0, false, [])).snd.snd.fst)
                              (t8_rdown, t8_rarmed, t8_rafter, t8_racut, t8_rkeep, t8_rbs, t8_rws)).fst.fst,
                        (Sp.rWrite (nth t49 t51 (0, 0, 0, false, [])).snd.fst (Sp.fillB (nth t49 t51 (0, 0, 0, false, [])).snd.snd.fst)
                                (t8_rdown, t8_rarmed, t8_rafter, t8_racut, t8_rkeep, t8_rbs, t8_rws)).fst.snd.fst,
                        (Sp.rWrite (nth t49 t51 (0, 0, 0, false, [])).snd.fst (Sp.fillB (nth t49 t51 (0, 0, 0, false, [])).snd.snd.fst)
                                  (t8_rdown, t8_rarmed, t8_rafter, t8_racut, t8_rkeep, t8_rbs, t8_rws)).fst.snd.snd.fst,
                        (Sp.rWrite (nth t49 t51 (0, 0, 0, false, [])).snd.fst (Sp.fillB (nth t49 t51 (0, 0, 0, false, [])).snd.snd.fst)
                                    (t8_rdown, t8_rarmed, t8_rafter, t8_racut, t8_rkeep, t8_rbs, t8_rws)).fst.snd.snd.snd.fst,
                        (Sp.rWrite (nth t49 t51 (0, 0, 0, false, [])).snd.fst (Sp.fillB (nth t49 t51 (0, 0, 0, false, [])).snd.snd.fst)
                                      (t8_rdown, t8_rarmed, t8_rafter, t8_racut, t8_rkeep, t8_rbs, t8_rws)).fst.snd.snd.snd.snd.fst,
                        (Sp.rWrite (nth t49 t51 (0, 0, 0, false, [])).snd.fst (Sp.fillB (nth t49 t51 (0, 0, 0, false, [])).snd.snd.fst)
                                        (t8_rdown, t8_rarmed, t8_rafter, t8_racut, t8_rkeep, t8_rbs, t8_rws)).fst.snd.snd.snd.snd.snd.fst,
                        (Sp.rWrite (nth t49 t51 (0, 0, 0, false, [])).snd.fst (Sp.fillB (nth t49 t51 (0, 0, 0, false, [])).snd.snd.fst)
                                        (t8_rdown, t8_rarmed, t8_rafter, t8_racut, t8_rkeep, t8_rbs, t8_rws)).fst.snd.snd.snd.snd.snd.snd,
                        ())
      else
        bif decide ((nth t49 t51 (0, 0, 0, false, [])).fst = 3) then
          Sp.dPre (a_down, a_armed, a_after, a_acut, a_keep, a_bs, a_ws) ∧
            Sp.rPre (t8_rdown, t8_rarmed, t8_rafter, t8_racut, t8_rkeep, t8_rbs, t8_rws) ∧
              Sp.rNew.pre 8 ∧
                Lp
                  (fun v K =>
                    rectolaw27_DiskSectors.L2 K0 v.fst v.snd.fst v.snd.snd.fst v.snd.snd.snd.fst v.snd.snd.snd.snd.fst v.snd.snd.snd.snd.snd.fst v.snd.snd.snd.snd.snd.snd.fst
                      v.snd.snd.snd.snd.snd.snd.snd.fst v.snd.snd.snd.snd.snd.snd.snd.snd.fst v.snd.snd.snd.snd.snd.snd.snd.snd.snd.fst v.snd.snd.snd.snd.snd.snd.snd.snd.snd.snd.fst
                      v.snd.snd.snd.snd.snd.snd.snd.snd.snd.snd.snd.fst v.snd.snd.snd.snd.snd.snd.snd.snd.snd.snd.snd.snd.fst v.snd.snd.snd.snd.snd.snd.snd.snd.snd.snd.snd.snd.snd.fst
                      v.snd.snd.snd.snd.snd.snd.snd.snd.snd.snd.snd.snd.snd.snd.fst v.snd.snd.snd.snd.snd.snd.snd.snd.snd.snd.snd.snd.snd.snd.snd.fst
                      v.snd.snd.snd.snd.snd.snd.snd.snd.snd.snd.snd.snd.snd.snd.snd.snd.fst v.snd.snd.snd.snd.snd.snd.snd.snd.snd.snd.snd.snd.snd.snd.snd.snd.snd.fst
                      v.snd.snd.snd.snd.snd.snd.snd.snd.snd.snd.snd.snd.snd.snd.snd.snd.snd.snd.fst v.snd.snd.snd.snd.snd.snd.snd.snd.snd.snd.snd.snd.snd.snd.snd.snd.snd.snd.snd.fst
                      v.snd.snd.snd.snd.snd.snd.snd.snd.snd.snd.snd.snd.snd.snd.snd.snd.snd.snd.snd.snd.fst
                      v.snd.snd.snd.snd.snd.snd.snd.snd.snd.snd.snd.snd.snd.snd.snd.snd.snd.snd.snd.snd.snd.fst
                      v.snd.snd.snd.snd.snd.snd.snd.snd.snd.snd.snd.snd.snd.snd.snd.snd.snd.snd.snd.snd.snd.snd.fst
                      v.snd.snd.snd.snd.snd.snd.snd.snd.snd.snd.snd.snd.snd.snd.snd.snd.snd.snd.snd.snd.snd.snd.snd.fst
                      v.snd.snd.snd.snd.snd.snd.snd.snd.snd.snd.snd.snd.snd.snd.snd.snd.snd.snd.snd.snd.snd.snd.snd.snd.fst
                      v.snd.snd.snd.snd.snd.snd.snd.snd.snd.snd.snd.snd.snd.snd.snd.snd.snd.snd.snd.snd.snd.snd.snd.snd.snd.fst
                      v.snd.snd.snd.snd.snd.snd.snd.snd.snd.snd.snd.snd.snd.snd.snd.snd.snd.snd.snd.snd.snd.snd.snd.snd.snd.snd.fst K)
                  (o, t49, t50, t51, (↑8 : Int), 0, (Sp.dFlush (a_down, a_armed, a_after, a_acut, a_keep, a_bs, a_ws)).fst.fst,
                    (Sp.dFlush (a_down, a_armed, a_after, a_acut, a_keep, a_bs, a_ws)).fst.snd.fst, (Sp.dFlush (a_down, a_armed, a_after, a_acut, a_keep, a_bs, a_ws)).fst.snd.snd.fst,
                    (Sp.dFlush (a_down, a_armed, a_after, a_acut, a_keep, a_bs, a_ws)).fst.snd.snd.snd.fst,
                    (Sp.dFlush (a_down, a_armed, a_after, a_acut, a_keep, a_bs, a_ws)).fst.snd.snd.snd.snd.fst,
                    (Sp.dFlush (a_down, a_armed, a_after, a_acut, a_keep, a_bs, a_ws)).fst.snd.snd.snd.snd.snd.fst,
                    (Sp.dFlush (a_down, a_armed, a_after, a_acut, a_keep, a_bs, a_ws)).fst.snd.snd.snd.snd.snd.snd, false, false, (Sp.rNew 8).snd.snd.fst, false,
                    (Sp.rNew 8).snd.snd.snd.snd.fst, (Sp.rNew 8).snd.snd.snd.snd.snd.fst, (Sp.rNew 8).snd.snd.snd.snd.snd.snd,
                    (Sp.rFlush (t8_rdown, t8_rarmed, t8_rafter, t8_racut, t8_rkeep, t8_rbs, t8_rws)).fst.fst,
                    (Sp.rFlush (t8_rdown, t8_rarmed, t8_rafter, t8_racut, t8_rkeep, t8_rbs, t8_rws)).fst.snd.fst,
                    (Sp.rFlush (t8_rdown, t8_rarmed, t8_rafter, t8_racut, t8_rkeep, t8_rbs, t8_rws)).fst.snd.snd.fst,
                    (Sp.rFlush (t8_rdown, t8_rarmed, t8_rafter, t8_racut, t8_rkeep, t8_rbs, t8_rws)).fst.snd.snd.snd.fst,
                    (Sp.rFlush (t8_rdown, t8_rarmed, t8_rafter, t8_racut, t8_rkeep, t8_rbs, t8_rws)).fst.snd.snd.snd.snd.fst,
                    (Sp.rFlush (t8_rdown, t8_rarmed, t8_rafter, t8_racut, t8_rkeep, t8_rbs, t8_rws)).fst.snd.snd.snd.snd.snd.fst,
                    (Sp.rFlush (t8_rdown, t8_rarmed, t8_rafter, t8_racut, t8_rkeep, t8_rbs, t8_rws)).fst.snd.snd.snd.snd.snd.snd, ())
        else
          Rg IntKind.i64 (t51 + 1) ∧
            K0
              (o, t49, t50, t51 + 1, a_down, a_armed, a_after, a_acut, a_keep, a_bs, a_ws, t7_rdown, t7_rarmed, t7_rafter, t7_racut, t7_rkeep, t7_rbs, t7_rws, t8_rdown, t8_rarmed, t8_rafter,
                t8_racut, t8_rkeep, t8_rbs, t8_rws, ())
  else
    Sp.dFall.pre o (a_down, a_armed, a_after, a_acut, a_keep, a_bs, a_ws) ∧
      bif !decide ((Sp.dCrash o (a_down, a_armed, a_after, a_acut, a_keep, a_bs, a_ws)).snd = 0) then R false
      else
        Lp
          (fun v K =>
            rectolaw27_DiskSectors.L3 R v.fst v.snd.fst v.snd.snd.fst v.snd.snd.snd.fst v.snd.snd.snd.snd.fst v.snd.snd.snd.snd.snd.fst v.snd.snd.snd.snd.snd.snd.fst
              v.snd.snd.snd.snd.snd.snd.snd.fst v.snd.snd.snd.snd.snd.snd.snd.snd.fst v.snd.snd.snd.snd.snd.snd.snd.snd.snd.fst v.snd.snd.snd.snd.snd.snd.snd.snd.snd.snd.fst
              v.snd.snd.snd.snd.snd.snd.snd.snd.snd.snd.snd.fst v.snd.snd.snd.snd.snd.snd.snd.snd.snd.snd.snd.snd.fst v.snd.snd.snd.snd.snd.snd.snd.snd.snd.snd.snd.snd.snd.fst
              v.snd.snd.snd.snd.snd.snd.snd.snd.snd.snd.snd.snd.snd.snd.fst v.snd.snd.snd.snd.snd.snd.snd.snd.snd.snd.snd.snd.snd.snd.snd.fst K)
          (t8_rws, 0, (Sp.dCrash o (a_down, a_armed, a_after, a_acut, a_keep, a_bs, a_ws)).fst.fst, (Sp.dCrash o (a_down, a_armed, a_after, a_acut, a_keep, a_bs, a_ws)).fst.snd.fst,
            (Sp.dCrash o (a_down, a_armed, a_after, a_acut, a_keep, a_bs, a_ws)).fst.snd.snd.fst, (Sp.dCrash o (a_down, a_armed, a_after, a_acut, a_keep, a_bs, a_ws)).fst.snd.snd.snd.fst,
            (Sp.dCrash o (a_down, a_armed, a_after, a_acut, a_keep, a_bs, a_ws)).fst.snd.snd.snd.snd.fst,
            (Sp.dCrash o (a_down, a_armed, a_after, a_acut, a_keep, a_bs, a_ws)).fst.snd.snd.snd.snd.snd.fst,
            (Sp.dCrash o (a_down, a_armed, a_after, a_acut, a_keep, a_bs, a_ws)).fst.snd.snd.snd.snd.snd.snd, t7_rdown, t7_rarmed, t7_rafter, t7_racut, t7_rkeep, t7_rbs, t7_rws, ())
def rectolaw27_DiskSectors.vc (R : Bool → Prop) (t : List (Int × Int × Int × Bool × List Int)) (o : List Int) : Prop :=
  Sp.longS.pre t ∧
    bif Sp.longS t then R Sp.tt
    else
      bif decide (60 < (↑o.length : Int)) then R Sp.tt
      else
        Sp.rNew.pre 8 ∧
          Sp.rNew.pre 8 ∧
            Lp
              (fun v K =>
                rectolaw27_DiskSectors.L0 R v.fst v.snd.fst v.snd.snd.fst v.snd.snd.snd.fst v.snd.snd.snd.snd.fst v.snd.snd.snd.snd.snd.fst v.snd.snd.snd.snd.snd.snd.fst
                  v.snd.snd.snd.snd.snd.snd.snd.fst v.snd.snd.snd.snd.snd.snd.snd.snd.fst v.snd.snd.snd.snd.snd.snd.snd.snd.snd.fst v.snd.snd.snd.snd.snd.snd.snd.snd.snd.snd.fst
                  v.snd.snd.snd.snd.snd.snd.snd.snd.snd.snd.snd.fst v.snd.snd.snd.snd.snd.snd.snd.snd.snd.snd.snd.snd.fst v.snd.snd.snd.snd.snd.snd.snd.snd.snd.snd.snd.snd.snd.fst
                  v.snd.snd.snd.snd.snd.snd.snd.snd.snd.snd.snd.snd.snd.snd.fst v.snd.snd.snd.snd.snd.snd.snd.snd.snd.snd.snd.snd.snd.snd.snd.fst
                  v.snd.snd.snd.snd.snd.snd.snd.snd.snd.snd.snd.snd.snd.snd.snd.snd.fst v.snd.snd.snd.snd.snd.snd.snd.snd.snd.snd.snd.snd.snd.snd.snd.snd.snd.fst
                  v.snd.snd.snd.snd.snd.snd.snd.snd.snd.snd.snd.snd.snd.snd.snd.snd.snd.snd.fst v.snd.snd.snd.snd.snd.snd.snd.snd.snd.snd.snd.snd.snd.snd.snd.snd.snd.snd.snd.fst
                  v.snd.snd.snd.snd.snd.snd.snd.snd.snd.snd.snd.snd.snd.snd.snd.snd.snd.snd.snd.snd.fst
                  v.snd.snd.snd.snd.snd.snd.snd.snd.snd.snd.snd.snd.snd.snd.snd.snd.snd.snd.snd.snd.snd.fst
                  v.snd.snd.snd.snd.snd.snd.snd.snd.snd.snd.snd.snd.snd.snd.snd.snd.snd.snd.snd.snd.snd.snd.fst
                  v.snd.snd.snd.snd.snd.snd.snd.snd.snd.snd.snd.snd.snd.snd.snd.snd.snd.snd.snd.snd.snd.snd.snd.fst
                  v.snd.snd.snd.snd.snd.snd.snd.snd.snd.snd.snd.snd.snd.snd.snd.snd.snd.snd.snd.snd.snd.snd.snd.snd.fst K)
              (o, t, (↑t.length : Int), 0, false, false, (Sp.dNew 8).snd.snd.fst, false, (Sp.dNew 8).snd.snd.snd.snd.fst, (Sp.dNew 8).snd.snd.snd.snd.snd.fst,
                (Sp.dNew 8).snd.snd.snd.snd.snd.snd, false, false, (Sp.rNew 8).snd.snd.fst, false, (Sp.rNew 8).snd.snd.snd.snd.fst, (Sp.rNew 8).snd.snd.snd.snd.snd.fst,
                (Sp.rNew 8).snd.snd.snd.snd.snd.snd, false, false, (Sp.rNew 8).snd.snd.fst, false, (Sp.rNew 8).snd.snd.snd.snd.fst, (Sp.rNew 8).snd.snd.snd.snd.snd.fst,
                (Sp.rNew 8).snd.snd.snd.snd.snd.snd, ())

def rectolaw27_DiskArms.L1 (R : Bool →
  Prop) (t15 : Int) (t16 : Bool) (t17 : Int) (t7_down : Bool) (t7_armed : Bool) (t7_after : Int) (t7_acut : Bool) (t7_keep : List
  Int) (t7_bs : List
  (List
    (List
      UInt8))) (t7_ws : List
  (Int × List (List UInt8))) (K1 : Int × Bool × Int × Bool × Bool × Int × Bool × List Int × List (List (List UInt8)) × List (Int × List (List UInt8)) × Unit → Prop) : Prop :=
  bif decide (t17 < 8) then
    bif t16 then
      Sp.dPre (t7_down, t7_armed, t7_after, t7_acut, t7_keep, t7_bs, t7_ws) ∧
        Sp.fillB.pre 0 ∧
          bif !decide (Sp.dLasts t17 (t7_down, t7_armed, t7_after, t7_acut, t7_keep, t7_bs, t7_ws) = Sp.fillB 0) then R false
          else Rg IntKind.i64 (t17 + 1) ∧ K1 (t15, t16, t17 + 1, t7_down, t7_armed, t7_after, t7_acut, t7_keep, t7_bs, t7_ws, ())
    else Rg IntKind.i64 (t17 + 1) ∧ K1 (t15, t16, t17 + 1, t7_down, t7_armed, t7_after, t7_acut, t7_keep, t7_bs, t7_ws, ())
  else
    bif eqB (!decide (t15 = 0)) t16 then
      Sp.dPre (t7_down, t7_armed, t7_after, t7_acut, t7_keep, t7_bs, t7_ws) ∧
        bif decide ((↑(Sp.DSt.ws (t7_down, t7_armed, t7_after, t7_acut, t7_keep, t7_bs, t7_ws)).length : Int) = 0) then R Sp.tt else R false
    else R false
def rectolaw27_DiskArms.L2 (R : Bool →
  Prop) (x20 : Int) (x21 : Bool) (x22 : Int) (x23 : Bool) (x24 : Bool) (x25 : Int) (x26 : Bool) (x27 : List
  Int) (x28 : List
  (List
    (List
      UInt8))) (x29 : List
  (Int × List (List UInt8))) (K2 : Int × Bool × Int × Bool × Bool × Int × Bool × List Int × List (List (List UInt8)) × List (Int × List (List UInt8)) × Unit → Prop) : Prop :=
  bif decide (x22 < 8) then
    bif x21 then
      Sp.dPre (x23, x24, x25, x26, x27, x28, x29) ∧
        Sp.fillB.pre 0 ∧
          bif !decide (Sp.dLasts x22 (x23, x24, x25, x26, x27, x28, x29) = Sp.fillB 0) then R false
          else Rg IntKind.i64 (x22 + 1) ∧ K2 (x20, x21, x22 + 1, x23, x24, x25, x26, x27, x28, x29, ())
    else Rg IntKind.i64 (x22 + 1) ∧ K2 (x20, x21, x22 + 1, x23, x24, x25, x26, x27, x28, x29, ())
  else
    bif eqB (!decide (x20 = 0)) x21 then
      Sp.dPre (x23, x24, x25, x26, x27, x28, x29) ∧ bif decide ((↑(Sp.DSt.ws (x23, x24, x25, x26, x27, x28, x29)).length : Int) = 0) then R Sp.tt else R false
    else R false
def rectolaw27_DiskArms.L3 (R : Bool →
  Prop) (x30 : Int) (x31 : Bool) (x32 : Int) (x33 : Bool) (x34 : Bool) (x35 : Int) (x36 : Bool) (x37 : List
  Int) (x38 : List
  (List
    (List
      UInt8))) (x39 : List
  (Int × List (List UInt8))) (K3 : Int × Bool × Int × Bool × Bool × Int × Bool × List Int × List (List (List UInt8)) × List (Int × List (List UInt8)) × Unit → Prop) : Prop :=
  bif decide (x32 < 8) then
    bif x31 then
      Sp.dPre (x33, x34, x35, x36, x37, x38, x39) ∧
        Sp.fillB.pre 0 ∧
          bif !decide (Sp.dLasts x32 (x33, x34, x35, x36, x37, x38, x39) = Sp.fillB 0) then R false
          else Rg IntKind.i64 (x32 + 1) ∧ K3 (x30, x31, x32 + 1, x33, x34, x35, x36, x37, x38, x39, ())
    else Rg IntKind.i64 (x32 + 1) ∧ K3 (x30, x31, x32 + 1, x33, x34, x35, x36, x37, x38, x39, ())
  else
    bif eqB (!decide (x30 = 0)) x31 then
      Sp.dPre (x33, x34, x35, x36, x37, x38, x39) ∧ bif decide ((↑(Sp.DSt.ws (x33, x34, x35, x36, x37, x38, x39)).length : Int) = 0) then R Sp.tt else R false
    else R false
def rectolaw27_DiskArms.L4 (R : Bool →
  Prop) (x40 : Int) (x41 : Bool) (x42 : Int) (x43 : Bool) (x44 : Bool) (x45 : Int) (x46 : Bool) (x47 : List
  Int) (x48 : List
  (List
    (List
      UInt8))) (x49 : List
  (Int × List (List UInt8))) (K4 : Int × Bool × Int × Bool × Bool × Int × Bool × List Int × List (List (List UInt8)) × List (Int × List (List UInt8)) × Unit → Prop) : Prop :=
  bif decide (x42 < 8) then
    bif x41 then
      Sp.dPre (x43, x44, x45, x46, x47, x48, x49) ∧
        Sp.fillB.pre 0 ∧
          bif !decide (Sp.dLasts x42 (x43, x44, x45, x46, x47, x48, x49) = Sp.fillB 0) then R false
          else Rg IntKind.i64 (x42 + 1) ∧ K4 (x40, x41, x42 + 1, x43, x44, x45, x46, x47, x48, x49, ())
    else Rg IntKind.i64 (x42 + 1) ∧ K4 (x40, x41, x42 + 1, x43, x44, x45, x46, x47, x48, x49, ())
  else
    bif eqB (!decide (x40 = 0)) x41 then
      Sp.dPre (x43, x44, x45, x46, x47, x48, x49) ∧ bif decide ((↑(Sp.DSt.ws (x43, x44, x45, x46, x47, x48, x49)).length : Int) = 0) then R Sp.tt else R false
    else R false
def rectolaw27_DiskArms.L0 (R : Bool →
  Prop) (t : Int) (o : List
  Int) (A : Bool) (t9 : Int) (t10 : Bool) (t54 : List
  Int) (t55 : Int) (t56 : Int) (t7_down : Bool) (t7_armed : Bool) (t7_after : Int) (t7_acut : Bool) (t7_keep : List
  Int) (t7_bs : List
  (List
    (List
      UInt8))) (t7_ws : List
  (Int ×
    List
      (List
        UInt8))) (K0 : Int × List Int × Bool × Int × Bool × List Int × Int × Int × Bool × Bool × Int × Bool × List Int × List (List (List UInt8)) × List (Int × List (List UInt8)) × Unit →
  Prop) : Prop :=
  bif decide (t56 < t55) then
    Ix t56 t54.length ∧
      bif decide (nth t54 t56 0 < 0) then R Sp.tt
      else
        bif decide (7 < nth t54 t56 0) then R Sp.tt
        else
          Sp.fillB.pre 1 ∧
            Sp.dWrite.pre (nth t54 t56 0) (Sp.fillB 1) (t7_down, t7_armed, t7_after, t7_acut, t7_keep, t7_bs, t7_ws) ∧
              bif decide (t56 = t) then
                bif !A then
                  bif A then
                    bif decide (t ≤ t56) then
                      bif t10 then
                        bif !decide (t9 = 0) then R false
                        else
                          bif !decide ((Sp.dWrite (nth t54 t56 0) (Sp.fillB 1) (t7_down, t7_armed, t7_after, t7_acut, t7_keep, t7_bs, t7_ws)).snd = 271) then R false
                          else
                            Rg IntKind.i64 (t56 + 1) ∧
                              K0
                                (t, o, A, t9, true, t54, t55, t56 + 1, (Sp.dWrite (nth t54 t56 0) (Sp.fillB 1) (t7_down, t7_armed, t7_after, t7_acut, t7_keep, t7_bs, t7_ws)).fst.fst,
                                  (Sp.dWrite (nth t54 t56 0) (Sp.fillB 1) (t7_down, t7_armed, t7_after, t7_acut, t7_keep, t7_bs, t7_ws)).fst.snd.fst,
                                  (Sp.dWrite (nth t54 t56 0) (Sp.fillB 1) (t7_down, t7_armed, t7_after, t7_acut, t7_keep, t7_bs, t7_ws)).fst.snd.snd.fst,
                                  (Sp.dWrite (nth t54 t56 0) (Sp.fillB 1) (t7_down, t7_armed, t7_after, t7_acut, t7_keep, t7_bs, t7_ws)).fst.snd.snd.snd.fst,
                                  (Sp.dWrite (nth t54 t56 0) (Sp.fillB 1) (t7_down, t7_armed, t7_after, t7_acut, t7_keep, t7_bs, t7_ws)).fst.snd.snd.snd.snd.fst,
                                  (Sp.dWrite (nth t54 t56 0) (Sp.fillB 1) (t7_down, t7_armed, t7_after, t7_acut, t7_keep, t7_bs, t7_ws)).fst.snd.snd.snd.snd.snd.fst,
                                  (Sp.dWrite (nth t54 t56 0) (Sp.fillB 1) (t7_down, t7_armed, t7_after, t7_acut, t7_keep, t7_bs, t7_ws)).fst.snd.snd.snd.snd.snd.snd, ())
                      else
                        bif !decide (t9 = 0) then R false
                        else
                          bif !decide ((Sp.dWrite (nth t54 t56 0) (Sp.fillB 1) (t7_down, t7_armed, t7_after, t7_acut, t7_keep, t7_bs, t7_ws)).snd = 271) then R false
                          else
                            Rg IntKind.i64 (t56 + 1) ∧
                              K0
                                (t, o, A, t9, decide (t56 = t), t54, t55, t56 + 1,
                                  (Sp.dWrite (nth t54 t56 0) (Sp.fillB 1) (t7_down, t7_armed, t7_after, t7_acut, t7_keep, t7_bs, t7_ws)).fst.fst,
                                  (Sp.dWrite (nth t54 t56 0) (Sp.fillB 1) (t7_down, t7_armed, t7_after, t7_acut, t7_keep, t7_bs, t7_ws)).fst.snd.fst,
                                  (Sp.dWrite (nth t54 t56 0) (Sp.fillB 1) (t7_down, t7_armed, t7_after, t7_acut, t7_keep, t7_bs, t7_ws)).fst.snd.snd.fst,
                                  (Sp.dWrite (nth t54 t56 0) (Sp.fillB 1) (t7_down, t7_armed, t7_after, t7_acut, t7_keep, t7_bs, t7_ws)).fst.snd.snd.snd.fst,
                                  (Sp.dWrite (nth t54 t56 0) (Sp.fillB 1) (t7_down, t7_armed, t7_after, t7_acut, t7_keep, t7_bs, t7_ws)).fst.snd.snd.snd.snd.fst,
                                  (Sp.dWrite (nth t54 t56 0) (Sp.fillB 1) (t7_down, t7_armed, t7_after, t7_acut, t7_keep, t7_bs, t7_ws)).fst.snd.snd.snd.snd.snd.fst,
                                  (Sp.dWrite (nth t54 t56 0) (Sp.fillB 1) (t7_down, t7_armed, t7_after, t7_acut, t7_keep, t7_bs, t7_ws)).fst.snd.snd.snd.snd.snd.snd, ())
                    else
                      bif t10 then
                        bif !decide (t9 = 0) then R false
                        else
                          bif !decide ((Sp.dWrite (nth t54 t56 0) (Sp.fillB 1) (t7_down, t7_armed, t7_after, t7_acut, t7_keep, t7_bs, t7_ws)).snd = 270) then R false
                          else
                            Rg IntKind.i64 (t56 + 1) ∧
                              K0
                                (t, o, A, t9, true, t54, t55, t56 + 1, (Sp.dWrite (nth t54 t56 0) (Sp.fillB 1) (t7_down, t7_armed, t7_after, t7_acut, t7_keep, t7_bs, t7_ws)).fst.fst,
                                  (Sp.dWrite (nth t54 t56 0) (Sp.fillB 1) (t7_down, t7_armed, t7_after, t7_acut, t7_keep, t7_bs, t7_ws)).fst.snd.fst,
                                  (Sp.dWrite (nth t54 t56 0) (Sp.fillB 1) (t7_down, t7_armed, t7_after, t7_acut, t7_keep, t7_bs, t7_ws)).fst.snd.snd.fst,
                                  (Sp.dWrite (nth t54 t56 0) (Sp.fillB 1) (t7_down, t7_armed, t7_after, t7_acut, t7_keep, t7_bs, t7_ws)).fst.snd.snd.snd.fst,
                                  (Sp.dWrite (nth t54 t56 0) (Sp.fillB 1) (t7_down, t7_armed, t7_after, t7_acut, t7_keep, t7_bs, t7_ws)).fst.snd.snd.snd.snd.fst,
                                  (Sp.dWrite (nth t54 t56 0) (Sp.fillB 1) (t7_down, t7_armed, t7_after, t7_acut, t7_keep, t7_bs, t7_ws)).fst.snd.snd.snd.snd.snd.fst,
                                  (Sp.dWrite (nth t54 t56 0) (Sp.fillB 1) (t7_down, t7_armed, t7_after, t7_acut, t7_keep, t7_bs, t7_ws)).fst.snd.snd.snd.snd.snd.snd, ())
                      else
                        bif !decide (t9 = 0) then R false
                        else
                          bif !decide ((Sp.dWrite (nth t54 t56 0) (Sp.fillB 1) (t7_down, t7_armed, t7_after, t7_acut, t7_keep, t7_bs, t7_ws)).snd = 270) then R false
                          else
                            Rg IntKind.i64 (t56 + 1) ∧
                              K0
                                (t, o, A, t9, decide (t56 = t), t54, t55, t56 + 1,
                                  (Sp.dWrite (nth t54 t56 0) (Sp.fillB 1) (t7_down, t7_armed, t7_after, t7_acut, t7_keep, t7_bs, t7_ws)).fst.fst,
                                  (Sp.dWrite (nth t54 t56 0) (Sp.fillB 1) (t7_down, t7_armed, t7_after, t7_acut, t7_keep, t7_bs, t7_ws)).fst.snd.fst,
                                  (Sp.dWrite (nth t54 t56 0) (Sp.fillB 1) (t7_down, t7_armed, t7_after, t7_acut, t7_keep, t7_bs, t7_ws)).fst.snd.snd.fst,
                                  (Sp.dWrite (nth t54 t56 0) (Sp.fillB 1) (t7_down, t7_armed, t7_after, t7_acut, t7_keep, t7_bs, t7_ws)).fst.snd.snd.snd.fst,
                                  (Sp.dWrite (nth t54 t56 0) (Sp.fillB 1) (t7_down, t7_armed, t7_after, t7_acut, t7_keep, t7_bs, t7_ws)).fst.snd.snd.snd.snd.fst,
                                  (Sp.dWrite (nth t54 t56 0) (Sp.fillB 1) (t7_down, t7_armed, t7_after, t7_acut, t7_keep, t7_bs, t7_ws)).fst.snd.snd.snd.snd.snd.fst,
                                  (Sp.dWrite (nth t54 t56 0) (Sp.fillB 1) (t7_down, t7_armed, t7_after, t7_acut, t7_keep, t7_bs, t7_ws)).fst.snd.snd.snd.snd.snd.snd, ())
                  else
                    bif t10 then
                      bif !decide (t9 = 0) then R false
                      else
                        bif !decide ((Sp.dWrite (nth t54 t56 0) (Sp.fillB 1) (t7_down, t7_armed, t7_after, t7_acut, t7_keep, t7_bs, t7_ws)).snd = 270) then R false
                        else
                          Rg IntKind.i64 (t56 + 1) ∧
                            K0
                              (t, o, A, t9, true, t54, t55, t56 + 1, (Sp.dWrite (nth t54 t56 0) (Sp.fillB 1) (t7_down, t7_armed, t7_after, t7_acut, t7_keep, t7_bs, t7_ws)).fst.fst,
                                (Sp.dWrite (nth t54 t56 0) (Sp.fillB 1) (t7_down, t7_armed, t7_after, t7_acut, t7_keep, t7_bs, t7_ws)).fst.snd.fst,
                                (Sp.dWrite (nth t54 t56 0) (Sp.fillB 1) (t7_down, t7_armed, t7_after, t7_acut, t7_keep, t7_bs, t7_ws)).fst.snd.snd.fst,
                                (Sp.dWrite (nth t54 t56 0) (Sp.fillB 1) (t7_down, t7_armed, t7_after, t7_acut, t7_keep, t7_bs, t7_ws)).fst.snd.snd.snd.fst,
                                (Sp.dWrite (nth t54 t56 0) (Sp.fillB 1) (t7_down, t7_armed, t7_after, t7_acut, t7_keep, t7_bs, t7_ws)).fst.snd.snd.snd.snd.fst,
                                (Sp.dWrite (nth t54 t56 0) (Sp.fillB 1) (t7_down, t7_armed, t7_after, t7_acut, t7_keep, t7_bs, t7_ws)).fst.snd.snd.snd.snd.snd.fst,
                                (Sp.dWrite (nth t54 t56 0) (Sp.fillB 1) (t7_down, t7_armed, t7_after, t7_acut, t7_keep, t7_bs, t7_ws)).fst.snd.snd.snd.snd.snd.snd, ())
                    else
                      bif !decide (t9 = 0) then R false
                      else
                        bif !decide ((Sp.dWrite (nth t54 t56 0) (Sp.fillB 1) (t7_down, t7_armed, t7_after, t7_acut, t7_keep, t7_bs, t7_ws)).snd = 270) then R false
                        else
                          Rg IntKind.i64 (t56 + 1) ∧
                            K0
                              (t, o, A, t9, decide (t56 = t), t54, t55, t56 + 1,
                                (Sp.dWrite (nth t54 t56 0) (Sp.fillB 1) (t7_down, t7_armed, t7_after, t7_acut, t7_keep, t7_bs, t7_ws)).fst.fst,
                                (Sp.dWrite (nth t54 t56 0) (Sp.fillB 1) (t7_down, t7_armed, t7_after, t7_acut, t7_keep, t7_bs, t7_ws)).fst.snd.fst,
                                (Sp.dWrite (nth t54 t56 0) (Sp.fillB 1) (t7_down, t7_armed, t7_after, t7_acut, t7_keep, t7_bs, t7_ws)).fst.snd.snd.fst,
                                (Sp.dWrite (nth t54 t56 0) (Sp.fillB 1) (t7_down, t7_armed, t7_after, t7_acut, t7_keep, t7_bs, t7_ws)).fst.snd.snd.snd.fst,
                                (Sp.dWrite (nth t54 t56 0) (Sp.fillB 1) (t7_down, t7_armed, t7_after, t7_acut, t7_keep, t7_bs, t7_ws)).fst.snd.snd.snd.snd.fst,
                                (Sp.dWrite (nth t54 t56 0) (Sp.fillB 1) (t7_down, t7_armed, t7_after, t7_acut, t7_keep, t7_bs, t7_ws)).fst.snd.snd.snd.snd.snd.fst,
                                (Sp.dWrite (nth t54 t56 0) (Sp.fillB 1) (t7_down, t7_armed, t7_after, t7_acut, t7_keep, t7_bs, t7_ws)).fst.snd.snd.snd.snd.snd.snd, ())
                else
                  bif A then
                    bif decide (t ≤ t56) then
                      bif t10 then
                        bif !decide (t9 = 0) then R false
                        else
                          bif !decide ((Sp.dWrite (nth t54 t56 0) (Sp.fillB 1) (t7_down, t7_armed, t7_after, t7_acut, t7_keep, t7_bs, t7_ws)).snd = 271) then R false
                          else
                            Rg IntKind.i64 (t56 + 1) ∧
                              K0
                                (t, o, A, t9, true, t54, t55, t56 + 1, (Sp.dWrite (nth t54 t56 0) (Sp.fillB 1) (t7_down, t7_armed, t7_after, t7_acut, t7_keep, t7_bs, t7_ws)).fst.fst,
                                  (Sp.dWrite (nth t54 t56 0) (Sp.fillB 1) (t7_down, t7_armed, t7_after, t7_acut, t7_keep, t7_bs, t7_ws)).fst.snd.fst,
                                  (Sp.dWrite (nth t54 t56 0) (Sp.fillB 1) (t7_down, t7_armed, t7_after, t7_acut, t7_keep, t7_bs, t7_ws)).fst.snd.snd.fst,
                                  (Sp.dWrite (nth t54 t56 0) (Sp.fillB 1) (t7_down, t7_armed, t7_after, t7_acut, t7_keep, t7_bs, t7_ws)).fst.snd.snd.snd.fst,
                                  (Sp.dWrite (nth t54 t56 0) (Sp.fillB 1) (t7_down, t7_armed, t7_after, t7_acut, t7_keep, t7_bs, t7_ws)).fst.snd.snd.snd.snd.fst,
                                  (Sp.dWrite (nth t54 t56 0) (Sp.fillB 1) (t7_down, t7_armed, t7_after, t7_acut, t7_keep, t7_bs, t7_ws)).fst.snd.snd.snd.snd.snd.fst,
                                  (Sp.dWrite (nth t54 t56 0) (Sp.fillB 1) (t7_down, t7_armed, t7_after, t7_acut, t7_keep, t7_bs, t7_ws)).fst.snd.snd.snd.snd.snd.snd, ())
                      else
                        bif !decide (t9 = 0) then R false
                        else
                          bif !decide ((Sp.dWrite (nth t54 t56 0) (Sp.fillB 1) (t7_down, t7_armed, t7_after, t7_acut, t7_keep, t7_bs, t7_ws)).snd = 271) then R false
                          else
                            Rg IntKind.i64 (t56 + 1) ∧
                              K0
                                (t, o, A, t9, decide (t56 = t), t54, t55, t56 + 1,
                                  (Sp.dWrite (nth t54 t56 0) (Sp.fillB 1) (t7_down, t7_armed, t7_after, t7_acut, t7_keep, t7_bs, t7_ws)).fst.fst,
                                  (Sp.dWrite (nth t54 t56 0) (Sp.fillB 1) (t7_down, t7_armed, t7_after, t7_acut, t7_keep, t7_bs, t7_ws)).fst.snd.fst,
                                  (Sp.dWrite (nth t54 t56 0) (Sp.fillB 1) (t7_down, t7_armed, t7_after, t7_acut, t7_keep, t7_bs, t7_ws)).fst.snd.snd.fst,
                                  (Sp.dWrite (nth t54 t56 0) (Sp.fillB 1) (t7_down, t7_armed, t7_after, t7_acut, t7_keep, t7_bs, t7_ws)).fst.snd.snd.snd.fst,
                                  (Sp.dWrite (nth t54 t56 0) (Sp.fillB 1) (t7_down, t7_armed, t7_after, t7_acut, t7_keep, t7_bs, t7_ws)).fst.snd.snd.snd.snd.fst,
                                  (Sp.dWrite (nth t54 t56 0) (Sp.fillB 1) (t7_down, t7_armed, t7_after, t7_acut, t7_keep, t7_bs, t7_ws)).fst.snd.snd.snd.snd.snd.fst,
                                  (Sp.dWrite (nth t54 t56 0) (Sp.fillB 1) (t7_down, t7_armed, t7_after, t7_acut, t7_keep, t7_bs, t7_ws)).fst.snd.snd.snd.snd.snd.snd, ())
                    else
                      bif t10 then
                        bif !decide (t9 = 0) then R false
                        else
                          bif !decide ((Sp.dWrite (nth t54 t56 0) (Sp.fillB 1) (t7_down, t7_armed, t7_after, t7_acut, t7_keep, t7_bs, t7_ws)).snd = 0) then R false
                          else
                            Rg IntKind.i64 (t56 + 1) ∧
                              K0
                                (t, o, A, t9, true, t54, t55, t56 + 1, (Sp.dWrite (nth t54 t56 0) (Sp.fillB 1) (t7_down, t7_armed, t7_after, t7_acut, t7_keep, t7_bs, t7_ws)).fst.fst,
                                  (Sp.dWrite (nth t54 t56 0) (Sp.fillB 1) (t7_down, t7_armed, t7_after, t7_acut, t7_keep, t7_bs, t7_ws)).fst.snd.fst,
                                  (Sp.dWrite (nth t54 t56 0) (Sp.fillB 1) (t7_down, t7_armed, t7_after, t7_acut, t7_keep, t7_bs, t7_ws)).fst.snd.snd.fst,
                                  (Sp.dWrite (nth t54 t56 0) (Sp.fillB 1) (t7_down, t7_armed, t7_after, t7_acut, t7_keep, t7_bs, t7_ws)).fst.snd.snd.snd.fst,
                                  (Sp.dWrite (nth t54 t56 0) (Sp.fillB 1) (t7_down, t7_armed, t7_after, t7_acut, t7_keep, t7_bs, t7_ws)).fst.snd.snd.snd.snd.fst,
                                  (Sp.dWrite (nth t54 t56 0) (Sp.fillB 1) (t7_down, t7_armed, t7_after, t7_acut, t7_keep, t7_bs, t7_ws)).fst.snd.snd.snd.snd.snd.fst,
                                  (Sp.dWrite (nth t54 t56 0) (Sp.fillB 1) (t7_down, t7_armed, t7_after, t7_acut, t7_keep, t7_bs, t7_ws)).fst.snd.snd.snd.snd.snd.snd, ())
                      else
                        bif !decide (t9 = 0) then R false
                        else
                          bif !decide ((Sp.dWrite (nth t54 t56 0) (Sp.fillB 1) (t7_down, t7_armed, t7_after, t7_acut, t7_keep, t7_bs, t7_ws)).snd = 0) then R false
                          else
                            Rg IntKind.i64 (t56 + 1) ∧
                              K0
                                (t, o, A, t9, decide (t56 = t), t54, t55, t56 + 1,
                                  (Sp.dWrite (nth t54 t56 0) (Sp.fillB 1) (t7_down, t7_armed, t7_after, t7_acut, t7_keep, t7_bs, t7_ws)).fst.fst,
                                  (Sp.dWrite (nth t54 t56 0) (Sp.fillB 1) (t7_down, t7_armed, t7_after, t7_acut, t7_keep, t7_bs, t7_ws)).fst.snd.fst,
                                  (Sp.dWrite (nth t54 t56 0) (Sp.fillB 1) (t7_down, t7_armed, t7_after, t7_acut, t7_keep, t7_bs, t7_ws)).fst.snd.snd.fst,
                                  (Sp.dWrite (nth t54 t56 0) (Sp.fillB 1) (t7_down, t7_armed, t7_after, t7_acut, t7_keep, t7_bs, t7_ws)).fst.snd.snd.snd.fst,
                                  (Sp.dWrite (nth t54 t56 0) (Sp.fillB 1) (t7_down, t7_armed, t7_after, t7_acut, t7_keep, t7_bs, t7_ws)).fst.snd.snd.snd.snd.fst,
                                  (Sp.dWrite (nth t54 t56 0) (Sp.fillB 1) (t7_down, t7_armed, t7_after, t7_acut, t7_keep, t7_bs, t7_ws)).fst.snd.snd.snd.snd.snd.fst,
                                  (Sp.dWrite (nth t54 t56 0) (Sp.fillB 1) (t7_down, t7_armed, t7_after, t7_acut, t7_keep, t7_bs, t7_ws)).fst.snd.snd.snd.snd.snd.snd, ())
                  else
                    bif t10 then
                      bif !decide (t9 = 0) then R false
                      else
                        bif !decide ((Sp.dWrite (nth t54 t56 0) (Sp.fillB 1) (t7_down, t7_armed, t7_after, t7_acut, t7_keep, t7_bs, t7_ws)).snd = 0) then R false
                        else
                          Rg IntKind.i64 (t56 + 1) ∧
                            K0
                              (t, o, A, t9, true, t54, t55, t56 + 1, (Sp.dWrite (nth t54 t56 0) (Sp.fillB 1) (t7_down, t7_armed, t7_after, t7_acut, t7_keep, t7_bs, t7_ws)).fst.fst,
                                (Sp.dWrite (nth t54 t56 0) (Sp.fillB 1) (t7_down, t7_armed, t7_after, t7_acut, t7_keep, t7_bs, t7_ws)).fst.snd.fst,
                                (Sp.dWrite (nth t54 t56 0) (Sp.fillB 1) (t7_down, t7_armed, t7_after, t7_acut, t7_keep, t7_bs, t7_ws)).fst.snd.snd.fst,
                                (Sp.dWrite (nth t54 t56 0) (Sp.fillB 1) (t7_down, t7_armed, t7_after, t7_acut, t7_keep, t7_bs, t7_ws)).fst.snd.snd.snd.fst,
                                (Sp.dWrite (nth t54 t56 0) (Sp.fillB 1) (t7_down, t7_armed, t7_after, t7_acut, t7_keep, t7_bs, t7_ws)).fst.snd.snd.snd.snd.fst,
                                (Sp.dWrite (nth t54 t56 0) (Sp.fillB 1) (t7_down, t7_armed, t7_after, t7_acut, t7_keep, t7_bs, t7_ws)).fst.snd.snd.snd.snd.snd.fst,
                                (Sp.dWrite (nth t54 t56 0) (Sp.fillB 1) (t7_down, t7_armed, t7_after, t7_acut, t7_keep, t7_bs, t7_ws)).fst.snd.snd.snd.snd.snd.snd, ())
                    else
                      bif !decide (t9 = 0) then R false
                      else
                        bif !decide ((Sp.dWrite (nth t54 t56 0) (Sp.fillB 1) (t7_down, t7_armed, t7_after, t7_acut, t7_keep, t7_bs, t7_ws)).snd = 0) then R false
                        else
                          Rg IntKind.i64 (t56 + 1) ∧
                            K0
                              (t, o, A, t9, decide (t56 = t), t54, t55, t56 + 1,
                                (Sp.dWrite (nth t54 t56 0) (Sp.fillB 1) (t7_down, t7_armed, t7_after, t7_acut, t7_keep, t7_bs, t7_ws)).fst.fst,
                                (Sp.dWrite (nth t54 t56 0) (Sp.fillB 1) (t7_down, t7_armed, t7_after, t7_acut, t7_keep, t7_bs, t7_ws)).fst.snd.fst,
                                (Sp.dWrite (nth t54 t56 0) (Sp.fillB 1) (t7_down, t7_armed, t7_after, t7_acut, t7_keep, t7_bs, t7_ws)).fst.snd.snd.fst,
                                (Sp.dWrite (nth t54 t56 0) (Sp.fillB 1) (t7_down, t7_armed, t7_after, t7_acut, t7_keep, t7_bs, t7_ws)).fst.snd.snd.snd.fst,
                                (Sp.dWrite (nth t54 t56 0) (Sp.fillB 1) (t7_down, t7_armed, t7_after, t7_acut, t7_keep, t7_bs, t7_ws)).fst.snd.snd.snd.snd.fst,
                                (Sp.dWrite (nth t54 t56 0) (Sp.fillB 1) (t7_down, t7_armed, t7_after, t7_acut, t7_keep, t7_bs, t7_ws)).fst.snd.snd.snd.snd.snd.fst,
                                (Sp.dWrite (nth t54 t56 0) (Sp.fillB 1) (t7_down, t7_armed, t7_after, t7_acut, t7_keep, t7_bs, t7_ws)).fst.snd.snd.snd.snd.snd.snd, ())
              else
                bif A then
                  bif decide (t ≤ t56) then
                    bif t10 then
                      bif !decide (t9 = 0) then R false
                      else
                        bif !decide ((Sp.dWrite (nth t54 t56 0) (Sp.fillB 1) (t7_down, t7_armed, t7_after, t7_acut, t7_keep, t7_bs, t7_ws)).snd = 271) then R false
                        else
                          Rg IntKind.i64 (t56 + 1) ∧
                            K0
                              (t, o, A, t9, true, t54, t55, t56 + 1, (Sp.dWrite (nth t54 t56 0) (Sp.fillB 1) (t7_down, t7_armed, t7_after, t7_acut, t7_keep, t7_bs, t7_ws)).fst.fst,
                                (Sp.dWrite (nth t54 t56 0) (Sp.fillB 1) (t7_down, t7_armed, t7_after, t7_acut, t7_keep, t7_bs, t7_ws)).fst.snd.fst,
                                (Sp.dWrite (nth t54 t56 0) (Sp.fillB 1) (t7_down, t7_armed, t7_after, t7_acut, t7_keep, t7_bs, t7_ws)).fst.snd.snd.fst,
                                (Sp.dWrite (nth t54 t56 0) (Sp.fillB 1) (t7_down, t7_armed, t7_after, t7_acut, t7_keep, t7_bs, t7_ws)).fst.snd.snd.snd.fst,
                                (Sp.dWrite (nth t54 t56 0) (Sp.fillB 1) (t7_down, t7_armed, t7_after, t7_acut, t7_keep, t7_bs, t7_ws)).fst.snd.snd.snd.snd.fst,
                                (Sp.dWrite (nth t54 t56 0) (Sp.fillB 1) (t7_down, t7_armed, t7_after, t7_acut, t7_keep, t7_bs, t7_ws)).fst.snd.snd.snd.snd.snd.fst,
                                (Sp.dWrite (nth t54 t56 0) (Sp.fillB 1) (t7_down, t7_armed, t7_after, t7_acut, t7_keep, t7_bs, t7_ws)).fst.snd.snd.snd.snd.snd.snd, ())
                    else
                      bif !decide (t9 = 0) then R false
                      else
                        bif !decide ((Sp.dWrite (nth t54 t56 0) (Sp.fillB 1) (t7_down, t7_armed, t7_after, t7_acut, t7_keep, t7_bs, t7_ws)).snd = 271) then R false
                        else
                          Rg IntKind.i64 (t56 + 1) ∧
                            K0
                              (t, o, A, t9, decide (t56 = t), t54, t55, t56 + 1,
                                (Sp.dWrite (nth t54 t56 0) (Sp.fillB 1) (t7_down, t7_armed, t7_after, t7_acut, t7_keep, t7_bs, t7_ws)).fst.fst,
                                (Sp.dWrite (nth t54 t56 0) (Sp.fillB 1) (t7_down, t7_armed, t7_after, t7_acut, t7_keep, t7_bs, t7_ws)).fst.snd.fst,
                                (Sp.dWrite (nth t54 t56 0) (Sp.fillB 1) (t7_down, t7_armed, t7_after, t7_acut, t7_keep, t7_bs, t7_ws)).fst.snd.snd.fst,
                                (Sp.dWrite (nth t54 t56 0) (Sp.fillB 1) (t7_down, t7_armed, t7_after, t7_acut, t7_keep, t7_bs, t7_ws)).fst.snd.snd.snd.fst,
                                (Sp.dWrite (nth t54 t56 0) (Sp.fillB 1) (t7_down, t7_armed, t7_after, t7_acut, t7_keep, t7_bs, t7_ws)).fst.snd.snd.snd.snd.fst,
                                (Sp.dWrite (nth t54 t56 0) (Sp.fillB 1) (t7_down, t7_armed, t7_after, t7_acut, t7_keep, t7_bs, t7_ws)).fst.snd.snd.snd.snd.snd.fst,
                                (Sp.dWrite (nth t54 t56 0) (Sp.fillB 1) (t7_down, t7_armed, t7_after, t7_acut, t7_keep, t7_bs, t7_ws)).fst.snd.snd.snd.snd.snd.snd, ())
                  else
                    bif t10 then
                      bif !decide (t9 = 0) then R false
                      else
                        bif !decide ((Sp.dWrite (nth t54 t56 0) (Sp.fillB 1) (t7_down, t7_armed, t7_after, t7_acut, t7_keep, t7_bs, t7_ws)).snd = 0) then R false
                        else
                          Rg IntKind.i64 (t56 + 1) ∧
                            K0
                              (t, o, A, t9, true, t54, t55, t56 + 1, (Sp.dWrite (nth t54 t56 0) (Sp.fillB 1) (t7_down, t7_armed, t7_after, t7_acut, t7_keep, t7_bs, t7_ws)).fst.fst,
                                (Sp.dWrite (nth t54 t56 0) (Sp.fillB 1) (t7_down, t7_armed, t7_after, t7_acut, t7_keep, t7_bs, t7_ws)).fst.snd.fst,
                                (Sp.dWrite (nth t54 t56 0) (Sp.fillB 1) (t7_down, t7_armed, t7_after, t7_acut, t7_keep, t7_bs, t7_ws)).fst.snd.snd.fst,
                                (Sp.dWrite (nth t54 t56 0) (Sp.fillB 1) (t7_down, t7_armed, t7_after, t7_acut, t7_keep, t7_bs, t7_ws)).fst.snd.snd.snd.fst,
                                (Sp.dWrite (nth t54 t56 0) (Sp.fillB 1) (t7_down, t7_armed, t7_after, t7_acut, t7_keep, t7_bs, t7_ws)).fst.snd.snd.snd.snd.fst,
                                (Sp.dWrite (nth t54 t56 0) (Sp.fillB 1) (t7_down, t7_armed, t7_after, t7_acut, t7_keep, t7_bs, t7_ws)).fst.snd.snd.snd.snd.snd.fst,
                                (Sp.dWrite (nth t54 t56 0) (Sp.fillB 1) (t7_down, t7_armed, t7_after, t7_acut, t7_keep, t7_bs, t7_ws)).fst.snd.snd.snd.snd.snd.snd, ())
                    else
                      bif !decide (t9 = 0) then R false
                      else
                        bif !decide ((Sp.dWrite (nth t54 t56 0) (Sp.fillB 1) (t7_down, t7_armed, t7_after, t7_acut, t7_keep, t7_bs, t7_ws)).snd = 0) then R false
                        else
                          Rg IntKind.i64 (t56 + 1) ∧
                            K0
                              (t, o, A, t9, decide (t56 = t), t54, t55, t56 + 1,
                                (Sp.dWrite (nth t54 t56 0) (Sp.fillB 1) (t7_down, t7_armed, t7_after, t7_acut, t7_keep, t7_bs, t7_ws)).fst.fst,
                                (Sp.dWrite (nth t54 t56 0) (Sp.fillB 1) (t7_down, t7_armed, t7_after, t7_acut, t7_keep, t7_bs, t7_ws)).fst.snd.fst,
                                (Sp.dWrite (nth t54 t56 0) (Sp.fillB 1) (t7_down, t7_armed, t7_after, t7_acut, t7_keep, t7_bs, t7_ws)).fst.snd.snd.fst,
                                (Sp.dWrite (nth t54 t56 0) (Sp.fillB 1) (t7_down, t7_armed, t7_after, t7_acut, t7_keep, t7_bs, t7_ws)).fst.snd.snd.snd.fst,
                                (Sp.dWrite (nth t54 t56 0) (Sp.fillB 1) (t7_down, t7_armed, t7_after, t7_acut, t7_keep, t7_bs, t7_ws)).fst.snd.snd.snd.snd.fst,
                                (Sp.dWrite (nth t54 t56 0) (Sp.fillB 1) (t7_down, t7_armed, t7_after, t7_acut, t7_keep, t7_bs, t7_ws)).fst.snd.snd.snd.snd.snd.fst,
                                (Sp.dWrite (nth t54 t56 0) (Sp.fillB 1) (t7_down, t7_armed, t7_after, t7_acut, t7_keep, t7_bs, t7_ws)).fst.snd.snd.snd.snd.snd.snd, ())
                else
                  bif t10 then
                    bif !decide (t9 = 0) then R false
                    else
                      bif !decide ((Sp.dWrite (nth t54 t56 0) (Sp.fillB 1) (t7_down, t7_armed, t7_after, t7_acut, t7_keep, t7_bs, t7_ws)).snd = 0) then R false
                      else
                        Rg IntKind.i64 (t56 + 1) ∧
                          K0
                            (t, o, A, t9, true, t54, t55, t56 + 1, (Sp.dWrite (nth t54 t56 0) (Sp.fillB 1) (t7_down, t7_armed, t7_after, t7_acut, t7_keep, t7_bs, t7_ws)).fst.fst,
                              (Sp.dWrite (nth t54 t56 0) (Sp.fillB 1) (t7_down, t7_armed, t7_after, t7_acut, t7_keep, t7_bs, t7_ws)).fst.snd.fst,
                              (Sp.dWrite (nth t54 t56 0) (Sp.fillB 1) (t7_down, t7_armed, t7_after, t7_acut, t7_keep, t7_bs, t7_ws)).fst.snd.snd.fst,
                              (Sp.dWrite (nth t54 t56 0) (Sp.fillB 1) (t7_down, t7_armed, t7_after, t7_acut, t7_keep, t7_bs, t7_ws)).fst.snd.snd.snd.fst,
                              (Sp.dWrite (nth t54 t56 0) (Sp.fillB 1) (t7_down, t7_armed, t7_after, t7_acut, t7_keep, t7_bs, t7_ws)).fst.snd.snd.snd.snd.fst,
                              (Sp.dWrite (nth t54 t56 0) (Sp.fillB 1) (t7_down, t7_armed, t7_after, t7_acut, t7_keep, t7_bs, t7_ws)).fst.snd.snd.snd.snd.snd.fst,
                              (Sp.dWrite (nth t54 t56 0) (Sp.fillB 1) (t7_down, t7_armed, t7_after, t7_acut, t7_keep, t7_bs, t7_ws)).fst.snd.snd.snd.snd.snd.snd, ())
                  else
                    bif !decide (t9 = 0) then R false
                    else
                      bif !decide ((Sp.dWrite (nth t54 t56 0) (Sp.fillB 1) (t7_down, t7_armed, t7_after, t7_acut, t7_keep, t7_bs, t7_ws)).snd = 0) then R false
                      else
                        Rg IntKind.i64 (t56 + 1) ∧
                          K0
                            (t, o, A, t9, decide (t56 = t), t54, t55, t56 + 1, (Sp.dWrite (nth t54 t56 0) (Sp.fillB 1) (t7_down, t7_armed, t7_after, t7_acut, t7_keep, t7_bs, t7_ws)).fst.fst,
                              (Sp.dWrite (nth t54 t56 0) (Sp.fillB 1) (t7_down, t7_armed, t7_after, t7_acut, t7_keep, t7_bs, t7_ws)).fst.snd.fst,
                              (Sp.dWrite (nth t54 t56 0) (Sp.fillB 1) (t7_down, t7_armed, t7_after, t7_acut, t7_keep, t7_bs, t7_ws)).fst.snd.snd.fst,
                              (Sp.dWrite (nth t54 t56 0) (Sp.fillB 1) (t7_down, t7_armed, t7_after, t7_acut, t7_keep, t7_bs, t7_ws)).fst.snd.snd.snd.fst,
                              (Sp.dWrite (nth t54 t56 0) (Sp.fillB 1) (t7_down, t7_armed, t7_after, t7_acut, t7_keep, t7_bs, t7_ws)).fst.snd.snd.snd.snd.fst,
                              (Sp.dWrite (nth t54 t56 0) (Sp.fillB 1) (t7_down, t7_armed, t7_after, t7_acut, t7_keep, t7_bs, t7_ws)).fst.snd.snd.snd.snd.snd.fst,
                              (Sp.dWrite (nth t54 t56 0) (Sp.fillB 1) (t7_down, t7_armed, t7_after, t7_acut, t7_keep, t7_bs, t7_ws)).fst.snd.snd.snd.snd.snd.snd, ())
  else
    bif A then
      bif t10 then
        Sp.dPre (t7_down, t7_armed, t7_after, t7_acut, t7_keep, t7_bs, t7_ws) ∧
          bif !Sp.upD (t7_down, t7_armed, t7_after, t7_acut, t7_keep, t7_bs, t7_ws) then
            Sp.dPre (t7_down, t7_armed, t7_after, t7_acut, t7_keep, t7_bs, t7_ws) ∧
              bif decide ((↑(Sp.DSt.ws (t7_down, t7_armed, t7_after, t7_acut, t7_keep, t7_bs, t7_ws)).length : Int) = 0) then R Sp.tt else R false
          else R false
      else
        Sp.dPre (t7_down, t7_armed, t7_after, t7_acut, t7_keep, t7_bs, t7_ws) ∧
          bif !t10 then
            Lp
              (fun v K =>
                rectolaw27_DiskArms.L1 R v.fst v.snd.fst v.snd.snd.fst v.snd.snd.snd.fst v.snd.snd.snd.snd.fst v.snd.snd.snd.snd.snd.fst v.snd.snd.snd.snd.snd.snd.fst
                  v.snd.snd.snd.snd.snd.snd.snd.fst v.snd.snd.snd.snd.snd.snd.snd.snd.fst v.snd.snd.snd.snd.snd.snd.snd.snd.snd.fst K)
              ((Sp.dFlush (t7_down, t7_armed, t7_after, t7_acut, t7_keep, t7_bs, t7_ws)).snd, decide (t = (↑o.length : Int)), 0,
                (Sp.dFlush (t7_down, t7_armed, t7_after, t7_acut, t7_keep, t7_bs, t7_ws)).fst.fst, (Sp.dFlush (t7_down, t7_armed, t7_after, t7_acut, t7_keep, t7_bs, t7_ws)).fst.snd.fst,
                (Sp.dFlush (t7_down, t7_armed, t7_after, t7_acut, t7_keep, t7_bs, t7_ws)).fst.snd.snd.fst,
                (Sp.dFlush (t7_down, t7_armed, t7_after, t7_acut, t7_keep, t7_bs, t7_ws)).fst.snd.snd.snd.fst,
                (Sp.dFlush (t7_down, t7_armed, t7_after, t7_acut, t7_keep, t7_bs, t7_ws)).fst.snd.snd.snd.snd.fst,
                (Sp.dFlush (t7_down, t7_armed, t7_after, t7_acut, t7_keep, t7_bs, t7_ws)).fst.snd.snd.snd.snd.snd.fst,
                (Sp.dFlush (t7_down, t7_armed, t7_after, t7_acut, t7_keep, t7_bs, t7_ws)).fst.snd.snd.snd.snd.snd.snd, ())
          else
            Lp
              (fun v K =>
                rectolaw27_DiskArms.L2 R v.fst v.snd.fst v.snd.snd.fst v.snd.snd.snd.fst v.snd.snd.snd.snd.fst v.snd.snd.snd.snd.snd.fst v.snd.snd.snd.snd.snd.snd.fst
                  v.snd.snd.snd.snd.snd.snd.snd.fst v.snd.snd.snd.snd.snd.snd.snd.snd.fst v.snd.snd.snd.snd.snd.snd.snd.snd.snd.fst K)
              ((Sp.dFlush (t7_down, t7_armed, t7_after, t7_acut, t7_keep, t7_bs, t7_ws)).snd, false, 0, (Sp.dFlush (t7_down, t7_armed, t7_after, t7_acut, t7_keep, t7_bs, t7_ws)).fst.fst,
                (Sp.dFlush (t7_down, t7_armed, t7_after, t7_acut, t7_keep, t7_bs, t7_ws)).fst.snd.fst,
                (Sp.dFlush (t7_down, t7_armed, t7_after, t7_acut, t7_keep, t7_bs, t7_ws)).fst.snd.snd.fst,
                (Sp.dFlush (t7_down, t7_armed, t7_after, t7_acut, t7_keep, t7_bs, t7_ws)).fst.snd.snd.snd.fst,
                (Sp.dFlush (t7_down, t7_armed, t7_after, t7_acut, t7_keep, t7_bs, t7_ws)).fst.snd.snd.snd.snd.fst,
                (Sp.dFlush (t7_down, t7_armed, t7_after, t7_acut, t7_keep, t7_bs, t7_ws)).fst.snd.snd.snd.snd.snd.fst,
                (Sp.dFlush (t7_down, t7_armed, t7_after, t7_acut, t7_keep, t7_bs, t7_ws)).fst.snd.snd.snd.snd.snd.snd, ())
    else
      Sp.dPre (t7_down, t7_armed, t7_after, t7_acut, t7_keep, t7_bs, t7_ws) ∧
        bif !t10 then
          Lp
            (fun v K =>
              rectolaw27_DiskArms.L3 R v.fst v.snd.fst v.snd.snd.fst v.snd.snd.snd.fst v.snd.snd.snd.snd.fst v.snd.snd.snd.snd.snd.fst v.snd.snd.snd.snd.snd.snd.fst
                v.snd.snd.snd.snd.snd.snd.snd.fst v.snd.snd.snd.snd.snd.snd.snd.snd.fst v.snd.snd.snd.snd.snd.snd.snd.snd.snd.fst K)
            ((Sp.dFlush (t7_down, t7_armed, t7_after, t7_acut, t7_keep, t7_bs, t7_ws)).snd, decide (t = (↑o.length : Int)), 0,
              (Sp.dFlush (t7_down, t7_armed, t7_after, t7_acut, t7_keep, t7_bs, t7_ws)).fst.fst, (Sp.dFlush (t7_down, t7_armed, t7_after, t7_acut, t7_keep, t7_bs, t7_ws)).fst.snd.fst,
              (Sp.dFlush (t7_down, t7_armed, t7_after, t7_acut, t7_keep, t7_bs, t7_ws)).fst.snd.snd.fst,
              (Sp.dFlush (t7_down, t7_armed, t7_after, t7_acut, t7_keep, t7_bs, t7_ws)).fst.snd.snd.snd.fst,
              (Sp.dFlush (t7_down, t7_armed, t7_after, t7_acut, t7_keep, t7_bs, t7_ws)).fst.snd.snd.snd.snd.fst,
              (Sp.dFlush (t7_down, t7_armed, t7_after, t7_acut, t7_keep, t7_bs, t7_ws)).fst.snd.snd.snd.snd.snd.fst,
              (Sp.dFlush (t7_down, t7_armed, t7_after, t7_acut, t7_keep, t7_bs, t7_ws)).fst.snd.snd.snd.snd.snd.snd, ())
        else
          Lp
            (fun v K =>
              rectolaw27_DiskArms.L4 R v.fst v.snd.fst v.snd.snd.fst v.snd.snd.snd.fst v.snd.snd.snd.snd.fst v.snd.snd.snd.snd.snd.fst v.snd.snd.snd.snd.snd.snd.fst
                v.snd.snd.snd.snd.snd.snd.snd.fst v.snd.snd.snd.snd.snd.snd.snd.snd.fst v.snd.snd.snd.snd.snd.snd.snd.snd.snd.fst K)
            ((Sp.dFlush (t7_down, t7_armed, t7_after, t7_acut, t7_keep, t7_bs, t7_ws)).snd, false, 0, (Sp.dFlush (t7_down, t7_armed, t7_after, t7_acut, t7_keep, t7_bs, t7_ws)).fst.fst,
              (Sp.dFlush (t7_down, t7_armed, t7_after, t7_acut, t7_keep, t7_bs, t7_ws)).fst.snd.fst,
              (Sp.dFlush (t7_down, t7_armed, t7_after, t7_acut, t7_keep, t7_bs, t7_ws)).fst.snd.snd.fst,
              (Sp.dFlush (t7_down, t7_armed, t7_after, t7_acut, t7_keep, t7_bs, t7_ws)).fst.snd.snd.snd.fst,
              (Sp.dFlush (t7_down, t7_armed, t7_after, t7_acut, t7_keep, t7_bs, t7_ws)).fst.snd.snd.snd.snd.fst,
              (Sp.dFlush (t7_down, t7_armed, t7_after, t7_acut, t7_keep, t7_bs, t7_ws)).fst.snd.snd.snd.snd.snd.fst,
              (Sp.dFlush (t7_down, t7_armed, t7_after, t7_acut, t7_keep, t7_bs, t7_ws)).fst.snd.snd.snd.snd.snd.snd, ())
def rectolaw27_DiskArms.vc (R : Bool → Prop) (t : Int) (o : List Int) (A : Bool) : Prop :=
  bif decide (40 < (↑o.length : Int)) then R Sp.tt
  else
    Sp.dSet.pre (t, A, []) (false, false, (Sp.dNew 8).snd.snd.fst, false, (Sp.dNew 8).snd.snd.snd.snd) ∧
      bif decide (t < 0) then bif decide ((Sp.dSet (t, A, []) (false, false, (Sp.dNew 8).snd.snd.fst, false, (Sp.dNew 8).snd.snd.snd.snd)).snd = 1) then R Sp.tt else R false
      else
        Lp
          (fun v K =>
            rectolaw27_DiskArms.L0 R v.fst v.snd.fst v.snd.snd.fst v.snd.snd.snd.fst v.snd.snd.snd.snd.fst v.snd.snd.snd.snd.snd.fst v.snd.snd.snd.snd.snd.snd.fst
              v.snd.snd.snd.snd.snd.snd.snd.fst v.snd.snd.snd.snd.snd.snd.snd.snd.fst v.snd.snd.snd.snd.snd.snd.snd.snd.snd.fst v.snd.snd.snd.snd.snd.snd.snd.snd.snd.snd.fst
              v.snd.snd.snd.snd.snd.snd.snd.snd.snd.snd.snd.fst v.snd.snd.snd.snd.snd.snd.snd.snd.snd.snd.snd.snd.fst v.snd.snd.snd.snd.snd.snd.snd.snd.snd.snd.snd.snd.snd.fst
              v.snd.snd.snd.snd.snd.snd.snd.snd.snd.snd.snd.snd.snd.snd.fst K)
          (t, o, A, (Sp.dSet (t, A, []) (false, false, (Sp.dNew 8).snd.snd.fst, false, (Sp.dNew 8).snd.snd.snd.snd)).snd, false, o, (↑o.length : Int), 0,
            (Sp.dSet (t, A, []) (false, false, (Sp.dNew 8).snd.snd.fst, false, (Sp.dNew 8).snd.snd.snd.snd)).fst.fst,
            (Sp.dSet (t, A, []) (false, false, (Sp.dNew 8).snd.snd.fst, false, (Sp.dNew 8).snd.snd.snd.snd)).fst.snd.fst,
            (Sp.dSet (t, A, []) (false, false, (Sp.dNew 8).snd.snd.fst, false, (Sp.dNew 8).snd.snd.snd.snd)).fst.snd.snd.fst,
            (Sp.dSet (t, A, []) (false, false, (Sp.dNew 8).snd.snd.fst, false, (Sp.dNew 8).snd.snd.snd.snd)).fst.snd.snd.snd.fst,
            (Sp.dSet (t, A, []) (false, false, (Sp.dNew 8).snd.snd.fst, false, (Sp.dNew 8).snd.snd.snd.snd)).fst.snd.snd.snd.snd.fst,
            (Sp.dSet (t, A, []) (false, false, (Sp.dNew 8).snd.snd.fst, false, (Sp.dNew 8).snd.snd.snd.snd)).fst.snd.snd.snd.snd.snd.fst,
            (Sp.dSet (t, A, []) (false, false, (Sp.dNew 8).snd.snd.fst, false, (Sp.dNew 8).snd.snd.snd.snd)).fst.snd.snd.snd.snd.snd.snd, ())

def rectolaw27_DiskNil.vc (R : Bool → Prop) (s : Int × Int × Int × Bool × List Int) : Prop :=
  Sp.fillB.pre 0 ∧
    bif decide (s.snd.fst < 0) then
      bif decide (Sp.setNil (s.snd.fst, false, []) = 1) then R Sp.tt
      else bif decide (0 ≤ s.snd.fst) then bif decide (Sp.setNil (s.snd.fst, false, []) = 271) then R Sp.tt else R false else R false
    else bif decide (0 ≤ s.snd.fst) then bif decide (Sp.setNil (s.snd.fst, false, []) = 271) then R Sp.tt else R false else R false

