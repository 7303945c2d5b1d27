/- Conditions of functions. Written by a program of this session. -/
import Derived.Test.YtmciagbogdlcoaaGreatDoorSpU
set_option linter.unnecessarySimpa false
set_option linter.unusedVariables false
set_option linter.unusedSectionVars false
set_option linter.unusedSimpArgs false
set_option autoImplicit false
set_option linter.unusedVariables false
open Go Vi

def strings_Builder_String.vc (R : List UInt8 → Prop) (x : List Int) : Prop :=
  Mt (↑x.length : Int) x.length ∧ R (bytesOf x)

def strings_Builder_WriteByte.vc (R : List Int → Prop) (b : Int) (x : List Int) : Prop :=
  Gr x.length 1 1 ∧ R (x ++ [b])

def chars_Letter.vc (R : Bool → Prop) (b : Int) : Prop :=
  bif decide (65 ≤ b) then bif decide (b ≤ 90) then R true else bif decide (97 ≤ b) then R (decide (b ≤ 122)) else R false else bif decide (97 ≤ b) then R (decide (b ≤ 122)) else R false

def chars_Digit.vc (R : Bool → Prop) (b : Int) : Prop :=
  bif decide (48 ≤ b) then R (decide (b ≤ 57)) else R false

def chars_Lower.L0 (R : List UInt8 → Prop) (t8 : Int) (t9 : Int) (out : List Int) (K0 : Int × Int × List Int × Unit → Prop) : Prop :=
  bif decide (t9 < t8) then
    Ix t9 out.length ∧
      bif decide (65 ≤ nth out t9 0) then
        Ix t9 out.length ∧
          bif decide (nth out t9 0 ≤ 90) then
            Ix t9 out.length ∧ Rg IntKind.u8 (nth out t9 0 + 32) ∧ Ix t9 out.length ∧ Rg IntKind.i64 (t9 + 1) ∧ K0 (t8, t9 + 1, out.set t9.toNat (nth out t9 0 + 32), ())
          else Rg IntKind.i64 (t9 + 1) ∧ K0 (t8, t9 + 1, out, ())
      else Rg IntKind.i64 (t9 + 1) ∧ K0 (t8, t9 + 1, out, ())
  else R (bytesOf out)
def chars_Lower.vc (R : List UInt8 → Prop) (s : Str) : Prop :=
  Gr 0 (List.length s) 1 ∧ Lp (fun v K => chars_Lower.L0 R v.fst v.snd.fst v.snd.snd.fst K) ((↑(ints s).length : Int), 0, ints s, ())

def urls_Plain.L2 (R : List UInt8 → Prop) (s : List UInt8) (t30 : Int) (t31 : Int) (out_buf : List Int) (K2 : List UInt8 × Int × Int × List Int × Unit → Prop) : Prop :=
  bif decide (t31 < t30) then
    Ix t31 s.length ∧
      bif !decide ((↑(nth s t31 0).toNat : Int) = 9) then
        Ix t31 s.length ∧
          bif !decide ((↑(nth s t31 0).toNat : Int) = 10) then
            Ix t31 s.length ∧
              bif !decide ((↑(nth s t31 0).toNat : Int) = 13) then
                Ix t31 s.length ∧ Sp.wb.pre out_buf (↑(nth s t31 0).toNat : Int) ∧ Rg IntKind.i64 (t31 + 1) ∧ K2 (s, t30, t31 + 1, Sp.wb out_buf (↑(nth s t31 0).toNat : Int), ())
              else Rg IntKind.i64 (t31 + 1) ∧ K2 (s, t30, t31 + 1, out_buf, ())
          else Rg IntKind.i64 (t31 + 1) ∧ K2 (s, t30, t31 + 1, out_buf, ())
      else Rg IntKind.i64 (t31 + 1) ∧ K2 (s, t30, t31 + 1, out_buf, ())
  else R (bytesOf out_buf)
def urls_Plain.L3 (R : List UInt8 → Prop) (x30 : List UInt8) (x31 : Int) (x32 : Int) (x33 : List Int) (K3 : List UInt8 × Int × Int × List Int × Unit → Prop) : Prop :=
  bif decide (x32 < x31) then
    Ix x32 x30.length ∧
      bif !decide ((↑(nth x30 x32 0).toNat : Int) = 9) then
        Ix x32 x30.length ∧
          bif !decide ((↑(nth x30 x32 0).toNat : Int) = 10) then
            Ix x32 x30.length ∧
              bif !decide ((↑(nth x30 x32 0).toNat : Int) = 13) then
                Ix x32 x30.length ∧ Sp.wb.pre x33 (↑(nth x30 x32 0).toNat : Int) ∧ Rg IntKind.i64 (x32 + 1) ∧ K3 (x30, x31, x32 + 1, Sp.wb x33 (↑(nth x30 x32 0).toNat : Int), ())
              else Rg IntKind.i64 (x32 + 1) ∧ K3 (x30, x31, x32 + 1, x33, ())
          else Rg IntKind.i64 (x32 + 1) ∧ K3 (x30, x31, x32 + 1, x33, ())
      else Rg IntKind.i64 (x32 + 1) ∧ K3 (x30, x31, x32 + 1, x33, ())
  else R (bytesOf x33)
def urls_Plain.L1 (R : List UInt8 → Prop) (s : List UInt8) (K1 : List UInt8 × Unit → Prop) : Prop :=
  bif !decide (s = []) then
    Rg IntKind.i64 ((↑s.length : Int) - 1) ∧
      Ix ((↑s.length : Int) - 1) s.length ∧
        bif decide ((↑(nth s ((↑s.length : Int) - 1) 0).toNat : Int) ≤ 32) then
          Rg IntKind.i64 ((↑s.length : Int) - 1) ∧ Sb 0 ((↑s.length : Int) - 1) s.length ∧ K1 (sub s 0 ((↑s.length : Int) - 1), ())
        else Lp (fun v K => urls_Plain.L2 R v.fst v.snd.fst v.snd.snd.fst v.snd.snd.snd.fst K) (s, (↑s.length : Int), 0, [], ())
  else Lp (fun v K => urls_Plain.L3 R v.fst v.snd.fst v.snd.snd.fst v.snd.snd.snd.fst K) (s, (↑s.length : Int), 0, [], ())
def urls_Plain.L5 (R : List UInt8 → Prop) (x50 : List UInt8) (x51 : Int) (x52 : Int) (x53 : List Int) (K5 : List UInt8 × Int × Int × List Int × Unit → Prop) : Prop :=
  bif decide (x52 < x51) then
    Ix x52 x50.length ∧
      bif !decide ((↑(nth x50 x52 0).toNat : Int) = 9) then
        Ix x52 x50.length ∧
          bif !decide ((↑(nth x50 x52 0).toNat : Int) = 10) then
            Ix x52 x50.length ∧
              bif !decide ((↑(nth x50 x52 0).toNat : Int) = 13) then
                Ix x52 x50.length ∧ Sp.wb.pre x53 (↑(nth x50 x52 0).toNat : Int) ∧ Rg IntKind.i64 (x52 + 1) ∧ K5 (x50, x51, x52 + 1, Sp.wb x53 (↑(nth x50 x52 0).toNat : Int), ())
              else Rg IntKind.i64 (x52 + 1) ∧ K5 (x50, x51, x52 + 1, x53, ())
          else Rg IntKind.i64 (x52 + 1) ∧ K5 (x50, x51, x52 + 1, x53, ())
      else Rg IntKind.i64 (x52 + 1) ∧ K5 (x50, x51, x52 + 1, x53, ())
  else R (bytesOf x53)
def urls_Plain.L6 (R : List UInt8 → Prop) (x60 : List UInt8) (x61 : Int) (x62 : Int) (x63 : List Int) (K6 : List UInt8 × Int × Int × List Int × Unit → Prop) : Prop :=
  bif decide (x62 < x61) then
    Ix x62 x60.length ∧
      bif !decide ((↑(nth x60 x62 0).toNat : Int) = 9) then
        Ix x62 x60.length ∧
          bif !decide ((↑(nth x60 x62 0).toNat : Int) = 10) then
            Ix x62 x60.length ∧
              bif !decide ((↑(nth x60 x62 0).toNat : Int) = 13) then
                Ix x62 x60.length ∧ Sp.wb.pre x63 (↑(nth x60 x62 0).toNat : Int) ∧ Rg IntKind.i64 (x62 + 1) ∧ K6 (x60, x61, x62 + 1, Sp.wb x63 (↑(nth x60 x62 0).toNat : Int), ())
              else Rg IntKind.i64 (x62 + 1) ∧ K6 (x60, x61, x62 + 1, x63, ())
          else Rg IntKind.i64 (x62 + 1) ∧ K6 (x60, x61, x62 + 1, x63, ())
      else Rg IntKind.i64 (x62 + 1) ∧ K6 (x60, x61, x62 + 1, x63, ())
  else R (bytesOf x63)
def urls_Plain.L4 (R : List UInt8 → Prop) (x40 : List UInt8) (K4 : List UInt8 × Unit → Prop) : Prop :=
  bif !decide (x40 = []) then
    Rg IntKind.i64 ((↑x40.length : Int) - 1) ∧
      Ix ((↑x40.length : Int) - 1) x40.length ∧
        bif decide ((↑(nth x40 ((↑x40.length : Int) - 1) 0).toNat : Int) ≤ 32) then
          Rg IntKind.i64 ((↑x40.length : Int) - 1) ∧ Sb 0 ((↑x40.length : Int) - 1) x40.length ∧ K4 (sub x40 0 ((↑x40.length : Int) - 1), ())
        else Lp (fun v K => urls_Plain.L5 R v.fst v.snd.fst v.snd.snd.fst v.snd.snd.snd.fst K) (x40, (↑x40.length : Int), 0, [], ())
  else Lp (fun v K => urls_Plain.L6 R v.fst v.snd.fst v.snd.snd.fst v.snd.snd.snd.fst K) (x40, (↑x40.length : Int), 0, [], ())
def urls_Plain.L0 (R : List UInt8 → Prop) (s : List UInt8) (K0 : List UInt8 × Unit → Prop) : Prop :=
  bif !decide (s = []) then
    Ix 0 s.length ∧
      bif decide ((↑(nth s 0 0).toNat : Int) ≤ 32) then Sb 1 (↑s.length : Int) s.length ∧ K0 (sub s 1 (↑s.length : Int), ()) else Lp (fun v K => urls_Plain.L1 R v.fst K) (s, ())
  else Lp (fun v K => urls_Plain.L4 R v.fst K) (s, ())
def urls_Plain.vc (R : List UInt8 → Prop) (s : Str) : Prop :=
  Lp (fun v K => urls_Plain.L0 R v.fst K) (s, ())

def strings_IndexByte.vc (R : Int → Prop) (s : Str) (c : Int) : Prop :=
  R (Sp.idxB s c)

def internal_stringslite_Index.vc (R : Int → Prop) (t : Str) (o : Str) : Prop :=
  bif decide ((↑(List.length o) : Int) = 0) then R 0
  else
    bif decide (o = t) then R 0
    else
      bif decide ((↑(List.length o) : Int) = 1) then Ix 0 (List.length o) ∧ R (Sp.idxB t (↑(nth o 0 0).toNat : Int))
      else bif decide ((↑(List.length t) : Int) ≤ (↑(List.length o) : Int)) then R (-1) else False

def internal_stringslite_Cut.vc (R : List UInt8 → List UInt8 → Bool → Prop) (s : Str) (sep : Str) : Prop :=
  Sp.idx1.pre s sep ∧
    bif decide (0 ≤ Sp.idx1 s sep) then
      Sb 0 (Sp.idx1 s sep) (List.length s) ∧
        Rg IntKind.i64 (Sp.idx1 s sep + (↑(List.length sep) : Int)) ∧
          Sb (Sp.idx1 s sep + (↑(List.length sep) : Int)) (↑(List.length s) : Int) (List.length s) ∧
            R (sub s 0 (Sp.idx1 s sep)) (sub s (Sp.idx1 s sep + (↑(List.length sep) : Int)) (↑(List.length s) : Int)) true
    else R s [] false

def strings_Cut.vc (R : List UInt8 → List UInt8 → Bool → Prop) (s : Str) (sep : Str) : Prop :=
  Sp.cut1.pre s sep ∧ R (Sp.cut1 s sep).fst (Sp.cut1 s sep).snd.fst (Sp.cut1 s sep).snd.snd

def internal_stringslite_HasPrefix.vc (R : Bool → Prop) (s : Str) (prefix_ : Str) : Prop :=
  bif decide ((↑(List.length prefix_) : Int) ≤ (↑(List.length s) : Int)) then
    Sb 0 (↑(List.length prefix_) : Int) (List.length s) ∧ R (decide (sub s 0 (↑(List.length prefix_) : Int) = prefix_))
  else R false

def internal_stringslite_CutPrefix.vc (R : List UInt8 → Bool → Prop) (s : Str) (prefix_ : Str) : Prop :=
  Sp.preB.pre s prefix_ ∧
    bif !Sp.preB s prefix_ then R s false
    else Sb (↑(List.length prefix_) : Int) (↑(List.length s) : Int) (List.length s) ∧ R (sub s (↑(List.length prefix_) : Int) (↑(List.length s) : Int)) true

def strings_CutPrefix.vc (R : List UInt8 → Bool → Prop) (s : Str) (prefix_ : Str) : Prop :=
  Sp.preB.pre s prefix_ ∧ R (Sp.cutP s prefix_).fst (Sp.cutP s prefix_).snd

def urls_cutter_scheme.L0 (R : List UInt8 →
  List UInt8 →
    List UInt8 →
      List UInt8 →
        List UInt8 →
          List UInt8 →
            Bool →
              Bool →
                Bool →
                  Bool →
                    Prop) (n : Int) (t21 : Int) (t22 : Int) (rest : List
  UInt8) (sch : List
  UInt8) (host : List
  UInt8) (path : List
  UInt8) (query : List
  UInt8) (mark : List
  UInt8) (hs : Bool) (hh : Bool) (hq : Bool) (hm : Bool) (K0 : Int ×
    Int × Int × List UInt8 × List UInt8 × List UInt8 × List UInt8 × List UInt8 × List UInt8 × Bool × Bool × Bool × Bool × Unit →
  Prop) : Prop :=
  bif decide (t22 < t21) then
    Ix t22 rest.length ∧
      bif !Sp.letB (↑(nth rest t22 0).toNat : Int) then
        bif !Sp.digB (↑(nth rest t22 0).toNat : Int) then
          bif !decide ((↑(nth rest t22 0).toNat : Int) = 43) then
            bif !decide ((↑(nth rest t22 0).toNat : Int) = 45) then
              bif !decide ((↑(nth rest t22 0).toNat : Int) = 46) then R rest sch host path query mark hs hh hq hm
              else Rg IntKind.i64 (t22 + 1) ∧ K0 (n, t21, t22 + 1, rest, sch, host, path, query, mark, hs, hh, hq, hm, ())
            else Rg IntKind.i64 (t22 + 1) ∧ K0 (n, t21, t22 + 1, rest, sch, host, path, query, mark, hs, hh, hq, hm, ())
          else Rg IntKind.i64 (t22 + 1) ∧ K0 (n, t21, t22 + 1, rest, sch, host, path, query, mark, hs, hh, hq, hm, ())
        else Rg IntKind.i64 (t22 + 1) ∧ K0 (n, t21, t22 + 1, rest, sch, host, path, query, mark, hs, hh, hq, hm, ())
      else Rg IntKind.i64 (t22 + 1) ∧ K0 (n, t21, t22 + 1, rest, sch, host, path, query, mark, hs, hh, hq, hm, ())
  else
    Sb 0 n rest.length ∧
      Sp.lower.pre (sub rest 0 n) ∧
        Rg IntKind.i64 (n + 1) ∧ Sb (n + 1) (↑rest.length : Int) rest.length ∧ R (sub rest (n + 1) (↑rest.length : Int)) (Sp.lower (sub rest 0 n)) host path query mark true hh hq hm
def urls_cutter_scheme.vc (R : List UInt8 →
  List UInt8 →
    List UInt8 →
      List UInt8 →
        List UInt8 →
          List UInt8 →
            Bool → Bool → Bool → Bool → Prop) (rest : Str) (sch : Str) (host : Str) (path : Str) (query : Str) (mark : Str) (hs : Bool) (hh : Bool) (hq : Bool) (hm : Bool) : Prop :=
  bif decide (Sp.idxB rest 58 ≤ 0) then R rest sch host path query mark hs hh hq hm
  else
    Ix 0 (List.length rest) ∧
      bif !Sp.letB (↑(nth rest 0 0).toNat : Int) then R rest sch host path query mark hs hh hq hm
      else
        Lp
          (fun v K =>
            urls_cutter_scheme.L0 R v.fst v.snd.fst v.snd.snd.fst v.snd.snd.snd.fst v.snd.snd.snd.snd.fst v.snd.snd.snd.snd.snd.fst v.snd.snd.snd.snd.snd.snd.fst
              v.snd.snd.snd.snd.snd.snd.snd.fst v.snd.snd.snd.snd.snd.snd.snd.snd.fst v.snd.snd.snd.snd.snd.snd.snd.snd.snd.fst v.snd.snd.snd.snd.snd.snd.snd.snd.snd.snd.fst
              v.snd.snd.snd.snd.snd.snd.snd.snd.snd.snd.snd.fst v.snd.snd.snd.snd.snd.snd.snd.snd.snd.snd.snd.snd.fst K)
          (Sp.idxB rest 58, Sp.idxB rest 58, 0, rest, sch, host, path, query, mark, hs, hh, hq, hm, ())

def urls_cutter_mark.vc (R : List UInt8 →
  List UInt8 →
    List UInt8 →
      List UInt8 →
        List UInt8 →
          List UInt8 →
            Bool → Bool → Bool → Bool → Prop) (rest : Str) (sch : Str) (host : Str) (path : Str) (query : Str) (mark : Str) (hs : Bool) (hh : Bool) (hq : Bool) (hm : Bool) : Prop :=
  Sp.cut1.pre rest [35] ∧ R (Sp.cut1 rest [35]).fst sch host path query (Sp.cut1 rest [35]).snd.fst hs hh hq (Sp.cut1 rest [35]).snd.snd

def urls_cutter_query.vc (R : List UInt8 →
  List UInt8 →
    List UInt8 →
      List UInt8 →
        List UInt8 →
          List UInt8 →
            Bool → Bool → Bool → Bool → Prop) (rest : Str) (sch : Str) (host : Str) (path : Str) (query : Str) (mark : Str) (hs : Bool) (hh : Bool) (hq : Bool) (hm : Bool) : Prop :=
  Sp.cut1.pre rest [63] ∧ R (Sp.cut1 rest [63]).fst sch host path (Sp.cut1 rest [63]).snd.fst mark hs hh (Sp.cut1 rest [63]).snd.snd hm

def urls_cutter_host.L0 (R : List UInt8 →
  List UInt8 →
    List UInt8 →
      List UInt8 →
        List UInt8 →
          List UInt8 →
            Bool →
              Bool →
                Bool →
                  Bool →
                    Prop) (rest' : List
  UInt8) (n : Int) (rest : List
  UInt8) (sch : List
  UInt8) (host : List
  UInt8) (path : List
  UInt8) (query : List
  UInt8) (mark : List
  UInt8) (hs : Bool) (hh : Bool) (hq : Bool) (hm : Bool) (K0 : List UInt8 ×
    Int × List UInt8 × List UInt8 × List UInt8 × List UInt8 × List UInt8 × List UInt8 × Bool × Bool × Bool × Bool × Unit →
  Prop) : Prop :=
  bif decide (n < (↑rest'.length : Int)) then
    Ix n rest'.length ∧
      bif !decide ((↑(nth rest' n 0).toNat : Int) = 47) then
        Ix n rest'.length ∧
          bif !decide ((↑(nth rest' n 0).toNat : Int) = 92) then Rg IntKind.i64 (n + 1) ∧ K0 (rest', n + 1, rest, sch, host, path, query, mark, hs, hh, hq, hm, ())
          else Sb 0 n rest'.length ∧ Sb n (↑rest'.length : Int) rest'.length ∧ R (sub rest' n (↑rest'.length : Int)) sch (sub rest' 0 n) path query mark hs true hq hm
      else Sb 0 n rest'.length ∧ Sb n (↑rest'.length : Int) rest'.length ∧ R (sub rest' n (↑rest'.length : Int)) sch (sub rest' 0 n) path query mark hs true hq hm
  else Sb 0 n rest'.length ∧ Sb n (↑rest'.length : Int) rest'.length ∧ R (sub rest' n (↑rest'.length : Int)) sch (sub rest' 0 n) path query mark hs true hq hm
def urls_cutter_host.vc (R : List UInt8 →
  List UInt8 →
    List UInt8 →
      List UInt8 →
        List UInt8 →
          List UInt8 →
            Bool → Bool → Bool → Bool → Prop) (rest : Str) (sch : Str) (host : Str) (path : Str) (query : Str) (mark : Str) (hs : Bool) (hh : Bool) (hq : Bool) (hm : Bool) : Prop :=
  Sp.preB.pre rest [47, 47] ∧
    bif !(Sp.cutP rest [47, 47]).snd then R rest sch host path query mark hs hh hq hm
    else
      Lp
        (fun v K =>
          urls_cutter_host.L0 R v.fst v.snd.fst v.snd.snd.fst v.snd.snd.snd.fst v.snd.snd.snd.snd.fst v.snd.snd.snd.snd.snd.fst v.snd.snd.snd.snd.snd.snd.fst
            v.snd.snd.snd.snd.snd.snd.snd.fst v.snd.snd.snd.snd.snd.snd.snd.snd.fst v.snd.snd.snd.snd.snd.snd.snd.snd.snd.fst v.snd.snd.snd.snd.snd.snd.snd.snd.snd.snd.fst
            v.snd.snd.snd.snd.snd.snd.snd.snd.snd.snd.snd.fst K)
        ((Sp.cutP rest [47, 47]).fst, 0, rest, sch, host, path, query, mark, hs, hh, hq, hm, ())

def urls_Split.L0 (R : List UInt8 × List UInt8 × List UInt8 × List UInt8 × List UInt8 × Bool × Bool × Bool × Bool →
  Prop) (t19 : Int) (t2_Scheme : List
  UInt8) (t2_Host : List
  UInt8) (t2_Path : List
  UInt8) (t2_Query : List
  UInt8) (t2_Mark : List
  UInt8) (t2_HasScheme : Bool) (t2_HasHost : Bool) (t2_HasQuery : Bool) (t2_HasMark : Bool) (c_rest : List
  UInt8) (c_p_Scheme : List
  UInt8) (c_p_Host : List
  UInt8) (c_p_Path : List
  UInt8) (c_p_Query : List
  UInt8) (c_p_Mark : List
  UInt8) (c_p_HasScheme : Bool) (c_p_HasHost : Bool) (c_p_HasQuery : Bool) (c_p_HasMark : Bool) (K0 : Int ×
    List UInt8 ×
      List UInt8 ×
        List UInt8 × List UInt8 × List UInt8 × Bool × Bool × Bool × Bool × List UInt8 × List UInt8 × List UInt8 × List UInt8 × List UInt8 × List UInt8 × Bool × Bool × Bool × Bool × Unit →
  Prop) : Prop :=
  bif decide (t19 < 4) then
    Ix t19 4 ∧
      bif eqN t19 0 then
        Sp.small c_rest ∧
          Rg IntKind.i64 (t19 + 1) ∧
            K0
              (t19 + 1, t2_Scheme, t2_Host, t2_Path, t2_Query, t2_Mark, t2_HasScheme, t2_HasHost, t2_HasQuery, t2_HasMark, Sp.schRest c_rest, Sp.schName c_rest c_p_Scheme, c_p_Host,
                c_p_Path, c_p_Query, c_p_Mark, Sp.schHas c_rest c_p_HasScheme, c_p_HasHost, c_p_HasQuery, c_p_HasMark, ())
      else
        bif eqN t19 1 then
          Sp.small c_rest ∧
            Rg IntKind.i64 (t19 + 1) ∧
              K0
                (t19 + 1, t2_Scheme, t2_Host, t2_Path, t2_Query, t2_Mark, t2_HasScheme, t2_HasHost, t2_HasQuery, t2_HasMark, (Sp.cutC c_rest 35).fst, c_p_Scheme, c_p_Host, c_p_Path,
                  c_p_Query, (Sp.cutC c_rest 35).snd.fst, c_p_HasScheme, c_p_HasHost, c_p_HasQuery, (Sp.cutC c_rest 35).snd.snd, ())
        else
          bif eqN t19 2 then
            Sp.small c_rest ∧
              Rg IntKind.i64 (t19 + 1) ∧
                K0
                  (t19 + 1, t2_Scheme, t2_Host, t2_Path, t2_Query, t2_Mark, t2_HasScheme, t2_HasHost, t2_HasQuery, t2_HasMark, (Sp.cutC c_rest 63).fst, c_p_Scheme, c_p_Host, c_p_Path,
                    (Sp.cutC c_rest 63).snd.fst, c_p_Mark, c_p_HasScheme, c_p_HasHost, (Sp.cutC c_rest 63).snd.snd, c_p_HasMark, ())
          else
            Sp.small c_rest ∧
              Rg IntKind.i64 (t19 + 1) ∧
                K0
                  (t19 + 1, t2_Scheme, t2_Host, t2_Path, t2_Query, t2_Mark, t2_HasScheme, t2_HasHost, t2_HasQuery, t2_HasMark, Sp.hostRest c_rest, c_p_Scheme, Sp.hostName c_rest c_p_Host,
                    c_p_Path, c_p_Query, c_p_Mark, c_p_HasScheme, Sp.hostHas c_rest c_p_HasHost, c_p_HasQuery, c_p_HasMark, ())
  else R (c_p_Scheme, c_p_Host, c_rest, c_p_Query, c_p_Mark, c_p_HasScheme, c_p_HasHost, c_p_HasQuery, c_p_HasMark)
def urls_Split.vc (R : List UInt8 × List UInt8 × List UInt8 × List UInt8 × List UInt8 × Bool × Bool × Bool × Bool → Prop) (s : Str) : Prop :=
  Sp.plainU.pre s ∧
    Lp
      (fun v K =>
        urls_Split.L0 R v.fst v.snd.fst v.snd.snd.fst v.snd.snd.snd.fst v.snd.snd.snd.snd.fst v.snd.snd.snd.snd.snd.fst v.snd.snd.snd.snd.snd.snd.fst v.snd.snd.snd.snd.snd.snd.snd.fst
          v.snd.snd.snd.snd.snd.snd.snd.snd.fst v.snd.snd.snd.snd.snd.snd.snd.snd.snd.fst v.snd.snd.snd.snd.snd.snd.snd.snd.snd.snd.fst v.snd.snd.snd.snd.snd.snd.snd.snd.snd.snd.snd.fst
          v.snd.snd.snd.snd.snd.snd.snd.snd.snd.snd.snd.snd.fst v.snd.snd.snd.snd.snd.snd.snd.snd.snd.snd.snd.snd.snd.fst v.snd.snd.snd.snd.snd.snd.snd.snd.snd.snd.snd.snd.snd.snd.fst
          v.snd.snd.snd.snd.snd.snd.snd.snd.snd.snd.snd.snd.snd.snd.snd.fst v.snd.snd.snd.snd.snd.snd.snd.snd.snd.snd.snd.snd.snd.snd.snd.snd.fst
          v.snd.snd.snd.snd.snd.snd.snd.snd.snd.snd.snd.snd.snd.snd.snd.snd.snd.fst v.snd.snd.snd.snd.snd.snd.snd.snd.snd.snd.snd.snd.snd.snd.snd.snd.snd.snd.fst
          v.snd.snd.snd.snd.snd.snd.snd.snd.snd.snd.snd.snd.snd.snd.snd.snd.snd.snd.snd.fst K)
      (0, [], [], [], [], [], false, false, false, false, Sp.plainU s, [], [], [], [], [], false, false, false, false, ())

def urls_Scheme.vc (R : List UInt8 → Bool → Prop) (s : Str) : Prop :=
  Sp.splitP.pre s ∧ R (Sp.splitP s).fst (Sp.splitP s).snd.snd.snd.snd.snd.fst

def slices_Index_string_string.L0 (R : Int → Prop) (s : List (List UInt8)) (v : List UInt8) (t7 : Int) (t8 : Int) (K0 : List (List UInt8) × List UInt8 × Int × Int × Unit → Prop) : Prop :=
  bif decide (t8 < t7) then Ix t8 s.length ∧ bif decide (v = nth s t8 []) then R t8 else Rg IntKind.i64 (t8 + 1) ∧ K0 (s, v, t7, t8 + 1, ()) else R (-1)
def slices_Index_string_string.vc (R : Int → Prop) (s : List Str) (v : Str) : Prop :=
  Lp (fun v K => slices_Index_string_string.L0 R v.fst v.snd.fst v.snd.snd.fst v.snd.snd.snd.fst K) (s, v, (↑s.length : Int), 0, ())

def slices_Contains_string_string.vc (R : Bool → Prop) (s : List Str) (v : Str) : Prop :=
  Sp.idxS.pre s v ∧ R (decide (0 ≤ Sp.idxS s v))

def urls_Safe.vc (R : Bool → Prop) (s : Str) (schemes : List Str) : Prop :=
  Sp.schemeP.pre s ∧ bif !(Sp.schemeP s).snd then R true else Sp.idxS.pre schemes (Sp.schemeP s).fst ∧ R (Sp.hasS schemes (Sp.schemeP s).fst)
