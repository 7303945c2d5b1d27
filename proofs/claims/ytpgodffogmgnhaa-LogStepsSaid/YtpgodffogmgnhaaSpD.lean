/- What functions tell: a disk of blocks. Plain definitions. -/
import Derived.Test.YtpgodffogmgnhaaViThree
set_option linter.unnecessarySimpa false
set_option linter.unusedVariables false
set_option linter.unusedSectionVars false
set_option linter.unusedSimpArgs false
set_option autoImplicit false
open Vi

namespace Sp
/-- A law's answer. -/
def tt : Bool := true

/-! The library's. -/
def repS (s : Str) (n : Int) : Str := (List.replicate n.toNat s).flatten
def repS.pre (s : Str) (n : Int) : Prop := 0 ≤ n ∧ n ≤ 1000000 ∧ s.length ≤ 1000000
def joinE (l : List Str) (_ : Str) : Str := l.flatten
def joinE.pre (l : List Str) (sep : Str) : Prop := sep = [] ∧ l.length ≤ 1000000 ∧ l.flatten.length ≤ 1000000
def cloneI (l : List Int) : List Int := l
def cloneI.pre (l : List Int) : Prop := l.length ≤ 1000000
def mulU (x y : Int) : Int × Int := (x * y / 18446744073709551616, x * y % 18446744073709551616)
def repL (l : List (List Str)) (n : Int) : List (List Str) := (List.replicate n.toNat l).flatten
def repL.pre (l : List (List Str)) (n : Int) : Prop := l.length = 1 ∧ 1 ≤ n ∧ n ≤ 1000

/-! A disk. -/
abbrev Blk := List Str
abbrev Wr := Int × Blk
/-- Down, armed, the arm's call, cut and keep; the blocks; what waits. -/
abbrev DSt := Bool × Bool × Int × Bool × List Int × List Blk × List Wr
abbrev DSt.down (d : DSt) : Bool := d.1
abbrev DSt.armed (d : DSt) : Bool := d.2.1
abbrev DSt.after (d : DSt) : Int := d.2.2.1
abbrev DSt.acut (d : DSt) : Bool := d.2.2.2.1
abbrev DSt.keep (d : DSt) : List Int := d.2.2.2.2.1
abbrev DSt.bs (d : DSt) : List Blk := d.2.2.2.2.2.1
abbrev DSt.ws (d : DSt) : List Wr := d.2.2.2.2.2.2

def bOk (b : Blk) : Prop := b.length = 4 ∧ ∀ x, x ∈ b → x.length = 64
/-- A disk as it may be; no more than so many wait. -/
def dOk (n : Nat) (d : DSt) : Prop := d.bs.length ≤ 1000 ∧ (∀ b, b ∈ d.bs → bOk b) ∧ d.ws.length ≤ n ∧ (∀ w, w ∈ d.ws → 0 ≤ w.1 ∧ w.1 < d.bs.length ∧ bOk w.2) ∧ -9223372036854775808 ≤ d.after ∧ d.after ≤ 9223372036854775807 ∧ d.keep.length ≤ 1000000
def dPre (d : DSt) : Prop := dOk 100000 d

def zeroB : Blk := List.replicate 4 (List.replicate 64 0)
def dNew (n : Int) : DSt := (false, false, 0, false, [], List.replicate n.toNat zeroB, [])
def badN (n : Int) : Bool := decide (n < 4) || decide (128 < n)
def cutB (s : Str) : Blk := [s.take 64, (s.drop 64).take 64, (s.drop 128).take 64, (s.drop 192).take 64]
def cutB.pre (s : Str) : Prop := s.length = 256
def textB4 (b : Blk) : Str := b.flatten
def textB4.pre (b : Blk) : Prop := bOk b

def inD (i : Int) (d : DSt) : Bool := decide (0 ≤ i ∧ i < d.bs.length)
def upD (d : DSt) : Bool := !d.down
/-- What is written last of a block. -/
def lastW (i : Int) : Blk → List Wr → Blk
  | b, [] => b
  | b, w :: l => lastW i (if w.1 = i then w.2 else b) l
def dRead (i : Int) (d : DSt) : Str × Int := if inD i d = false then ([], 1) else if d.down = true then ([], 271) else ((lastW i (nth d.bs i []) d.ws).flatten, 0)
def dLasts (i : Int) (d : DSt) : Str := if inD i d = false then [] else (nth d.bs i []).flatten
/-- How many sectors of a write last. -/
def kept (keep : List Int) (k : Int) : Int := if k < keep.length then mn (mx (nth keep k 0) 0) 4 else 0
def fallF (keep : List Int) : Int → List Blk → List Wr → List Blk
  | _, bs, [] => bs
  | k, bs, w :: l => fallF keep (k + 1) (bs.set w.1.toNat (cpA (kept keep k) w.2 (nth bs w.1 []))) l
def dFall (keep : List Int) (d : DSt) : DSt := (true, false, d.after, d.acut, d.keep, fallF keep 0 d.bs d.ws, [])
def dFall.pre (keep : List Int) (d : DSt) : Prop := dPre d ∧ keep.length ≤ 1000000
def dGoes (d : DSt) : DSt × Int × Bool :=
  if d.armed = false then (d, 0, false) else if 0 < d.after then ((d.down, d.armed, d.after - 1, d.acut, d.keep, d.bs, d.ws), 0, false) else
  if d.acut = false then ((d.down, false, d.after, d.acut, d.keep, d.bs, d.ws), 270, true) else (dFall d.keep d, 271, true)
def dWrite (i : Int) (s : Str) (d : DSt) : DSt × Int :=
  if inD i d = false ∨ s.length ≠ 256 then (d, 1) else if d.down = true then (d, 271) else
  if (dGoes d).2.2 = true then ((dGoes d).1, (dGoes d).2.1) else (((dGoes d).1.down, (dGoes d).1.armed, (dGoes d).1.after, (dGoes d).1.acut, (dGoes d).1.keep, (dGoes d).1.bs, (dGoes d).1.ws ++ [(i, cutB s)]), 0)
def dWrite.pre (_ : Int) (s : Str) (d : DSt) : Prop := dPre d ∧ s.length ≤ 9223372036854775807
def flushF : List Blk → List Wr → List Blk
  | bs, [] => bs
  | bs, w :: l => flushF (bs.set w.1.toNat w.2) l
def dFlush (d : DSt) : DSt × Int :=
  if d.down = true then (d, 271) else
  (((dGoes d).1.down, (dGoes d).1.armed, (dGoes d).1.after, (dGoes d).1.acut, (dGoes d).1.keep, if (dGoes d).2.2 = true then (dGoes d).1.bs else flushF (dGoes d).1.bs (dGoes d).1.ws, []), (dGoes d).2.1)
def dSet (a : Int × Bool × List Int) (d : DSt) : DSt × Int :=
  if a.1 < 0 then (d, 1) else if d.down = true then (d, 271) else ((d.down, true, a.1, a.2.1, a.2.2, d.bs, d.ws), 0)
def dSet.pre (a : Int × Bool × List Int) (d : DSt) : Prop := dPre d ∧ a.2.2.length ≤ 1000000
def dCrash (keep : List Int) (d : DSt) : DSt × Int := if d.down = true then (d, 271) else (dFall keep d, 0)
def dStart (d : DSt) : DSt × Int := if d.down = false then (d, 7) else ((false, d.armed, d.after, d.acut, d.keep, d.bs, d.ws), 0)
def setNil (a : Int × Bool × List Int) : Int := if a.1 < 0 then 1 else 271

/-! The document's disk. -/
abbrev RWr := Int × Str
abbrev RSt := Bool × Bool × Int × Bool × List Int × List Str × List RWr
abbrev RSt.down (d : RSt) : Bool := d.1
abbrev RSt.armed (d : RSt) : Bool := d.2.1
abbrev RSt.after (d : RSt) : Int := d.2.2.1
abbrev RSt.acut (d : RSt) : Bool := d.2.2.2.1
abbrev RSt.keep (d : RSt) : List Int := d.2.2.2.2.1
abbrev RSt.bs (d : RSt) : List Str := d.2.2.2.2.2.1
abbrev RSt.ws (d : RSt) : List RWr := d.2.2.2.2.2.2
def rOk (n : Nat) (d : RSt) : Prop := d.bs.length ≤ 1000 ∧ (∀ b, b ∈ d.bs → b.length = 256) ∧ d.ws.length ≤ n ∧ (∀ w, w ∈ d.ws → 0 ≤ w.1 ∧ w.1 < d.bs.length ∧ w.2.length = 256) ∧ -9223372036854775808 ≤ d.after ∧ d.after ≤ 9223372036854775807 ∧ d.keep.length ≤ 1000000
def rPre (d : RSt) : Prop := rOk 100000 d
def rNew (n : Int) : RSt := (false, false, 0, false, [], List.replicate n.toNat (List.replicate 256 0), [])
def rNew.pre (n : Int) : Prop := n ≤ 1000
def rIn (i : Int) (d : RSt) : Bool := decide (0 ≤ i ∧ i < d.bs.length)
def rLastW (i : Int) : Str → List RWr → Str
  | b, [] => b
  | b, w :: l => rLastW i (if w.1 = i then w.2 else b) l
def rRead (i : Int) (d : RSt) : Str × Int := if rIn i d = false then ([], 1) else if d.down = true then ([], 271) else (rLastW i (nth d.bs i []) d.ws, 0)
def rKept (keep : List Int) (k : Int) : Int := if k < keep.length ∧ 0 < nth keep k 0 then (if 4 < nth keep k 0 then 4 else nth keep k 0) else 0
def rFallF (keep : List Int) : Int → List Str → List RWr → List Str
  | _, bs, [] => bs
  | k, bs, w :: l => rFallF keep (k + 1) (bs.set w.1.toNat (w.2.take (64 * (rKept keep k).toNat) ++ (nth bs w.1 []).drop (64 * (rKept keep k).toNat))) l
def rFall (keep : List Int) (d : RSt) : RSt := (true, false, d.after, d.acut, d.keep, rFallF keep 0 d.bs d.ws, [])
def rFall.pre (keep : List Int) (d : RSt) : Prop := rPre d ∧ keep.length ≤ 1000000
def rGoes (d : RSt) : RSt × Int :=
  if d.armed = false then (d, 0) else if 0 < d.after then ((d.down, d.armed, d.after - 1, d.acut, d.keep, d.bs, d.ws), 0) else
  if d.acut = true then (rFall d.keep d, 271) else ((d.down, false, d.after, d.acut, d.keep, d.bs, d.ws), 270)
def rWrite (i : Int) (s : Str) (d : RSt) : RSt × Int :=
  if rIn i d = false ∨ s.length ≠ 256 then (d, 1) else if d.down = true then (d, 271) else
  if (rGoes d).2 = 0 then (((rGoes d).1.down, (rGoes d).1.armed, (rGoes d).1.after, (rGoes d).1.acut, (rGoes d).1.keep, (rGoes d).1.bs, (rGoes d).1.ws ++ [(i, s)]), (rGoes d).2) else rGoes d
def rWrite.pre (_ : Int) (s : Str) (d : RSt) : Prop := rPre d ∧ s.length ≤ 9223372036854775807
def rFlushF : List Str → List RWr → List Str
  | bs, [] => bs
  | bs, w :: l => rFlushF (bs.set w.1.toNat w.2) l
def rFlush (d : RSt) : RSt × Int :=
  if d.down = true then (d, 271) else
  (((rGoes d).1.down, (rGoes d).1.armed, (rGoes d).1.after, (rGoes d).1.acut, (rGoes d).1.keep, if (rGoes d).2 = 0 then rFlushF (rGoes d).1.bs (rGoes d).1.ws else (rGoes d).1.bs, []), (rGoes d).2)
def rSet (a : Int × Bool × List Int) (d : RSt) : RSt × Int :=
  if a.1 < 0 then (d, 1) else if d.down = true then (d, 271) else ((d.down, true, a.1, a.2.1, a.2.2, d.bs, d.ws), 0)
def rSet.pre (a : Int × Bool × List Int) (d : RSt) : Prop := rPre d ∧ a.2.2.length ≤ 1000000
def rCrash (keep : List Int) (d : RSt) : RSt × Int := if d.down = true then (d, 271) else (rFall keep d, 0)
def rStart (d : RSt) : RSt × Int := if d.down = false then (d, 7) else ((false, d.armed, d.after, d.acut, d.keep, d.bs, d.ws), 0)

/-! The laws'. -/
def fillB (b : Int) : Str := List.replicate 256 (UInt8.ofNat b.toNat)
abbrev Step := Int × Int × Int × Bool × List Int
/-- A step, on both. -/
def dStep (s : Step) (d : DSt) : DSt × Int :=
  if s.1 = 0 ∨ s.1 = 1 ∨ s.1 = 2 then dWrite s.2.1 (fillB s.2.2.1) d else if s.1 = 3 then dFlush d else if s.1 = 4 then dCrash s.2.2.2.2 d else if s.1 = 5 then dStart d else
  if s.1 = 6 then dSet (s.2.1, s.2.2.2.1, s.2.2.2.2) d else if s.1 = 7 then dWrite s.2.1 [120] d else (d, 0)
def rStep (s : Step) (d : RSt) : RSt × Int :=
  if s.1 = 0 ∨ s.1 = 1 ∨ s.1 = 2 then rWrite s.2.1 (fillB s.2.2.1) d else if s.1 = 3 then rFlush d else if s.1 = 4 then rCrash s.2.2.2.2 d else if s.1 = 5 then rStart d else
  if s.1 = 6 then rSet (s.2.1, s.2.2.2.1, s.2.2.2.2) d else (d, 0)
def does (s : Step) (d : DSt) (w : RSt) : Bool := if s.1 = 7 then decide ((dStep s d).2 = 1) else decide ((dStep s d).2 = (rStep s w).2)
end Sp
