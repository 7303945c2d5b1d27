/- Conditions of functions. Written by a program of this session. -/
import Derived.Test.YtmciagbogdlcoaaGreatDoorSpV
set_option linter.unnecessarySimpa false
set_option linter.unusedVariables false
set_option linter.unusedSectionVars false
set_option linter.unusedSimpArgs false
set_option autoImplicit false
set_option linter.unusedVariables false
open Go Vi

def utf_long.vc (R : Int → Prop) (b : Int) : Prop :=
 bif decide (b < 128) then R 1 else bif decide (b < 192) then R 0 else bif decide (248 ≤ b) then R 0 else bif decide (b < 224) then R 2 else bif decide (b < 240) then R 3 else R 4

def utf_First.L0 (R : Int → Int → Prop) (s : List UInt8) (n : Int) (c : Int) (i : Int) (K0 : List UInt8 × Int × Int × Int × Unit → Prop) : Prop :=
 bif decide (i < n) then
 Ix i s.length ∧
 bif !decide (bitsO BinOp.and IntKind.u8 (↑(nth s i 0).toNat : Int) 192 = 128) then R 65533 1
 else
 Shf 6 IntKind.i64 ∧
 Rg IntKind.i64 (c * 2 ^ 6) ∧
 Ix i s.length ∧ Rg IntKind.i64 (i + 1) ∧ K0 (s, n, bitsO BinOp.or IntKind.i64 (c * 2 ^ 6) (bitsO BinOp.and IntKind.u8 (↑(nth s i 0).toNat : Int) 63), i + 1, ())
 else bif !Sp.isC c then R 65533 1 else Ix n 5 ∧ bif decide (c < (nth utfRows n (0, 0)).snd) then R 65533 1 else R c n
def utf_First.vc (R : Int → Int → Prop) (s : Str) : Prop :=
 bif decide (s = []) then R 0 0
 else
 Ix 0 (List.length s) ∧
 bif decide (Sp.longB (↑(nth s 0 0).toNat : Int) = 0) then R 65533 1
 else
 bif decide ((↑(List.length s) : Int) < Sp.longB (↑(nth s 0 0).toNat : Int)) then R 65533 1
 else
 Ix 0 (List.length s) ∧
 Ix (Sp.longB (↑(nth s 0 0).toNat : Int)) 5 ∧
 Rg IntKind.i64 ((↑(nth s 0 0).toNat : Int) - (nth utfRows (Sp.longB (↑(nth s 0 0).toNat : Int)) (0, 0)).fst) ∧
 Lp (fun v K => utf_First.L0 R v.fst v.snd.fst v.snd.snd.fst v.snd.snd.snd.fst K)
 (s, Sp.longB (↑(nth s 0 0).toNat : Int), (↑(nth s 0 0).toNat : Int) - (nth utfRows (Sp.longB (↑(nth s 0 0).toNat : Int)) (0, 0)).fst, 1, ())

def utf_Clean.L0 (R : List UInt8 → Prop) (s : List UInt8) (out_buf : List Int) (K0 : List UInt8 × List Int × Unit → Prop) : Prop :=
 bif !decide (s = []) then
 Sp.firstC.pre s ∧
 Sp.wr.pre out_buf (Sp.bytesC (Sp.firstC s).fst) ∧
 Sb (Sp.firstC s).snd (↑s.length : Int) s.length ∧ K0 (sub s (Sp.firstC s).snd (↑s.length : Int), Sp.wr out_buf (Sp.bytesC (Sp.firstC s).fst), ())
 else R (bytesOf out_buf)
def utf_Clean.vc (R : List UInt8 → Prop) (s : Str) : Prop :=
 Lp (fun v K => utf_Clean.L0 R v.fst v.snd.fst K) (s, [], ())

def filter_made.vc (R : List UInt8 → Prop) (s : Str) : Prop :=
 Sp.repA.pre s [13] [10] ∧
 Sp.repA.pre (Sp.repA s [13] [10]) [0] (Sp.bytesC 65533) ∧
 Sp.cleanS.pre (Sp.repA (Sp.repA s [13] [10]) [0] (Sp.bytesC 65533)) ∧ R (Sp.cleanS (Sp.repA (Sp.repA s [13] [10]) [0] (Sp.bytesC 65533)))

def filter_filter_attrs_1.vc (R : Bool → List UInt8 → List UInt8 → Prop) (x : Str × Str) (an : Str) (av : Str) : Prop :=
 R (decide (x.fst = an)) an av

def Index_attr1.L0 (R : Int →
 List UInt8 →
 List UInt8 →
 List (List UInt8 × List UInt8) →
 Prop) (t7 : Int) (t8 : Int) (an : List
 UInt8) (av : List UInt8) (l : List (List UInt8 × List UInt8)) (K0 : Int × Int × List UInt8 × List UInt8 × List (List UInt8 × List UInt8) × Unit → Prop) : Prop :=
 bif decide (t8 < t7) then Ix t8 l.length ∧ bif Sp.sameN (nth l t8 ([], [])) an then R t8 an av l else Rg IntKind.i64 (t8 + 1) ∧ K0 (t7, t8 + 1, an, av, l, ()) else R (-1) an av l
def Index_attr1.vc (R : Int → List UInt8 → List UInt8 → List (List UInt8 × List UInt8) → Prop) (an : Str) (av : Str) (l : List (Str × Str)) : Prop :=
 Lp (fun v K => Index_attr1.L0 R v.fst v.snd.fst v.snd.snd.fst v.snd.snd.snd.fst v.snd.snd.snd.snd.fst K) ((↑l.length : Int), 0, an, av, l, ())

def Contains_attr1.vc (R : Bool → List UInt8 → List UInt8 → List (List UInt8 × List UInt8) → Prop) (an : Str) (av : Str) (l : List (Str × Str)) : Prop :=
 Sp.attrs6 l ∧ R (decide (0 ≤ Sp.idxSame l an)) an av l

def filter_filter_attrs.L0 (R : List (List UInt8 × List UInt8) →
 List (List UInt8 × Int × List (List UInt8) × List (List UInt8)) →
 List (List UInt8) →
 Int →
 Int →
 Int →
 Int →
 Int →
 Int →
 Prop) (t10 : List
 (List UInt8 ×
 List
 UInt8)) (t11 : Int) (t12 : Int) (rules : List
 (List UInt8 ×
 Int ×
 List (List UInt8) ×
 List
 (List
 UInt8))) (schemes : List
 (List
 UInt8)) (others : Int) (strange : Int) (dr : Int) (op : Int) (at_ : Int) (ot : Int) (n_Kind : Int) (n_Space : Int) (n_Name : List
 UInt8) (n_Attrs : List
 (List UInt8 ×
 List
 UInt8)) (n_Text : List
 UInt8) (n_Kids : List
 Vi.Node) (out : List
 (List UInt8 ×
 List
 UInt8)) (K0 : List (List UInt8 × List UInt8) ×
 Int ×
 Int ×
 List (List UInt8 × Int × List (List UInt8) × List (List UInt8)) ×
 List (List UInt8) ×
 Int × Int × Int × Int × Int × Int × Int × Int × List UInt8 × List (List UInt8 × List UInt8) × List UInt8 × List Vi.Node × List (List UInt8 × List UInt8) × Unit →
 Prop) : Prop :=
 bif decide (t12 < t11) then
 Ix t12 t10.length ∧
 Sp.attrs6 out ∧
 bif Sp.anySame out (nth t10 t12 ([], [])).fst then
 Rg IntKind.i64 (at_ + 1) ∧
 Rg IntKind.i64 (t12 + 1) ∧ K0 (t10, t11, t12 + 1, rules, schemes, others, strange, dr, op, at_ + 1, ot, n_Kind, n_Space, n_Name, n_Attrs, n_Text, n_Kids, out, ())
 else
 bif decide ((↑out.length : Int) = 12) then
 Rg IntKind.i64 (at_ + 1) ∧
 Rg IntKind.i64 (t12 + 1) ∧ K0 (t10, t11, t12 + 1, rules, schemes, others, strange, dr, op, at_ + 1, ot, n_Kind, n_Space, n_Name, n_Attrs, n_Text, n_Kids, out, ())
 else
 Sp.staysC.pre (rules, schemes, others, strange) n_Name (nth t10 t12 ([], [])) ∧
 bif !Sp.staysC (rules, schemes, others, strange) n_Name (nth t10 t12 ([], [])) then
 Rg IntKind.i64 (at_ + 1) ∧
 Rg IntKind.i64 (t12 + 1) ∧ K0 (t10, t11, t12 + 1, rules, schemes, others, strange, dr, op, at_ + 1, ot, n_Kind, n_Space, n_Name, n_Attrs, n_Text, n_Kids, out, ())
 else
 Sp.madeS.pre (nth t10 t12 ([], [])).snd ∧
 Gr out.length 1 32 ∧
 Rg IntKind.i64 (t12 + 1) ∧
 K0
 (t10, t11, t12 + 1, rules, schemes, others, strange, dr, op, at_, ot, n_Kind, n_Space, n_Name, n_Attrs, n_Text, n_Kids,
 out ++ [((nth t10 t12 ([], [])).fst, Sp.madeS (nth t10 t12 ([], [])).snd)], ())
 else R out rules schemes others strange dr op at_ ot
def filter_filter_attrs.vc (R : List (List UInt8 × List UInt8) →
 List (List UInt8 × Int × List (List UInt8) × List (List UInt8)) →
 List (List UInt8) →
 Int →
 Int →
 Int →
 Int →
 Int →
 Int →
 Prop) (n : Vi.Node) (rules : List
 (Str × Int × List Str × List Str)) (schemes : List Str) (others : Int) (strange : Int) (dr : Int) (op : Int) (at_ : Int) (ot : Int) : Prop :=
 Lp
 (fun v K =>
 filter_filter_attrs.L0 R v.fst v.snd.fst v.snd.snd.fst v.snd.snd.snd.fst v.snd.snd.snd.snd.fst v.snd.snd.snd.snd.snd.fst v.snd.snd.snd.snd.snd.snd.fst v.snd.snd.snd.snd.snd.snd.snd.fst
 v.snd.snd.snd.snd.snd.snd.snd.snd.fst v.snd.snd.snd.snd.snd.snd.snd.snd.snd.fst v.snd.snd.snd.snd.snd.snd.snd.snd.snd.snd.fst v.snd.snd.snd.snd.snd.snd.snd.snd.snd.snd.snd.fst
 v.snd.snd.snd.snd.snd.snd.snd.snd.snd.snd.snd.snd.fst v.snd.snd.snd.snd.snd.snd.snd.snd.snd.snd.snd.snd.snd.fst v.snd.snd.snd.snd.snd.snd.snd.snd.snd.snd.snd.snd.snd.snd.fst
 v.snd.snd.snd.snd.snd.snd.snd.snd.snd.snd.snd.snd.snd.snd.snd.fst v.snd.snd.snd.snd.snd.snd.snd.snd.snd.snd.snd.snd.snd.snd.snd.snd.fst
 v.snd.snd.snd.snd.snd.snd.snd.snd.snd.snd.snd.snd.snd.snd.snd.snd.snd.fst K)
 (n.attrs, (↑n.attrs.length : Int), 0, rules, schemes, others, strange, dr, op, at_, ot, n.kind, n.space, n.name, n.attrs, n.text, n.kids, [], ())

def filter_filter_text.vc (R : List Vi.Node →
 List (List UInt8 × Int × List (List UInt8) × List (List UInt8)) →
 List (List UInt8) →
 Int →
 Int →
 Int →
 Int →
 Int →
 Int →
 Prop) (n : Vi.Node) (rules : List
 (Str × Int × List Str × List Str)) (schemes : List Str) (others : Int) (strange : Int) (dr : Int) (op : Int) (at_ : Int) (ot : Int) : Prop :=
 bif decide (n.text = []) then R [] rules schemes others strange dr op at_ ot
 else Sp.madeS.pre n.text ∧ R [Vi.Node.mk 2 0 [] [] (Sp.madeS n.text) []] rules schemes others strange dr op at_ ot

def filter_filter_other.vc (R : List Vi.Node →
 List (List UInt8 × Int × List (List UInt8) × List (List UInt8)) →
 List (List UInt8) →
 Int →
 Int →
 Int →
 Int →
 Int →
 Int →
 Prop) (n : Vi.Node) (rules : List
 (Str × Int × List Str × List Str)) (schemes : List Str) (others : Int) (strange : Int) (dr : Int) (op : Int) (at_ : Int) (ot : Int) : Prop :=
 Rg IntKind.i64 (ot + 1) ∧ R [] rules schemes others strange dr op at_ (ot + 1)

def filter_filter_how.vc (R0 : List (List UInt8 × Int × List (List UInt8) × List (List UInt8)) →
 List (List UInt8) →
 Int →
 Int →
 Int →
 Int →
 Int →
 Int →
 Prop) (R1 : List (List UInt8 × Int × List (List UInt8) × List (List UInt8)) →
 List (List UInt8) →
 Int →
 Int →
 Int →
 Int →
 Int →
 Int →
 Prop) (R2 : List (List UInt8 × Int × List (List UInt8) × List (List UInt8)) →
 List (List UInt8) →
 Int →
 Int →
 Int →
 Int →
 Int →
 Int →
 Prop) (n : Vi.Node) (rules : List
 (Str × Int × List Str × List Str)) (schemes : List Str) (others : Int) (strange : Int) (dr : Int) (op : Int) (at_ : Int) (ot : Int) : Prop :=
 bif decide (n.kind = 1) then R0 rules schemes others strange dr op at_ ot
 else bif decide (n.kind = 2) then R1 rules schemes others strange dr op at_ ot else R2 rules schemes others strange dr op at_ ot

def filter_filter_element.vc (R : List Vi.Node →
 List (List UInt8 × Int × List (List UInt8) × List (List UInt8)) →
 List (List UInt8) →
 Int →
 Int →
 Int →
 Int →
 Int →
 Int →
 Prop) (nn : Nat) (n : Vi.Node) (rules : List
 (Str × Int × List Str × List Str)) (schemes : List Str) (others : Int) (strange : Int) (dr : Int) (op : Int) (at_ : Int) (ot : Int) : Prop :=
 Sp.actC.pre (rules, schemes, others, strange) n.space n.name ∧
 bif decide (Sp.actC (rules, schemes, others, strange) n.space n.name = 3) then Rg IntKind.i64 (dr + 1) ∧ R [] rules schemes others strange (dr + 1) op at_ ot
 else
 bif decide (Sp.actC (rules, schemes, others, strange) n.space n.name = 2) then
 Rg IntKind.i64 (op + 1) ∧
 (Sp.fOkL (rules, schemes, others, strange) (dr, op + 1, at_, ot) n.kids ∧ Sp.mNs2 n.kids rules schemes others strange dr (op + 1) at_ ot < nn) ∧
 R (Sp.nsF (rules, schemes, others, strange) n.kids) rules schemes others strange (Sp.lostL (rules, schemes, others, strange) (dr, op + 1, at_, ot) n.kids).fst
 (Sp.lostL (rules, schemes, others, strange) (dr, op + 1, at_, ot) n.kids).snd.fst (Sp.lostL (rules, schemes, others, strange) (dr, op + 1, at_, ot) n.kids).snd.snd.fst
 (Sp.lostL (rules, schemes, others, strange) (dr, op + 1, at_, ot) n.kids).snd.snd.snd
 else
 Sp.fOkN (rules, schemes, others, strange) (dr, op, at_, ot) (Vi.Node.mk n.kind n.space n.name n.attrs n.text n.kids) ∧
 (Sp.fOkL (rules, schemes, others, strange) (dr, op, at_ + (Sp.attrsF (rules, schemes, others, strange) (Vi.Node.mk n.kind n.space n.name n.attrs n.text n.kids)).snd, ot) n.kids ∧
 Sp.mNs2 n.kids rules schemes others strange dr op (at_ + (Sp.attrsF (rules, schemes, others, strange) (Vi.Node.mk n.kind n.space n.name n.attrs n.text n.kids)).snd) ot < nn) ∧
 bif !Sp.voidN n.name then
 R
 [Vi.Node.mk 1 0 n.name (Sp.attrsF (rules, schemes, others, strange) (Vi.Node.mk n.kind n.space n.name n.attrs n.text n.kids)).fst []
 (Sp.nsF (rules, schemes, others, strange) n.kids)]
 rules schemes others strange
 (Sp.lostL (rules, schemes, others, strange) (dr, op, at_ + (Sp.attrsF (rules, schemes, others, strange) (Vi.Node.mk n.kind n.space n.name n.attrs n.text n.kids)).snd, ot)
 n.kids).fst
 (Sp.lostL (rules, schemes, others, strange) (dr, op, at_ + (Sp.attrsF (rules, schemes, others, strange) (Vi.Node.mk n.kind n.space n.name n.attrs n.text n.kids)).snd, ot)
 n.kids).snd.fst
 (Sp.lostL (rules, schemes, others, strange) (dr, op, at_ + (Sp.attrsF (rules, schemes, others, strange) (Vi.Node.mk n.kind n.space n.name n.attrs n.text n.kids)).snd, ot)
 n.kids).snd.snd.fst
 (Sp.lostL (rules, schemes, others, strange) (dr, op, at_ + (Sp.attrsF (rules, schemes, others, strange) (Vi.Node.mk n.kind n.space n.name n.attrs n.text n.kids)).snd, ot)
 n.kids).snd.snd.snd
 else
 R [Vi.Node.mk 1 0 n.name (Sp.attrsF (rules, schemes, others, strange) (Vi.Node.mk n.kind n.space n.name n.attrs n.text n.kids)).fst [] []] rules schemes others strange
 (Sp.lostL (rules, schemes, others, strange) (dr, op, at_ + (Sp.attrsF (rules, schemes, others, strange) (Vi.Node.mk n.kind n.space n.name n.attrs n.text n.kids)).snd, ot)
 n.kids).fst
 (Sp.lostL (rules, schemes, others, strange) (dr, op, at_ + (Sp.attrsF (rules, schemes, others, strange) (Vi.Node.mk n.kind n.space n.name n.attrs n.text n.kids)).snd, ot)
 n.kids).snd.fst
 (Sp.lostL (rules, schemes, others, strange) (dr, op, at_ + (Sp.attrsF (rules, schemes, others, strange) (Vi.Node.mk n.kind n.space n.name n.attrs n.text n.kids)).snd, ot)
 n.kids).snd.snd.fst
 (Sp.lostL (rules, schemes, others, strange) (dr, op, at_ + (Sp.attrsF (rules, schemes, others, strange) (Vi.Node.mk n.kind n.space n.name n.attrs n.text n.kids)).snd, ot)
 n.kids).snd.snd.snd

def filter_filter_nodes.L1 (K0 : List Vi.Node ×
 Int × Int × List (List UInt8 × Int × List (List UInt8) × List (List UInt8)) × List (List UInt8) × Int × Int × Int × Int × Int × Int × List Vi.Node × Unit →
 Prop) (t11 : List
 Vi.Node) (t12 : Int) (t13 : Int) (t21 : List
 Vi.Node) (t22 : Int) (t23 : Int) (rules : List
 (List UInt8 ×
 Int ×
 List (List UInt8) ×
 List
 (List
 UInt8))) (schemes : List
 (List
 UInt8)) (others : Int) (strange : Int) (dr : Int) (op : Int) (at_ : Int) (ot : Int) (out : List
 Vi.Node) (K1 : List Vi.Node ×
 Int × Int × List Vi.Node × Int × Int × List (List UInt8 × Int × List (List UInt8) × List (List UInt8)) × List (List UInt8) × Int × Int × Int × Int × Int × Int × List Vi.Node × Unit →
 Prop) : Prop :=
 bif decide (t23 < t22) then
 Ix t23 t21.length ∧
 Rg IntKind.i64 ((↑out.length : Int) - 1) ∧
 bif decide (0 ≤ (↑out.length : Int) - 1) then
 bif decide (Vi.Node.kind (nth t21 t23 (Vi.Node.mk 0 0 [] [] [] [])) = 2) then
 Ix ((↑out.length : Int) - 1) out.length ∧
 bif decide (Vi.Node.kind (nth out ((↑out.length : Int) - 1) (Vi.Node.mk 0 0 [] [] [] [])) = 2) then
 Ix ((↑out.length : Int) - 1) out.length ∧
 (↑(List.length (Node.text (nth out ((↑out.length : Int) - 1) (Vi.Node.mk 0 0 [] [] [] [])))) : Int) +
 (↑(List.length (Node.text (nth t21 t23 (Vi.Node.mk 0 0 [] [] [] [])))) : Int) ≤
 9223372036854775807 ∧
 Ix ((↑out.length : Int) - 1) out.length ∧
 Rg IntKind.i64 (t23 + 1) ∧
 K1
 (t11, t12, t13, t21, t22, t23 + 1, rules, schemes, others, strange, dr, op, at_, ot,
 out.set ((↑out.length : Int) - 1).toNat
 (Vi.Node.mk (Vi.Node.kind (nth out ((↑out.length : Int) - 1) (Vi.Node.mk 0 0 [] [] [] [])))
 (Node.space (nth out ((↑out.length : Int) - 1) (Vi.Node.mk 0 0 [] [] [] []))) (Node.name (nth out ((↑out.length : Int) - 1) (Vi.Node.mk 0 0 [] [] [] [])))
 (Node.attrs (nth out ((↑out.length : Int) - 1) (Vi.Node.mk 0 0 [] [] [] [])))
 (Node.text (nth out ((↑out.length : Int) - 1) (Vi.Node.mk 0 0 [] [] [] [])) ++ Node.text (nth t21 t23 (Vi.Node.mk 0 0 [] [] [] [])))
 (Node.kids (nth out ((↑out.length : Int) - 1) (Vi.Node.mk 0 0 [] [] [] [])))),
 ())
 else
 Gr out.length 1 96 ∧
 Rg IntKind.i64 (t23 + 1) ∧
 K1
 (t11, t12, t13, t21, t22, t23 + 1, rules, schemes, others, strange, dr, op, at_, ot,
 out ++
 [Vi.Node.mk (Vi.Node.kind (nth t21 t23 (Vi.Node.mk 0 0 [] [] [] []))) (Node.space (nth t21 t23 (Vi.Node.mk 0 0 [] [] [] [])))
 (Node.name (nth t21 t23 (Vi.Node.mk 0 0 [] [] [] []))) (Node.attrs (nth t21 t23 (Vi.Node.mk 0 0 [] [] [] [])))
 (Node.text (nth t21 t23 (Vi.Node.mk 0 0 [] [] [] []))) (Node.kids (nth t21 t23 (Vi.Node.mk 0 0 [] [] [] [])))],
 ())
 else
 Gr out.length 1 96 ∧
 Rg IntKind.i64 (t23 + 1) ∧
 K1
 (t11, t12, t13, t21, t22, t23 + 1, rules, schemes, others, strange, dr, op, at_, ot,
 out ++
 [Vi.Node.mk (Vi.Node.kind (nth t21 t23 (Vi.Node.mk 0 0 [] [] [] []))) (Node.space (nth t21 t23 (Vi.Node.mk 0 0 [] [] [] [])))
 (Node.name (nth t21 t23 (Vi.Node.mk 0 0 [] [] [] []))) (Node.attrs (nth t21 t23 (Vi.Node.mk 0 0 [] [] [] [])))
 (Node.text (nth t21 t23 (Vi.Node.mk 0 0 [] [] [] []))) (Node.kids (nth t21 t23 (Vi.Node.mk 0 0 [] [] [] [])))],
 ())
 else
 Gr out.length 1 96 ∧
 Rg IntKind.i64 (t23 + 1) ∧
 K1
 (t11, t12, t13, t21, t22, t23 + 1, rules, schemes, others, strange, dr, op, at_, ot,
 out ++
 [Vi.Node.mk (Vi.Node.kind (nth t21 t23 (Vi.Node.mk 0 0 [] [] [] []))) (Node.space (nth t21 t23 (Vi.Node.mk 0 0 [] [] [] [])))
 (Node.name (nth t21 t23 (Vi.Node.mk 0 0 [] [] [] []))) (Node.attrs (nth t21 t23 (Vi.Node.mk 0 0 [] [] [] []))) (Node.text (nth t21 t23 (Vi.Node.mk 0 0 [] [] [] [])))
 (Node.kids (nth t21 t23 (Vi.Node.mk 0 0 [] [] [] [])))],
 ())
 else Rg IntKind.i64 (t13 + 1) ∧ K0 (t11, t12, t13 + 1, rules, schemes, others, strange, dr, op, at_, ot, out, ())
def filter_filter_nodes.L2 (K0 : List Vi.Node ×
 Int × Int × List (List UInt8 × Int × List (List UInt8) × List (List UInt8)) × List (List UInt8) × Int × Int × Int × Int × Int × Int × List Vi.Node × Unit →
 Prop) (x20 : List
 Vi.Node) (x21 : Int) (x22 : Int) (x23 : List
 Vi.Node) (x24 : Int) (x25 : Int) (x26 : List
 (List UInt8 ×
 Int ×
 List (List UInt8) ×
 List
 (List
 UInt8))) (x27 : List
 (List
 UInt8)) (x28 : Int) (x29 : Int) (x210 : Int) (x211 : Int) (x212 : Int) (x213 : Int) (x214 : List
 Vi.Node) (K2 : List Vi.Node ×
 Int × Int × List Vi.Node × Int × Int × List (List UInt8 × Int × List (List UInt8) × List (List UInt8)) × List (List UInt8) × Int × Int × Int × Int × Int × Int × List Vi.Node × Unit →
 Prop) : Prop :=
 bif decide (x25 < x24) then
 Ix x25 x23.length ∧
 Rg IntKind.i64 ((↑x214.length : Int) - 1) ∧
 bif decide (0 ≤ (↑x214.length : Int) - 1) then
 bif decide (Vi.Node.kind (nth x23 x25 (Vi.Node.mk 0 0 [] [] [] [])) = 2) then
 Ix ((↑x214.length : Int) - 1) x214.length ∧
 bif decide (Vi.Node.kind (nth x214 ((↑x214.length : Int) - 1) (Vi.Node.mk 0 0 [] [] [] [])) = 2) then
 Ix ((↑x214.length : Int) - 1) x214.length ∧
 (↑(List.length (Node.text (nth x214 ((↑x214.length : Int) - 1) (Vi.Node.mk 0 0 [] [] [] [])))) : Int) +
 (↑(List.length (Node.text (nth x23 x25 (Vi.Node.mk 0 0 [] [] [] [])))) : Int) ≤
 9223372036854775807 ∧
 Ix ((↑x214.length : Int) - 1) x214.length ∧
 Rg IntKind.i64 (x25 + 1) ∧
 K2
 (x20, x21, x22, x23, x24, x25 + 1, x26, x27, x28, x29, x210, x211, x212, x213,
 x214.set ((↑x214.length : Int) - 1).toNat
 (Vi.Node.mk (Vi.Node.kind (nth x214 ((↑x214.length : Int) - 1) (Vi.Node.mk 0 0 [] [] [] [])))
 (Node.space (nth x214 ((↑x214.length : Int) - 1) (Vi.Node.mk 0 0 [] [] [] []))) (Node.name (nth x214 ((↑x214.length : Int) - 1) (Vi.Node.mk 0 0 [] [] [] [])))
 (Node.attrs (nth x214 ((↑x214.length : Int) - 1) (Vi.Node.mk 0 0 [] [] [] [])))
 (Node.text (nth x214 ((↑x214.length : Int) - 1) (Vi.Node.mk 0 0 [] [] [] [])) ++ Node.text (nth x23 x25 (Vi.Node.mk 0 0 [] [] [] [])))
 (Node.kids (nth x214 ((↑x214.length : Int) - 1) (Vi.Node.mk 0 0 [] [] [] [])))),
 ())
 else
 Gr x214.length 1 96 ∧
 Rg IntKind.i64 (x25 + 1) ∧
 K2
 (x20, x21, x22, x23, x24, x25 + 1, x26, x27, x28, x29, x210, x211, x212, x213,
 x214 ++
 [Vi.Node.mk (Vi.Node.kind (nth x23 x25 (Vi.Node.mk 0 0 [] [] [] []))) (Node.space (nth x23 x25 (Vi.Node.mk 0 0 [] [] [] [])))
 (Node.name (nth x23 x25 (Vi.Node.mk 0 0 [] [] [] []))) (Node.attrs (nth x23 x25 (Vi.Node.mk 0 0 [] [] [] [])))
 (Node.text (nth x23 x25 (Vi.Node.mk 0 0 [] [] [] []))) (Node.kids (nth x23 x25 (Vi.Node.mk 0 0 [] [] [] [])))],
 ())
 else
 Gr x214.length 1 96 ∧
 Rg IntKind.i64 (x25 + 1) ∧
 K2
 (x20, x21, x22, x23, x24, x25 + 1, x26, x27, x28, x29, x210, x211, x212, x213,
 x214 ++
 [Vi.Node.mk (Vi.Node.kind (nth x23 x25 (Vi.Node.mk 0 0 [] [] [] []))) (Node.space (nth x23 x25 (Vi.Node.mk 0 0 [] [] [] [])))
 (Node.name (nth x23 x25 (Vi.Node.mk 0 0 [] [] [] []))) (Node.attrs (nth x23 x25 (Vi.Node.mk 0 0 [] [] [] [])))
 (Node.text (nth x23 x25 (Vi.Node.mk 0 0 [] [] [] []))) (Node.kids (nth x23 x25 (Vi.Node.mk 0 0 [] [] [] [])))],
 ())
 else
 Gr x214.length 1 96 ∧
 Rg IntKind.i64 (x25 + 1) ∧
 K2
 (x20, x21, x22, x23, x24, x25 + 1, x26, x27, x28, x29, x210, x211, x212, x213,
 x214 ++
 [Vi.Node.mk (Vi.Node.kind (nth x23 x25 (Vi.Node.mk 0 0 [] [] [] []))) (Node.space (nth x23 x25 (Vi.Node.mk 0 0 [] [] [] [])))
 (Node.name (nth x23 x25 (Vi.Node.mk 0 0 [] [] [] []))) (Node.attrs (nth x23 x25 (Vi.Node.mk 0 0 [] [] [] []))) (Node.text (nth x23 x25 (Vi.Node.mk 0 0 [] [] [] [])))
 (Node.kids (nth x23 x25 (Vi.Node.mk 0 0 [] [] [] [])))],
 ())
 else Rg IntKind.i64 (x22 + 1) ∧ K0 (x20, x21, x22 + 1, x26, x27, x28, x29, x210, x211, x212, x213, x214, ())
def filter_filter_nodes.L3 (K0 : List Vi.Node ×
 Int × Int × List (List UInt8 × Int × List (List UInt8) × List (List UInt8)) × List (List UInt8) × Int × Int × Int × Int × Int × Int × List Vi.Node × Unit →
 Prop) (x30 : List
 Vi.Node) (x31 : Int) (x32 : Int) (x33 : List
 Vi.Node) (x34 : Int) (x35 : Int) (x36 : List
 (List UInt8 ×
 Int ×
 List (List UInt8) ×
 List
 (List
 UInt8))) (x37 : List
 (List
 UInt8)) (x38 : Int) (x39 : Int) (x310 : Int) (x311 : Int) (x312 : Int) (x313 : Int) (x314 : List
 Vi.Node) (K3 : List Vi.Node ×
 Int × Int × List Vi.Node × Int × Int × List (List UInt8 × Int × List (List UInt8) × List (List UInt8)) × List (List UInt8) × Int × Int × Int × Int × Int × Int × List Vi.Node × Unit →
 Prop) : Prop :=
 bif decide (x35 < x34) then
 Ix x35 x33.length ∧
 Rg IntKind.i64 ((↑x314.length : Int) - 1) ∧
 bif decide (0 ≤ (↑x314.length : Int) - 1) then
 bif decide (Vi.Node.kind (nth x33 x35 (Vi.Node.mk 0 0 [] [] [] [])) = 2) then
 Ix ((↑x314.length : Int) - 1) x314.length ∧
 bif decide (Vi.Node.kind (nth x314 ((↑x314.length : Int) - 1) (Vi.Node.mk 0 0 [] [] [] [])) = 2) then
 Ix ((↑x314.length : Int) - 1) x314.length ∧
 (↑(List.length (Node.text (nth x314 ((↑x314.length : Int) - 1) (Vi.Node.mk 0 0 [] [] [] [])))) : Int) +
 (↑(List.length (Node.text (nth x33 x35 (Vi.Node.mk 0 0 [] [] [] [])))) : Int) ≤
 9223372036854775807 ∧
 Ix ((↑x314.length : Int) - 1) x314.length ∧
 Rg IntKind.i64 (x35 + 1) ∧
 K3
 (x30, x31, x32, x33, x34, x35 + 1, x36, x37, x38, x39, x310, x311, x312, x313,
 x314.set ((↑x314.length : Int) - 1).toNat
 (Vi.Node.mk (Vi.Node.kind (nth x314 ((↑x314.length : Int) - 1) (Vi.Node.mk 0 0 [] [] [] [])))
 (Node.space (nth x314 ((↑x314.length : Int) - 1) (Vi.Node.mk 0 0 [] [] [] []))) (Node.name (nth x314 ((↑x314.length : Int) - 1) (Vi.Node.mk 0 0 [] [] [] [])))
 (Node.attrs (nth x314 ((↑x314.length : Int) - 1) (Vi.Node.mk 0 0 [] [] [] [])))
 (Node.text (nth x314 ((↑x314.length : Int) - 1) (Vi.Node.mk 0 0 [] [] [] [])) ++ Node.text (nth x33 x35 (Vi.Node.mk 0 0 [] [] [] [])))
 (Node.kids (nth x314 ((↑x314.length : Int) - 1) (Vi.Node.mk 0 0 [] [] [] [])))),
 ())
 else
 Gr x314.length 1 96 ∧
 Rg IntKind.i64 (x35 + 1) ∧
 K3
 (x30, x31, x32, x33, x34, x35 + 1, x36, x37, x38, x39, x310, x311, x312, x313,
 x314 ++
 [Vi.Node.mk (Vi.Node.kind (nth x33 x35 (Vi.Node.mk 0 0 [] [] [] []))) (Node.space (nth x33 x35 (Vi.Node.mk 0 0 [] [] [] [])))
 (Node.name (nth x33 x35 (Vi.Node.mk 0 0 [] [] [] []))) (Node.attrs (nth x33 x35 (Vi.Node.mk 0 0 [] [] [] [])))
 (Node.text (nth x33 x35 (Vi.Node.mk 0 0 [] [] [] []))) (Node.kids (nth x33 x35 (Vi.Node.mk 0 0 [] [] [] [])))],
 ())
 else
 Gr x314.length 1 96 ∧
 Rg IntKind.i64 (x35 + 1) ∧
 K3
 (x30, x31, x32, x33, x34, x35 + 1, x36, x37, x38, x39, x310, x311, x312, x313,
 x314 ++
 [Vi.Node.mk (Vi.Node.kind (nth x33 x35 (Vi.Node.mk 0 0 [] [] [] []))) (Node.space (nth x33 x35 (Vi.Node.mk 0 0 [] [] [] [])))
 (Node.name (nth x33 x35 (Vi.Node.mk 0 0 [] [] [] []))) (Node.attrs (nth x33 x35 (Vi.Node.mk 0 0 [] [] [] [])))
 (Node.text (nth x33 x35 (Vi.Node.mk 0 0 [] [] [] []))) (Node.kids (nth x33 x35 (Vi.Node.mk 0 0 [] [] [] [])))],
 ())
 else
 Gr x314.length 1 96 ∧
 Rg IntKind.i64 (x35 + 1) ∧
 K3
 (x30, x31, x32, x33, x34, x35 + 1, x36, x37, x38, x39, x310, x311, x312, x313,
 x314 ++
 [Vi.Node.mk (Vi.Node.kind (nth x33 x35 (Vi.Node.mk 0 0 [] [] [] []))) (Node.space (nth x33 x35 (Vi.Node.mk 0 0 [] [] [] [])))
 (Node.name (nth x33 x35 (Vi.Node.mk 0 0 [] [] [] []))) (Node.attrs (nth x33 x35 (Vi.Node.mk 0 0 [] [] [] []))) (Node.text (nth x33 x35 (Vi.Node.mk 0 0 [] [] [] [])))
 (Node.kids (nth x33 x35 (Vi.Node.mk 0 0 [] [] [] [])))],
 ())
 else Rg IntKind.i64 (x32 + 1) ∧ K0 (x30, x31, x32 + 1, x36, x37, x38, x39, x310, x311, x312, x313, x314, ())
def filter_filter_nodes.L0 (nn : Nat) (R : List Vi.Node →
 List (List UInt8 × Int × List (List UInt8) × List (List UInt8)) →
 List (List UInt8) →
 Int →
 Int →
 Int →
 Int →
 Int →
 Int →
 Prop) (t11 : List
 Vi.Node) (t12 : Int) (t13 : Int) (rules : List
 (List UInt8 ×
 Int ×
 List (List UInt8) ×
 List
 (List
 UInt8))) (schemes : List
 (List
 UInt8)) (others : Int) (strange : Int) (dr : Int) (op : Int) (at_ : Int) (ot : Int) (out : List
 Vi.Node) (K0 : List Vi.Node × Int × Int × List (List UInt8 × Int × List (List UInt8) × List (List UInt8)) × List (List UInt8) × Int × Int × Int × Int × Int × Int × List Vi.Node × Unit →
 Prop) : Prop :=
 bif decide (t13 < t12) then
 Ix t13 t11.length ∧
 bif
 decide
 ((Vi.Node.mk (Vi.Node.kind (nth t11 t13 (Vi.Node.mk 0 0 [] [] [] []))) (Node.space (nth t11 t13 (Vi.Node.mk 0 0 [] [] [] [])))
 (Node.name (nth t11 t13 (Vi.Node.mk 0 0 [] [] [] []))) (Node.attrs (nth t11 t13 (Vi.Node.mk 0 0 [] [] [] []))) (Node.text (nth t11 t13 (Vi.Node.mk 0 0 [] [] [] [])))
 (Node.kids (nth t11 t13 (Vi.Node.mk 0 0 [] [] [] [])))).kind =
 1) then
 (Sp.fOkE (rules, schemes, others, strange) (dr, op, at_, ot)
 (Vi.Node.mk (Vi.Node.kind (nth t11 t13 (Vi.Node.mk 0 0 [] [] [] []))) (Node.space (nth t11 t13 (Vi.Node.mk 0 0 [] [] [] [])))
 (Node.name (nth t11 t13 (Vi.Node.mk 0 0 [] [] [] []))) (Node.attrs (nth t11 t13 (Vi.Node.mk 0 0 [] [] [] []))) (Node.text (nth t11 t13 (Vi.Node.mk 0 0 [] [] [] [])))
 (Node.kids (nth t11 t13 (Vi.Node.mk 0 0 [] [] [] [])))) ∧
 Sp.mEl
 (Vi.Node.mk (Vi.Node.kind (nth t11 t13 (Vi.Node.mk 0 0 [] [] [] []))) (Node.space (nth t11 t13 (Vi.Node.mk 0 0 [] [] [] [])))
 (Node.name (nth t11 t13 (Vi.Node.mk 0 0 [] [] [] []))) (Node.attrs (nth t11 t13 (Vi.Node.mk 0 0 [] [] [] []))) (Node.text (nth t11 t13 (Vi.Node.mk 0 0 [] [] [] [])))
 (Node.kids (nth t11 t13 (Vi.Node.mk 0 0 [] [] [] []))))
 rules schemes others strange dr op at_ ot <
 nn) ∧
 Lp
 (fun v K =>
 filter_filter_nodes.L1 K0 v.fst v.snd.fst v.snd.snd.fst v.snd.snd.snd.fst v.snd.snd.snd.snd.fst v.snd.snd.snd.snd.snd.fst v.snd.snd.snd.snd.snd.snd.fst
 v.snd.snd.snd.snd.snd.snd.snd.fst v.snd.snd.snd.snd.snd.snd.snd.snd.fst v.snd.snd.snd.snd.snd.snd.snd.snd.snd.fst v.snd.snd.snd.snd.snd.snd.snd.snd.snd.snd.fst
 v.snd.snd.snd.snd.snd.snd.snd.snd.snd.snd.snd.fst v.snd.snd.snd.snd.snd.snd.snd.snd.snd.snd.snd.snd.fst v.snd.snd.snd.snd.snd.snd.snd.snd.snd.snd.snd.snd.snd.fst
 v.snd.snd.snd.snd.snd.snd.snd.snd.snd.snd.snd.snd.snd.snd.fst K)
 (t11, t12, t13,
 Sp.elF (rules, schemes, others, strange)
 (Vi.Node.mk (Vi.Node.kind (nth t11 t13 (Vi.Node.mk 0 0 [] [] [] []))) (Node.space (nth t11 t13 (Vi.Node.mk 0 0 [] [] [] [])))
 (Node.name (nth t11 t13 (Vi.Node.mk 0 0 [] [] [] []))) (Node.attrs (nth t11 t13 (Vi.Node.mk 0 0 [] [] [] []))) (Node.text (nth t11 t13 (Vi.Node.mk 0 0 [] [] [] [])))
 (Node.kids (nth t11 t13 (Vi.Node.mk 0 0 [] [] [] [])))),
 (↑(Sp.elF (rules, schemes, others, strange)
 (Vi.Node.mk (Vi.Node.kind (nth t11 t13 (Vi.Node.mk 0 0 [] [] [] []))) (Node.space (nth t11 t13 (Vi.Node.mk 0 0 [] [] [] [])))
 (Node.name (nth t11 t13 (Vi.Node.mk 0 0 [] [] [] []))) (Node.attrs (nth t11 t13 (Vi.Node.mk 0 0 [] [] [] []))) (Node.text (nth t11 t13 (Vi.Node.mk 0 0 [] [] [] [])))
 (Node.kids (nth t11 t13 (Vi.Node.mk 0 0 [] [] [] []))))).length :
 Int),
 0, rules, schemes, others, strange,
 (Sp.lostN (rules, schemes, others, strange) (dr, op, at_, ot)
 (Vi.Node.mk (Vi.Node.kind (nth t11 t13 (Vi.Node.mk 0 0 [] [] [] []))) (Node.space (nth t11 t13 (Vi.Node.mk 0 0 [] [] [] [])))
 (Node.name (nth t11 t13 (Vi.Node.mk 0 0 [] [] [] []))) (Node.attrs (nth t11 t13 (Vi.Node.mk 0 0 [] [] [] []))) (Node.text (nth t11 t13 (Vi.Node.mk 0 0 [] [] [] [])))
 (Node.kids (nth t11 t13 (Vi.Node.mk 0 0 [] [] [] []))))).fst,
 (Sp.lostN (rules, schemes, others, strange) (dr, op, at_, ot)
 (Vi.Node.mk (Vi.Node.kind (nth t11 t13 (Vi.Node.mk 0 0 [] [] [] []))) (Node.space (nth t11 t13 (Vi.Node.mk 0 0 [] [] [] [])))
 (Node.name (nth t11 t13 (Vi.Node.mk 0 0 [] [] [] []))) (Node.attrs (nth t11 t13 (Vi.Node.mk 0 0 [] [] [] []))) (Node.text (nth t11 t13 (Vi.Node.mk 0 0 [] [] [] [])))
 (Node.kids (nth t11 t13 (Vi.Node.mk 0 0 [] [] [] []))))).snd.fst,
 (Sp.lostN (rules, schemes, others, strange) (dr, op, at_, ot)
 (Vi.Node.mk (Vi.Node.kind (nth t11 t13 (Vi.Node.mk 0 0 [] [] [] []))) (Node.space (nth t11 t13 (Vi.Node.mk 0 0 [] [] [] [])))
 (Node.name (nth t11 t13 (Vi.Node.mk 0 0 [] [] [] []))) (Node.attrs (nth t11 t13 (Vi.Node.mk 0 0 [] [] [] []))) (Node.text (nth t11 t13 (Vi.Node.mk 0 0 [] [] [] [])))
 (Node.kids (nth t11 t13 (Vi.Node.mk 0 0 [] [] [] []))))).snd.snd.fst,
 (Sp.lostN (rules, schemes, others, strange) (dr, op, at_, ot)
 (Vi.Node.mk (Vi.Node.kind (nth t11 t13 (Vi.Node.mk 0 0 [] [] [] []))) (Node.space (nth t11 t13 (Vi.Node.mk 0 0 [] [] [] [])))
 (Node.name (nth t11 t13 (Vi.Node.mk 0 0 [] [] [] []))) (Node.attrs (nth t11 t13 (Vi.Node.mk 0 0 [] [] [] []))) (Node.text (nth t11 t13 (Vi.Node.mk 0 0 [] [] [] [])))
 (Node.kids (nth t11 t13 (Vi.Node.mk 0 0 [] [] [] []))))).snd.snd.snd,
 out, ())
 else
 bif
 decide
 ((Vi.Node.mk (Vi.Node.kind (nth t11 t13 (Vi.Node.mk 0 0 [] [] [] []))) (Node.space (nth t11 t13 (Vi.Node.mk 0 0 [] [] [] [])))
 (Node.name (nth t11 t13 (Vi.Node.mk 0 0 [] [] [] []))) (Node.attrs (nth t11 t13 (Vi.Node.mk 0 0 [] [] [] []))) (Node.text (nth t11 t13 (Vi.Node.mk 0 0 [] [] [] [])))
 (Node.kids (nth t11 t13 (Vi.Node.mk 0 0 [] [] [] [])))).kind =
 2) then
 Sp.textF.pre
 (Vi.Node.mk (Vi.Node.kind (nth t11 t13 (Vi.Node.mk 0 0 [] [] [] []))) (Node.space (nth t11 t13 (Vi.Node.mk 0 0 [] [] [] [])))
 (Node.name (nth t11 t13 (Vi.Node.mk 0 0 [] [] [] []))) (Node.attrs (nth t11 t13 (Vi.Node.mk 0 0 [] [] [] []))) (Node.text (nth t11 t13 (Vi.Node.mk 0 0 [] [] [] [])))
 (Node.kids (nth t11 t13 (Vi.Node.mk 0 0 [] [] [] [])))) ∧
 Lp
 (fun v K =>
 filter_filter_nodes.L2 K0 v.fst v.snd.fst v.snd.snd.fst v.snd.snd.snd.fst v.snd.snd.snd.snd.fst v.snd.snd.snd.snd.snd.fst v.snd.snd.snd.snd.snd.snd.fst
 v.snd.snd.snd.snd.snd.snd.snd.fst v.snd.snd.snd.snd.snd.snd.snd.snd.fst v.snd.snd.snd.snd.snd.snd.snd.snd.snd.fst v.snd.snd.snd.snd.snd.snd.snd.snd.snd.snd.fst
 v.snd.snd.snd.snd.snd.snd.snd.snd.snd.snd.snd.fst v.snd.snd.snd.snd.snd.snd.snd.snd.snd.snd.snd.snd.fst v.snd.snd.snd.snd.snd.snd.snd.snd.snd.snd.snd.snd.snd.fst
 v.snd.snd.snd.snd.snd.snd.snd.snd.snd.snd.snd.snd.snd.snd.fst K)
 (t11, t12, t13,
 Sp.textF
 (Vi.Node.mk (Vi.Node.kind (nth t11 t13 (Vi.Node.mk 0 0 [] [] [] []))) (Node.space (nth t11 t13 (Vi.Node.mk 0 0 [] [] [] [])))
 (Node.name (nth t11 t13 (Vi.Node.mk 0 0 [] [] [] []))) (Node.attrs (nth t11 t13 (Vi.Node.mk 0 0 [] [] [] []))) (Node.text (nth t11 t13 (Vi.Node.mk 0 0 [] [] [] [])))
 (Node.kids (nth t11 t13 (Vi.Node.mk 0 0 [] [] [] [])))),
 (↑(Sp.textF
 (Vi.Node.mk (Vi.Node.kind (nth t11 t13 (Vi.Node.mk 0 0 [] [] [] []))) (Node.space (nth t11 t13 (Vi.Node.mk 0 0 [] [] [] [])))
 (Node.name (nth t11 t13 (Vi.Node.mk 0 0 [] [] [] []))) (Node.attrs (nth t11 t13 (Vi.Node.mk 0 0 [] [] [] [])))
 (Node.text (nth t11 t13 (Vi.Node.mk 0 0 [] [] [] []))) (Node.kids (nth t11 t13 (Vi.Node.mk 0 0 [] [] [] []))))).length :
 Int),
 0, rules, schemes, others, strange, dr, op, at_, ot, out, ())
 else
 Sp.lostOk (dr, op, at_, ot) ∧
 Lp
 (fun v K =>
 filter_filter_nodes.L3 K0 v.fst v.snd.fst v.snd.snd.fst v.snd.snd.snd.fst v.snd.snd.snd.snd.fst v.snd.snd.snd.snd.snd.fst v.snd.snd.snd.snd.snd.snd.fst
 v.snd.snd.snd.snd.snd.snd.snd.fst v.snd.snd.snd.snd.snd.snd.snd.snd.fst v.snd.snd.snd.snd.snd.snd.snd.snd.snd.fst v.snd.snd.snd.snd.snd.snd.snd.snd.snd.snd.fst
 v.snd.snd.snd.snd.snd.snd.snd.snd.snd.snd.snd.fst v.snd.snd.snd.snd.snd.snd.snd.snd.snd.snd.snd.snd.fst v.snd.snd.snd.snd.snd.snd.snd.snd.snd.snd.snd.snd.snd.fst
 v.snd.snd.snd.snd.snd.snd.snd.snd.snd.snd.snd.snd.snd.snd.fst K)
 (t11, t12, t13, [], (↑0 : Int), 0, rules, schemes, others, strange, dr, op, at_, ot + 1, out, ())
 else R out rules schemes others strange dr op at_ ot
def filter_filter_nodes.vc (R : List Vi.Node →
 List (List UInt8 × Int × List (List UInt8) × List (List UInt8)) →
 List (List UInt8) →
 Int →
 Int →
 Int →
 Int →
 Int →
 Int →
 Prop) (nn : Nat) (l : List
 Vi.Node) (rules : List (Str × Int × List Str × List Str)) (schemes : List Str) (others : Int) (strange : Int) (dr : Int) (op : Int) (at_ : Int) (ot : Int) : Prop :=
 Lp
 (fun v K =>
 filter_filter_nodes.L0 nn R v.fst v.snd.fst v.snd.snd.fst v.snd.snd.snd.fst v.snd.snd.snd.snd.fst v.snd.snd.snd.snd.snd.fst v.snd.snd.snd.snd.snd.snd.fst
 v.snd.snd.snd.snd.snd.snd.snd.fst v.snd.snd.snd.snd.snd.snd.snd.snd.fst v.snd.snd.snd.snd.snd.snd.snd.snd.snd.fst v.snd.snd.snd.snd.snd.snd.snd.snd.snd.snd.fst
 v.snd.snd.snd.snd.snd.snd.snd.snd.snd.snd.snd.fst K)
 (l, (↑l.length : Int), 0, rules, schemes, others, strange, dr, op, at_, ot, [], ())

def filter_run.vc (R : List Vi.Node → Int × Int × Int × Int → Int → Prop) (p : List (Str × Int × List Str × List Str) × List Str × Int × Int) (l : List Vi.Node) : Prop :=
 Sp.polOkk p ∧ bif !decide (Sp.checkP p = 0) then R [] (0, 0, 0, 0) (Sp.checkP p) else Sp.fOkL p (0, 0, 0, 0) l ∧ R (Sp.nsF p l) (Sp.lostL p (0, 0, 0, 0) l) 0

def filter_Nodes.vc (R : List Vi.Node → Int → Prop) (p : List (Str × Int × List Str × List Str) × List Str × Int × Int) (l : List Vi.Node) : Prop :=
 Sp.runOk p l ∧ R (Sp.runF p l).fst (Sp.runF p l).snd.snd

def filter_Count.vc (R : Int × Int × Int × Int → Int → Prop) (p : List (Str × Int × List Str × List Str) × List Str × Int × Int) (l : List Vi.Node) : Prop :=
 Sp.runOk p l ∧ R (Sp.runF p l).snd.fst (Sp.runF p l).snd.snd

def tree_Words_1.vc (R : List Int → Prop) (n : Vi.Node) (d : Int) (x : List Int) : Prop :=
 bif decide (n.kind = 2) then Sp.wr.pre x n.text ∧ R (Sp.wr x n.text) else R x

def tree_each.L0 (nn : Nat) (R : List Int →
 Prop) (depth : Int) (t8 : List Vi.Node) (t9 : Int) (t10 : Int) (x : List Int) (K0 : Int × List Vi.Node × Int × Int × List Int × Unit → Prop) : Prop :=
 bif decide (t10 < t9) then
 Ix t10 t8.length ∧
 Sp.wordX.pre
 (Vi.Node.mk (Vi.Node.kind (nth t8 t10 (Vi.Node.mk 0 0 [] [] [] []))) (Node.space (nth t8 t10 (Vi.Node.mk 0 0 [] [] [] []))) (Node.name (nth t8 t10 (Vi.Node.mk 0 0 [] [] [] [])))
 (Node.attrs (nth t8 t10 (Vi.Node.mk 0 0 [] [] [] []))) (Node.text (nth t8 t10 (Vi.Node.mk 0 0 [] [] [] []))) (Node.kids (nth t8 t10 (Vi.Node.mk 0 0 [] [] [] []))))
 x ∧
 Rg IntKind.i64 (depth + 1) ∧
 (Sp.eaOk (Node.kids (nth t8 t10 (Vi.Node.mk 0 0 [] [] [] []))) (depth + 1)
 (Sp.wordX
 (Vi.Node.mk (Vi.Node.kind (nth t8 t10 (Vi.Node.mk 0 0 [] [] [] []))) (Node.space (nth t8 t10 (Vi.Node.mk 0 0 [] [] [] [])))
 (Node.name (nth t8 t10 (Vi.Node.mk 0 0 [] [] [] []))) (Node.attrs (nth t8 t10 (Vi.Node.mk 0 0 [] [] [] []))) (Node.text (nth t8 t10 (Vi.Node.mk 0 0 [] [] [] [])))
 (Node.kids (nth t8 t10 (Vi.Node.mk 0 0 [] [] [] []))))
 x) ∧
 Sp.mEa (Node.kids (nth t8 t10 (Vi.Node.mk 0 0 [] [] [] []))) (depth + 1)
 (Sp.wordX
 (Vi.Node.mk (Vi.Node.kind (nth t8 t10 (Vi.Node.mk 0 0 [] [] [] []))) (Node.space (nth t8 t10 (Vi.Node.mk 0 0 [] [] [] [])))
 (Node.name (nth t8 t10 (Vi.Node.mk 0 0 [] [] [] []))) (Node.attrs (nth t8 t10 (Vi.Node.mk 0 0 [] [] [] []))) (Node.text (nth t8 t10 (Vi.Node.mk 0 0 [] [] [] [])))
 (Node.kids (nth t8 t10 (Vi.Node.mk 0 0 [] [] [] []))))
 x) <
 nn) ∧
 Rg IntKind.i64 (t10 + 1) ∧
 K0
 (depth, t8, t9, t10 + 1,
 Sp.wr
 (Sp.wordX
 (Vi.Node.mk (Vi.Node.kind (nth t8 t10 (Vi.Node.mk 0 0 [] [] [] []))) (Node.space (nth t8 t10 (Vi.Node.mk 0 0 [] [] [] [])))
 (Node.name (nth t8 t10 (Vi.Node.mk 0 0 [] [] [] []))) (Node.attrs (nth t8 t10 (Vi.Node.mk 0 0 [] [] [] []))) (Node.text (nth t8 t10 (Vi.Node.mk 0 0 [] [] [] [])))
 (Node.kids (nth t8 t10 (Vi.Node.mk 0 0 [] [] [] []))))
 x)
 (Sp.wordsL (Node.kids (nth t8 t10 (Vi.Node.mk 0 0 [] [] [] [])))),
 ())
 else R x
def tree_each.vc (R : List Int → Prop) (nn : Nat) (l : List Vi.Node) (d : Int) (x : List Int) : Prop :=
 Lp (fun v K => tree_each.L0 nn R v.fst v.snd.fst v.snd.snd.fst v.snd.snd.snd.fst v.snd.snd.snd.snd.fst K) (d, l, (↑l.length : Int), 0, x, ())

def tree_Words.vc (R : List UInt8 → Prop) (l : List Vi.Node) : Prop :=
 Sp.eaOk l 1 [] ∧ R (bytesOf (Sp.wr [] (Sp.wordsL l)))

def filter_Words.vc (R : List UInt8 → Int → Prop) (p : List (Str × Int × List Str × List Str) × List Str × Int × Int) (l : List Vi.Node) : Prop :=
 Sp.runOk p l ∧ Sp.woOk (Sp.runF p l).fst ∧ R (Sp.wordsL (Sp.runF p l).fst) (Sp.runF p l).snd.snd

def rectolaw17_large.L0 (R : Bool →
 Prop) (l : List
 Vi.Node) (t18 : List
 (List UInt8 ×
 Int ×
 List (List UInt8) ×
 List (List UInt8))) (t19 : Int) (t20 : Int) (K0 : List Vi.Node × List (List UInt8 × Int × List (List UInt8) × List (List UInt8)) × Int × Int × Unit → Prop) : Prop :=
 bif decide (t20 < t19) then
 Ix t20 t18.length ∧
 bif decide (30 < (↑(List.length (nth t18 t20 ([], 0, [], [])).snd.snd.fst) : Int)) then R true
 else
 bif decide (30 < (↑(List.length (nth t18 t20 ([], 0, [], [])).snd.snd.snd) : Int)) then R true
 else bif decide (200 < (↑(List.length (nth t18 t20 ([], 0, [], [])).fst) : Int)) then R true else Rg IntKind.i64 (t20 + 1) ∧ K0 (l, t18, t19, t20 + 1, ())
 else Sp.lg.pre l 1 400 ∧ R (Sp.lg l 1 400).fst
def rectolaw17_large.vc (R : Bool → Prop) (p : List (Str × Int × List Str × List Str) × List Str × Int × Int) (l : List Vi.Node) : Prop :=
 bif decide (80 < (↑(List.length p.fst) : Int)) then R true
 else
 bif decide (60 < (↑(List.length p.snd.fst) : Int)) then R true
 else Lp (fun v K => rectolaw17_large.L0 R v.fst v.snd.fst v.snd.snd.fst v.snd.snd.snd.fst K) (l, p.fst, (↑(List.length p.fst) : Int), 0, ())

def rectolaw17_font.vc (R : Bool → Prop) : Prop :=
 Sp.runOk Sp.plainP [Vi.Node.mk 1 0 [115, 99, 114, 105, 112, 116] [] [] [], Vi.Node.mk 2 0 [] [] [97] [], Vi.Node.mk 1 0 [102, 111, 110, 116] [] [] [Vi.Node.mk 2 0 [] [] [98] []]] ∧
 Sp.runOk Sp.plainP [Vi.Node.mk 1 0 [115, 99, 114, 105, 112, 116] [] [] [], Vi.Node.mk 2 0 [] [] [97] [], Vi.Node.mk 1 0 [102, 111, 110, 116] [] [] [Vi.Node.mk 2 0 [] [] [98] []]] ∧
 Ix 0 1 ∧ R true

def rectolaw17_bare.L0 (nn : Nat) (R : Bool → Prop) (t5 : List Vi.Node) (t6 : Int) (t7 : Int) (K0 : List Vi.Node × Int × Int × Unit → Prop) : Prop :=
 bif decide (t7 < t6) then
 Ix t7 t5.length ∧
 bif decide (Vi.Node.kind (nth t5 t7 (Vi.Node.mk 0 0 [] [] [] [])) = 1) then
 bif Sp.voidN (Node.name (nth t5 t7 (Vi.Node.mk 0 0 [] [] [] []))) then
 bif decide (0 < (↑(Node.kids (nth t5 t7 (Vi.Node.mk 0 0 [] [] [] []))).length : Int)) then R false
 else
 (Sp.prOk (Node.kids (nth t5 t7 (Vi.Node.mk 0 0 [] [] [] []))) ∧ Sp.mCt (Node.kids (nth t5 t7 (Vi.Node.mk 0 0 [] [] [] []))) < nn) ∧
 bif !Sp.bareL (Node.kids (nth t5 t7 (Vi.Node.mk 0 0 [] [] [] []))) then R false else Rg IntKind.i64 (t7 + 1) ∧ K0 (t5, t6, t7 + 1, ())
 else
 (Sp.prOk (Node.kids (nth t5 t7 (Vi.Node.mk 0 0 [] [] [] []))) ∧ Sp.mCt (Node.kids (nth t5 t7 (Vi.Node.mk 0 0 [] [] [] []))) < nn) ∧
 bif !Sp.bareL (Node.kids (nth t5 t7 (Vi.Node.mk 0 0 [] [] [] []))) then R false else Rg IntKind.i64 (t7 + 1) ∧ K0 (t5, t6, t7 + 1, ())
 else
 (Sp.prOk (Node.kids (nth t5 t7 (Vi.Node.mk 0 0 [] [] [] []))) ∧ Sp.mCt (Node.kids (nth t5 t7 (Vi.Node.mk 0 0 [] [] [] []))) < nn) ∧
 bif !Sp.bareL (Node.kids (nth t5 t7 (Vi.Node.mk 0 0 [] [] [] []))) then R false else Rg IntKind.i64 (t7 + 1) ∧ K0 (t5, t6, t7 + 1, ())
 else R true
def rectolaw17_bare.vc (R : Bool → Prop) (nn : Nat) (l : List Vi.Node) : Prop :=
 Lp (fun v K => rectolaw17_bare.L0 nn R v.fst v.snd.fst v.snd.snd.fst K) (l, (↑l.length : Int), 0, ())

def rectolaw17_FilterAllows.vc (R : Bool → Prop) (p : List (Str × Int × List Str × List Str) × List Str × Int × Int) (l : List Vi.Node) : Prop :=
 Sp.large17.pre p l ∧
 bif Sp.large17 p l then R Sp.tt
 else
 Sp.polOkk p ∧
 bif !decide (Sp.checkP p = 0) then R Sp.tt
 else
 Sp.runOk p l ∧
 Sp.runOk p (Sp.runF p l).fst ∧
 Sp.runOk p (Sp.runF p l).fst ∧
 bif decide ((Sp.runF p l).snd.snd = 0) then
 bif decide ((Sp.runF p (Sp.runF p l).fst).snd.snd = 0) then
 bif decide ((Sp.runF p (Sp.runF p l).fst).snd.snd = 0) then
 Sp.allowsP.pre p (Sp.runF p l).fst ∧
 bif Sp.allowsP p (Sp.runF p l).fst then
 Sp.eqNs.pre (Sp.runF p l).fst (Sp.runF p (Sp.runF p l).fst).fst ∧
 bif Sp.eqNs (Sp.runF p l).fst (Sp.runF p (Sp.runF p l).fst).fst then
 bif
 eqI (Sp.runF p (Sp.runF p l).fst).snd.fst.fst 0 &&
 (eqI (Sp.runF p (Sp.runF p l).fst).snd.fst.snd.fst 0 &&
 (eqI (Sp.runF p (Sp.runF p l).fst).snd.fst.snd.snd.fst 0 && eqI (Sp.runF p (Sp.runF p l).fst).snd.fst.snd.snd.snd 0)) then
 R Sp.tt
 else R false
 else R false
 else R false
 else R false
 else R false
 else R false

def rectolaw17_FilterStays.vc (R : Bool → Prop) (p : List (Str × Int × List Str × List Str) × List Str × Int × Int) (l : List Vi.Node) : Prop :=
 Sp.large17.pre p l ∧
 bif Sp.large17 p l then R Sp.tt
 else
 Sp.prOk l ∧
 bif !decide (Sp.chkP l = 0) then R Sp.tt
 else
 Sp.allowsP.pre p l ∧
 bif !Sp.allowsP p l then R Sp.tt
 else
 Sp.prOk l ∧
 bif !Sp.bareL l then R Sp.tt
 else Sp.runOk p l ∧ bif decide ((Sp.runF p l).snd.snd = 0) then Sp.eqNs.pre (Sp.runF p l).fst l ∧ bif Sp.eqNs (Sp.runF p l).fst l then R Sp.tt else R false else R false

def rectolaw17_FilterJoins.vc (R : Bool → Prop) (p : List (Str × Int × List Str × List Str) × List Str × Int × Int) (a : List Vi.Node) (b : List Vi.Node) : Prop :=
 Sp.large17.pre p a ∧
 bif Sp.large17 p a then R Sp.tt
 else
 Sp.large17.pre p b ∧
 bif Sp.large17 p b then R Sp.tt
 else
 Gr 0 a.length 96 ∧
 Gr a.length b.length 96 ∧
 Sp.runOkW p a ∧
 Sp.runOkW p b ∧
 Sp.runOkW p (a ++ b) ∧
 Sp.runOk p a ∧
 Sp.runOk p b ∧
 Sp.runOk p (a ++ b) ∧
 bif decide ((Sp.runF p a).snd.snd = (Sp.runF p b).snd.snd) then
 bif decide ((Sp.runF p b).snd.snd = (Sp.runF p (a ++ b)).snd.snd) then
 (↑(List.length (Sp.wordsL (Sp.runF p a).fst)) : Int) + (↑(List.length (Sp.wordsL (Sp.runF p b).fst)) : Int) ≤ 9223372036854775807 ∧
 bif decide (Sp.wordsL (Sp.runF p (a ++ b)).fst = Sp.wordsL (Sp.runF p a).fst ++ Sp.wordsL (Sp.runF p b).fst) then
 Rg IntKind.i64 ((Sp.runF p a).snd.fst.fst + (Sp.runF p b).snd.fst.fst) ∧
 Rg IntKind.i64 ((Sp.runF p a).snd.fst.snd.fst + (Sp.runF p b).snd.fst.snd.fst) ∧
 Rg IntKind.i64 ((Sp.runF p a).snd.fst.snd.snd.fst + (Sp.runF p b).snd.fst.snd.snd.fst) ∧
 Rg IntKind.i64 ((Sp.runF p a).snd.fst.snd.snd.snd + (Sp.runF p b).snd.fst.snd.snd.snd) ∧
 bif
 eqI (Sp.runF p (a ++ b)).snd.fst.fst ((Sp.runF p a).snd.fst.fst + (Sp.runF p b).snd.fst.fst) &&
 (eqI (Sp.runF p (a ++ b)).snd.fst.snd.fst ((Sp.runF p a).snd.fst.snd.fst + (Sp.runF p b).snd.fst.snd.fst) &&
 (eqI (Sp.runF p (a ++ b)).snd.fst.snd.snd.fst ((Sp.runF p a).snd.fst.snd.snd.fst + (Sp.runF p b).snd.fst.snd.snd.fst) &&
 eqI (Sp.runF p (a ++ b)).snd.fst.snd.snd.snd ((Sp.runF p a).snd.fst.snd.snd.snd + (Sp.runF p b).snd.fst.snd.snd.snd))) then
 R Sp.tt
 else R false
 else R false
 else R false
 else R false

