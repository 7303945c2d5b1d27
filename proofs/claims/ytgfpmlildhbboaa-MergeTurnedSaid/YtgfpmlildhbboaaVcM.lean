/- Conditions of functions. Written by a program of this session. -/
import Derived.Test.YtgfpmlildhbboaaSpM
set_option linter.unnecessarySimpa false
set_option linter.unusedVariables false
set_option linter.unusedSectionVars false
set_option linter.unusedSimpArgs false
set_option autoImplicit false
set_option linter.unusedVariables false
open Go Vi

def strings_Builder_WriteString.vc (R : Int → List Int → Prop) (s : Str) (x : List Int) : Prop :=
  Gr x.length (List.map (fun b => (↑b.toNat : Int)) s).length 1 ∧ R (↑(List.length s) : Int) (x ++ List.map (fun b => (↑b.toNat : Int)) s)

def strings_Builder_String.vc (R : List UInt8 → Prop) (x : List Int) : Prop :=
  (↑x.length : Int) = (↑x.length : Int) ∧ R (bytesOf x)

def keys_digits.vc (R : List UInt8 → Prop) (nn : Nat) (n : Int) : Prop :=
  bif decide (n < 0) then
    Rg IntKind.i64 (cpl n) ∧ (Sp.dgs.pre (cpl n) ∧ Sp.dgm (cpl n) < nn) ∧ (↑1 : Int) + (↑(List.length (Sp.dgs (cpl n))) : Int) ≤ 9223372036854775807 ∧ R (45 :: Sp.dgs (cpl n))
  else
    bif decide (n < 10) then Rg IntKind.i64 (48 + n) ∧ R (bytesOf [IntKind.u8.wrap (48 + n), 46])
    else
      Dv n 10 ∧
        (Sp.dgs.pre (n / 10) ∧ Sp.dgm (n / 10) < nn) ∧
          Rg IntKind.i64 ((↑(List.length (Sp.dgs (n / 10))) : Int) - 1) ∧
            Sb 0 ((↑(List.length (Sp.dgs (n / 10))) : Int) - 1) (List.length (Sp.dgs (n / 10))) ∧
              Dv n 10 ∧
                Rg IntKind.i64 (48 + n % 10) ∧
                  (↑(sub (Sp.dgs (n / 10)) 0 ((↑(List.length (Sp.dgs (n / 10))) : Int) - 1)).length : Int) + (↑(List.length (bytesOf [IntKind.u8.wrap (48 + n % 10), 46])) : Int) ≤
                      9223372036854775807 ∧
                    R (sub (Sp.dgs (n / 10)) 0 ((↑(List.length (Sp.dgs (n / 10))) : Int) - 1) ++ bytesOf [IntKind.u8.wrap (48 + n % 10), 46])

def keys_text.vc (R : List UInt8 → Prop) (s : Str) : Prop :=
  Sp.dgs.pre (↑(List.length s) : Int) ∧ (↑(List.length (Sp.dgs (↑(List.length s) : Int))) : Int) + (↑(List.length s) : Int) ≤ 9223372036854775807 ∧ R (Sp.dgs (↑(List.length s) : Int) ++ s)

def keys_Label.vc (R : List UInt8 → Prop) (n : Vi.Node) : Prop :=
  Sp.dgs.pre n.kind ∧
    Sp.dgs.pre n.space ∧
      (↑(List.length (Sp.dgs n.kind)) : Int) + (↑(List.length (Sp.dgs n.space)) : Int) ≤ 9223372036854775807 ∧
        (↑(List.length (Sp.dgs n.kind ++ Sp.dgs n.space)) : Int) + (↑(List.length n.name) : Int) ≤ 9223372036854775807 ∧ R (Sp.dgs n.kind ++ Sp.dgs n.space ++ n.name)

def keys_Key.L1 (nn : Nat) (R : List UInt8 → Prop) (t51 : List Vi.Node) (t52 : Int) (t53 : Int) (out_buf : List Int) (K1 : List Vi.Node × Int × Int × List Int × Unit → Prop) : Prop :=
  bif decide (t53 < t52) then
    Ix t53 t51.length ∧
      (Sp.key.pre
            (Vi.Node.mk (Vi.Node.kind (nth t51 t53 (Vi.Node.mk 0 0 [] [] [] []))) (Node.space (nth t51 t53 (Vi.Node.mk 0 0 [] [] [] [])))
              (Node.name (nth t51 t53 (Vi.Node.mk 0 0 [] [] [] []))) (Node.attrs (nth t51 t53 (Vi.Node.mk 0 0 [] [] [] []))) (Node.text (nth t51 t53 (Vi.Node.mk 0 0 [] [] [] [])))
              (Node.kids (nth t51 t53 (Vi.Node.mk 0 0 [] [] [] [])))) ∧
          Sp.szN
              (Vi.Node.mk (Vi.Node.kind (nth t51 t53 (Vi.Node.mk 0 0 [] [] [] []))) (Node.space (nth t51 t53 (Vi.Node.mk 0 0 [] [] [] [])))
                (Node.name (nth t51 t53 (Vi.Node.mk 0 0 [] [] [] []))) (Node.attrs (nth t51 t53 (Vi.Node.mk 0 0 [] [] [] []))) (Node.text (nth t51 t53 (Vi.Node.mk 0 0 [] [] [] [])))
                (Node.kids (nth t51 t53 (Vi.Node.mk 0 0 [] [] [] [])))) <
            nn) ∧
        Sp.wr.pre out_buf
            (Sp.key
              (Vi.Node.mk (Vi.Node.kind (nth t51 t53 (Vi.Node.mk 0 0 [] [] [] []))) (Node.space (nth t51 t53 (Vi.Node.mk 0 0 [] [] [] [])))
                (Node.name (nth t51 t53 (Vi.Node.mk 0 0 [] [] [] []))) (Node.attrs (nth t51 t53 (Vi.Node.mk 0 0 [] [] [] []))) (Node.text (nth t51 t53 (Vi.Node.mk 0 0 [] [] [] [])))
                (Node.kids (nth t51 t53 (Vi.Node.mk 0 0 [] [] [] []))))) ∧
          Rg IntKind.i64 (t53 + 1) ∧
            K1
              (t51, t52, t53 + 1,
                Sp.wr out_buf
                  (Sp.key
                    (Vi.Node.mk (Vi.Node.kind (nth t51 t53 (Vi.Node.mk 0 0 [] [] [] []))) (Node.space (nth t51 t53 (Vi.Node.mk 0 0 [] [] [] [])))
                      (Node.name (nth t51 t53 (Vi.Node.mk 0 0 [] [] [] []))) (Node.attrs (nth t51 t53 (Vi.Node.mk 0 0 [] [] [] []))) (Node.text (nth t51 t53 (Vi.Node.mk 0 0 [] [] [] [])))
                      (Node.kids (nth t51 t53 (Vi.Node.mk 0 0 [] [] [] []))))),
                ())
  else R (bytesOf out_buf)
def keys_Key.L0 (nn : Nat) (R : List UInt8 →
  Prop) (t30 : List
  (List UInt8 ×
    List
      UInt8)) (t31 : Int) (t32 : Int) (n_Kind : Int) (n_Space : Int) (n_Name : List
  UInt8) (n_Attrs : List
  (List UInt8 ×
    List
      UInt8)) (n_Text : List
  UInt8) (n_Kids : List
  Vi.Node) (out_buf : List
  Int) (K0 : List (List UInt8 × List UInt8) × Int × Int × Int × Int × List UInt8 × List (List UInt8 × List UInt8) × List UInt8 × List Vi.Node × List Int × Unit → Prop) : Prop :=
  bif decide (t32 < t31) then
    Ix t32 t30.length ∧
      Sp.tx.pre (nth t30 t32 ([], [])).fst ∧
        Sp.tx.pre (nth t30 t32 ([], [])).snd ∧
          (↑(List.length (Sp.tx (nth t30 t32 ([], [])).fst)) : Int) + (↑(List.length (Sp.tx (nth t30 t32 ([], [])).snd)) : Int) ≤ 9223372036854775807 ∧
            Sp.wr.pre out_buf (Sp.tx (nth t30 t32 ([], [])).fst ++ Sp.tx (nth t30 t32 ([], [])).snd) ∧
              Rg IntKind.i64 (t32 + 1) ∧
                K0 (t30, t31, t32 + 1, n_Kind, n_Space, n_Name, n_Attrs, n_Text, n_Kids, Sp.wr out_buf (Sp.tx (nth t30 t32 ([], [])).fst ++ Sp.tx (nth t30 t32 ([], [])).snd), ())
  else
    Sp.dgs.pre (↑n_Kids.length : Int) ∧
      Sp.wr.pre out_buf (Sp.dgs (↑n_Kids.length : Int)) ∧
        Lp (fun v K => keys_Key.L1 nn R v.fst v.snd.fst v.snd.snd.fst v.snd.snd.snd.fst K) (n_Kids, (↑n_Kids.length : Int), 0, Sp.wr out_buf (Sp.dgs (↑n_Kids.length : Int)), ())
def keys_Key.vc (R : List UInt8 → Prop) (nn : Nat) (n : Vi.Node) : Prop :=
  Sp.dgs.pre n.kind ∧
    Sp.dgs.pre n.space ∧
      (↑(List.length (Sp.dgs n.kind)) : Int) + (↑(List.length (Sp.dgs n.space)) : Int) ≤ 9223372036854775807 ∧
        Sp.tx.pre n.name ∧
          (↑(List.length (Sp.dgs n.kind ++ Sp.dgs n.space)) : Int) + (↑(List.length (Sp.tx n.name)) : Int) ≤ 9223372036854775807 ∧
            Sp.tx.pre n.text ∧
              (↑(List.length (Sp.dgs n.kind ++ Sp.dgs n.space ++ Sp.tx n.name)) : Int) + (↑(List.length (Sp.tx n.text)) : Int) ≤ 9223372036854775807 ∧
                Sp.dgs.pre (↑n.attrs.length : Int) ∧
                  (↑(List.length (Sp.dgs n.kind ++ Sp.dgs n.space ++ Sp.tx n.name ++ Sp.tx n.text)) : Int) + (↑(List.length (Sp.dgs (↑n.attrs.length : Int))) : Int) ≤ 9223372036854775807 ∧
                    Sp.wr.pre [] (Sp.dgs n.kind ++ Sp.dgs n.space ++ Sp.tx n.name ++ Sp.tx n.text ++ Sp.dgs (↑n.attrs.length : Int)) ∧
                      Lp
                        (fun v K =>
                          keys_Key.L0 nn R v.fst v.snd.fst v.snd.snd.fst v.snd.snd.snd.fst v.snd.snd.snd.snd.fst v.snd.snd.snd.snd.snd.fst v.snd.snd.snd.snd.snd.snd.fst
                            v.snd.snd.snd.snd.snd.snd.snd.fst v.snd.snd.snd.snd.snd.snd.snd.snd.fst v.snd.snd.snd.snd.snd.snd.snd.snd.snd.fst K)
                        (n.attrs, (↑n.attrs.length : Int), 0, n.kind, n.space, n.name, n.attrs, n.text, n.kids,
                          Sp.wr [] (Sp.dgs n.kind ++ Sp.dgs n.space ++ Sp.tx n.name ++ Sp.tx n.text ++ Sp.dgs (↑n.attrs.length : Int)), ())

def match_texts_key.L0 (R : List (List UInt8) →
  Prop) (t8 : List Vi.Node) (t9 : Int) (t10 : Int) (out : List (List UInt8)) (K0 : List Vi.Node × Int × Int × List (List UInt8) × Unit → Prop) : Prop :=
  bif decide (t10 < t9) then
    Ix t10 t8.length ∧
      Sp.key.pre
          (Vi.Node.mk (Vi.Node.kind (nth t8 t10 (Vi.Node.mk 0 0 [] [] [] []))) (Node.space (nth t8 t10 (Vi.Node.mk 0 0 [] [] [] []))) (Node.name (nth t8 t10 (Vi.Node.mk 0 0 [] [] [] [])))
            (Node.attrs (nth t8 t10 (Vi.Node.mk 0 0 [] [] [] []))) (Node.text (nth t8 t10 (Vi.Node.mk 0 0 [] [] [] []))) (Node.kids (nth t8 t10 (Vi.Node.mk 0 0 [] [] [] [])))) ∧
        Gr out.length 1 16 ∧
          Rg IntKind.i64 (t10 + 1) ∧
            K0
              (t8, t9, t10 + 1,
                out ++
                  [Sp.key
                      (Vi.Node.mk (Vi.Node.kind (nth t8 t10 (Vi.Node.mk 0 0 [] [] [] []))) (Node.space (nth t8 t10 (Vi.Node.mk 0 0 [] [] [] [])))
                        (Node.name (nth t8 t10 (Vi.Node.mk 0 0 [] [] [] []))) (Node.attrs (nth t8 t10 (Vi.Node.mk 0 0 [] [] [] []))) (Node.text (nth t8 t10 (Vi.Node.mk 0 0 [] [] [] [])))
                        (Node.kids (nth t8 t10 (Vi.Node.mk 0 0 [] [] [] []))))],
                ())
  else R out
def match_texts_key.vc (R : List (List UInt8) → Prop) (l : List Vi.Node) : Prop :=
  Lp (fun v K => match_texts_key.L0 R v.fst v.snd.fst v.snd.snd.fst v.snd.snd.snd.fst K) (l, (↑l.length : Int), 0, [], ())

def match_texts_label.L0 (R : List (List UInt8) →
  Prop) (t8 : List Vi.Node) (t9 : Int) (t10 : Int) (out : List (List UInt8)) (K0 : List Vi.Node × Int × Int × List (List UInt8) × Unit → Prop) : Prop :=
  bif decide (t10 < t9) then
    Ix t10 t8.length ∧
      Sp.label.pre
          (Vi.Node.mk (Vi.Node.kind (nth t8 t10 (Vi.Node.mk 0 0 [] [] [] []))) (Node.space (nth t8 t10 (Vi.Node.mk 0 0 [] [] [] []))) (Node.name (nth t8 t10 (Vi.Node.mk 0 0 [] [] [] [])))
            (Node.attrs (nth t8 t10 (Vi.Node.mk 0 0 [] [] [] []))) (Node.text (nth t8 t10 (Vi.Node.mk 0 0 [] [] [] []))) (Node.kids (nth t8 t10 (Vi.Node.mk 0 0 [] [] [] [])))) ∧
        Gr out.length 1 16 ∧
          Rg IntKind.i64 (t10 + 1) ∧
            K0
              (t8, t9, t10 + 1,
                out ++
                  [Sp.label
                      (Vi.Node.mk (Vi.Node.kind (nth t8 t10 (Vi.Node.mk 0 0 [] [] [] []))) (Node.space (nth t8 t10 (Vi.Node.mk 0 0 [] [] [] [])))
                        (Node.name (nth t8 t10 (Vi.Node.mk 0 0 [] [] [] []))) (Node.attrs (nth t8 t10 (Vi.Node.mk 0 0 [] [] [] []))) (Node.text (nth t8 t10 (Vi.Node.mk 0 0 [] [] [] [])))
                        (Node.kids (nth t8 t10 (Vi.Node.mk 0 0 [] [] [] []))))],
                ())
  else R out
def match_texts_label.vc (R : List (List UInt8) → Prop) (l : List Vi.Node) : Prop :=
  Lp (fun v K => match_texts_label.L0 R v.fst v.snd.fst v.snd.snd.fst v.snd.snd.snd.fst K) (l, (↑l.length : Int), 0, [], ())

def match_gap_alike.L1 (K0 : List (List UInt8) × List (List UInt8) × Int × Int × Int × Int × Int × Int × List (Int × Int × Bool) × Unit →
  Prop) (a : List
  (List
    UInt8)) (b : List
  (List
    UInt8)) (from_ : Int) (i : Int) (j : Int) (g_a : Int) (g_b : Int) (g_toA : Int) (g_toB : Int) (out : List
  (Int × Int × Bool)) (K1 : List (List UInt8) × List (List UInt8) × Int × Int × Int × Int × Int × Int × Int × List (Int × Int × Bool) × Unit → Prop) : Prop :=
  bif decide (j < g_toB) then
    Ix i a.length ∧
      Ix j b.length ∧
        bif decide (nth a i [] = nth b j []) then
          Gr out.length 1 24 ∧ Rg IntKind.i64 (j + 1) ∧ Rg IntKind.i64 (i + 1) ∧ K0 (a, b, j + 1, i + 1, g_a, g_b, g_toA, g_toB, out ++ [(i, j, false)], ())
        else Rg IntKind.i64 (j + 1) ∧ K1 (a, b, from_, i, j + 1, g_a, g_b, g_toA, g_toB, out, ())
  else Rg IntKind.i64 (i + 1) ∧ K0 (a, b, from_, i + 1, g_a, g_b, g_toA, g_toB, out, ())
def match_gap_alike.L0 (R : List (Int × Int × Bool) →
  Prop) (a : List
  (List
    UInt8)) (b : List
  (List
    UInt8)) (from_ : Int) (i : Int) (g_a : Int) (g_b : Int) (g_toA : Int) (g_toB : Int) (out : List
  (Int × Int × Bool)) (K0 : List (List UInt8) × List (List UInt8) × Int × Int × Int × Int × Int × Int × List (Int × Int × Bool) × Unit → Prop) : Prop :=
  bif decide (i < g_toA) then
    Lp
      (fun v K =>
        match_gap_alike.L1 K0 v.fst v.snd.fst v.snd.snd.fst v.snd.snd.snd.fst v.snd.snd.snd.snd.fst v.snd.snd.snd.snd.snd.fst v.snd.snd.snd.snd.snd.snd.fst v.snd.snd.snd.snd.snd.snd.snd.fst
          v.snd.snd.snd.snd.snd.snd.snd.snd.fst v.snd.snd.snd.snd.snd.snd.snd.snd.snd.fst K)
      (a, b, from_, i, from_, g_a, g_b, g_toA, g_toB, out, ())
  else R out
def match_gap_alike.vc (R : List (Int × Int × Bool) → Prop) (g : Int × Int × Int × Int) (a : List Str) (b : List Str) : Prop :=
  Lp
    (fun v K =>
      match_gap_alike.L0 R v.fst v.snd.fst v.snd.snd.fst v.snd.snd.snd.fst v.snd.snd.snd.snd.fst v.snd.snd.snd.snd.snd.fst v.snd.snd.snd.snd.snd.snd.fst v.snd.snd.snd.snd.snd.snd.snd.fst
        v.snd.snd.snd.snd.snd.snd.snd.snd.fst K)
    (a, b, g.snd.fst, g.fst, g.fst, g.snd.fst, g.snd.snd.fst, g.snd.snd.snd, [], ())

def match_Lists.L0 (R : List (Int × Int × Bool) →
  Prop) (x : List
  (List
    UInt8)) (y : List
  (List
    UInt8)) (t30 : Int) (t31 : Int) (out : List
  (Int ×
    Int ×
      Bool)) (g_a : Int) (g_b : Int) (g_toA : Int) (g_toB : Int) (t29 : List
  (Int × Int × Bool)) (K0 : List (List UInt8) × List (List UInt8) × Int × Int × List (Int × Int × Bool) × Int × Int × Int × Int × List (Int × Int × Bool) × Unit → Prop) : Prop :=
  bif decide (t31 < t30) then
    Ix t31 t29.length ∧
      Sp.alike.pre (g_a, g_b, (nth t29 t31 (0, 0, false)).fst, (nth t29 t31 (0, 0, false)).snd.fst) x y ∧
        Gr out.length (Sp.alike (g_a, g_b, (nth t29 t31 (0, 0, false)).fst, (nth t29 t31 (0, 0, false)).snd.fst) x y).length 24 ∧
          Gr (out ++ Sp.alike (g_a, g_b, (nth t29 t31 (0, 0, false)).fst, (nth t29 t31 (0, 0, false)).snd.fst) x y).length 1 24 ∧
            Rg IntKind.i64 ((nth t29 t31 (0, 0, false)).fst + 1) ∧
              Rg IntKind.i64 ((nth t29 t31 (0, 0, false)).snd.fst + 1) ∧
                Rg IntKind.i64 (t31 + 1) ∧
                  K0
                    (x, y, t30, t31 + 1,
                      out ++ Sp.alike (g_a, g_b, (nth t29 t31 (0, 0, false)).fst, (nth t29 t31 (0, 0, false)).snd.fst) x y ++
                        [((nth t29 t31 (0, 0, false)).fst, (nth t29 t31 (0, 0, false)).snd.fst, (nth t29 t31 (0, 0, false)).snd.snd)],
                      (nth t29 t31 (0, 0, false)).fst + 1, (nth t29 t31 (0, 0, false)).snd.fst + 1, (nth t29 t31 (0, 0, false)).fst, (nth t29 t31 (0, 0, false)).snd.fst, t29, ())
  else Rg IntKind.i64 ((↑out.length : Int) - 1) ∧ Sb 0 ((↑out.length : Int) - 1) out.length ∧ R (List.take ((↑out.length : Int) - 1).toNat out)
def match_Lists.vc (R : List (Int × Int × Bool) → Prop) (a : List Vi.Node) (b : List Vi.Node) : Prop :=
  Sp.keysOf.pre a ∧
    Sp.keysOf.pre b ∧
      Sp.lines.pre (Sp.keysOf a) (Sp.keysOf b) ∧
        Sp.labelsOf.pre a ∧
          Sp.labelsOf.pre b ∧
            Gr (Sp.lines (Sp.keysOf a) (Sp.keysOf b)).length 1 24 ∧
              Lp
                (fun v K =>
                  match_Lists.L0 R v.fst v.snd.fst v.snd.snd.fst v.snd.snd.snd.fst v.snd.snd.snd.snd.fst v.snd.snd.snd.snd.snd.fst v.snd.snd.snd.snd.snd.snd.fst
                    v.snd.snd.snd.snd.snd.snd.snd.fst v.snd.snd.snd.snd.snd.snd.snd.snd.fst v.snd.snd.snd.snd.snd.snd.snd.snd.snd.fst K)
                (Sp.labelsOf a, Sp.labelsOf b, (↑(Sp.lines (Sp.keysOf a) (Sp.keysOf b) ++ [((↑a.length : Int), (↑b.length : Int), true)]).length : Int), 0, [], 0, 0, 0, 0,
                  Sp.lines (Sp.keysOf a) (Sp.keysOf b) ++ [((↑a.length : Int), (↑b.length : Int), true)], ())

def rectoplain_Attrs.L0 (R : Bool →
  Prop) (a : List
  (List UInt8 ×
    List UInt8)) (b : List (List UInt8 × List UInt8)) (t7 : Int) (t8 : Int) (K0 : List (List UInt8 × List UInt8) × List (List UInt8 × List UInt8) × Int × Int × Unit → Prop) : Prop :=
  bif decide (t8 < t7) then
    bif decide ((↑b.length : Int) ≤ t8) then R false
    else
      Ix t8 a.length ∧
        Ix t8 b.length ∧
          bif !(eqS (nth a t8 ([], [])).fst (nth b t8 ([], [])).fst && eqS (nth a t8 ([], [])).snd (nth b t8 ([], [])).snd) then R false
          else Rg IntKind.i64 (t8 + 1) ∧ K0 (a, b, t7, t8 + 1, ())
  else R (decide ((↑a.length : Int) = (↑b.length : Int)))
def rectoplain_Attrs.vc (R : Bool → Prop) (a : List (Str × Str)) (b : List (Str × Str)) : Prop :=
  Lp (fun v K => rectoplain_Attrs.L0 R v.fst v.snd.fst v.snd.snd.fst v.snd.snd.snd.fst K) (a, b, (↑a.length : Int), 0, ())

def rectoplain_Node.vc (R : Bool → Prop) (nn : Nat) (a : Vi.Node) (b : Vi.Node) : Prop :=
  bif decide (a.kind = b.kind) then
    bif decide (a.space = b.space) then
      bif decide (a.name = b.name) then
        bif decide (a.text = b.text) then
          Sp.eqAt.pre a.attrs b.attrs ∧ bif Sp.eqAt a.attrs b.attrs then (Sp.eqNs.pre a.kids b.kids ∧ Sp.mNs a.kids b.kids < nn) ∧ R (Sp.eqNs a.kids b.kids) else R false
        else R false
      else R false
    else R false
  else R false

def rectoplain_Nodes.L0 (nn : Nat) (R : Bool → Prop) (a : List Vi.Node) (b : List Vi.Node) (t7 : Int) (t8 : Int) (K0 : List Vi.Node × List Vi.Node × Int × Int × Unit → Prop) : Prop :=
  bif decide (t8 < t7) then
    bif decide ((↑b.length : Int) ≤ t8) then R false
    else
      Ix t8 a.length ∧
        Ix t8 b.length ∧
          (Sp.eqNd.pre (nth a t8 (Vi.Node.mk 0 0 [] [] [] [])) (nth b t8 (Vi.Node.mk 0 0 [] [] [] [])) ∧
              Sp.mNd (nth a t8 (Vi.Node.mk 0 0 [] [] [] [])) (nth b t8 (Vi.Node.mk 0 0 [] [] [] [])) < nn) ∧
            bif !Sp.eqNd (nth a t8 (Vi.Node.mk 0 0 [] [] [] [])) (nth b t8 (Vi.Node.mk 0 0 [] [] [] [])) then R false else Rg IntKind.i64 (t8 + 1) ∧ K0 (a, b, t7, t8 + 1, ())
  else R (decide ((↑a.length : Int) = (↑b.length : Int)))
def rectoplain_Nodes.vc (R : Bool → Prop) (nn : Nat) (a : List Vi.Node) (b : List Vi.Node) : Prop :=
  Lp (fun v K => rectoplain_Nodes.L0 nn R v.fst v.snd.fst v.snd.snd.fst v.snd.snd.snd.fst K) (a, b, (↑a.length : Int), 0, ())

def rectoplain_Large.L1 (nn : Nat) (R : Bool →
  Int →
    Prop) (K0 : Int × List Vi.Node × Int × Int × Int × Unit →
  Prop) (depth : Int) (t18 : List
  Vi.Node) (t19 : Int) (t20 : Int) (t72 : List
  (List UInt8 ×
    List
      UInt8)) (t73 : Int) (t74 : Int) (room : Int) (n_Kind : Int) (n_Space : Int) (n_Name : List
  UInt8) (n_Attrs : List
  (List UInt8 ×
    List
      UInt8)) (n_Text : List
  UInt8) (n_Kids : List
  Vi.Node) (K1 : Int ×
    List Vi.Node × Int × Int × List (List UInt8 × List UInt8) × Int × Int × Int × Int × Int × List UInt8 × List (List UInt8 × List UInt8) × List UInt8 × List Vi.Node × Unit →
  Prop) : Prop :=
  bif decide (t74 < t73) then
    Ix t74 t72.length ∧
      bif decide (100 < (↑(List.length (nth t72 t74 ([], [])).fst) : Int)) then R true room
      else
        bif decide (2000 < (↑(List.length (nth t72 t74 ([], [])).snd) : Int)) then R true room
        else Rg IntKind.i64 (t74 + 1) ∧ K1 (depth, t18, t19, t20, t72, t73, t74 + 1, room, n_Kind, n_Space, n_Name, n_Attrs, n_Text, n_Kids, ())
  else
    Rg IntKind.i64 (depth + 1) ∧
      (Sp.lg.pre n_Kids (depth + 1) room ∧ Sp.mLg n_Kids (depth + 1) room < nn) ∧
        bif (Sp.lg n_Kids (depth + 1) room).fst then R true (Sp.lg n_Kids (depth + 1) room).snd
        else Rg IntKind.i64 (t20 + 1) ∧ K0 (depth, t18, t19, t20 + 1, (Sp.lg n_Kids (depth + 1) room).snd, ())
def rectoplain_Large.L0 (nn : Nat) (R : Bool →
  Int → Prop) (depth : Int) (t18 : List Vi.Node) (t19 : Int) (t20 : Int) (room : Int) (K0 : Int × List Vi.Node × Int × Int × Int × Unit → Prop) : Prop :=
  bif decide (t20 < t19) then
    Ix t20 t18.length ∧
      Rg IntKind.i64 (room - 1) ∧
        bif decide (room - 1 < 0) then R true (room - 1)
        else
          bif decide (40 < (↑(Node.attrs (nth t18 t20 (Vi.Node.mk 0 0 [] [] [] []))).length : Int)) then R true (room - 1)
          else
            bif decide (5000 < (↑(List.length (Node.text (nth t18 t20 (Vi.Node.mk 0 0 [] [] [] [])))) : Int)) then R true (room - 1)
            else
              bif decide (100 < (↑(List.length (Node.name (nth t18 t20 (Vi.Node.mk 0 0 [] [] [] [])))) : Int)) then R true (room - 1)
              else
                Dv (↑(List.length (Node.text (nth t18 t20 (Vi.Node.mk 0 0 [] [] [] [])))) : Int) 16 ∧
                  Rg IntKind.i64 (room - 1 - (↑(List.length (Node.text (nth t18 t20 (Vi.Node.mk 0 0 [] [] [] [])))) : Int) / 16) ∧
                    Rg IntKind.i64
                        (room - 1 - (↑(List.length (Node.text (nth t18 t20 (Vi.Node.mk 0 0 [] [] [] [])))) : Int) / 16 -
                          (↑(Node.attrs (nth t18 t20 (Vi.Node.mk 0 0 [] [] [] []))).length : Int)) ∧
                      Lp
                        (fun v K =>
                          rectoplain_Large.L1 nn R K0 v.fst v.snd.fst v.snd.snd.fst v.snd.snd.snd.fst v.snd.snd.snd.snd.fst v.snd.snd.snd.snd.snd.fst v.snd.snd.snd.snd.snd.snd.fst
                            v.snd.snd.snd.snd.snd.snd.snd.fst v.snd.snd.snd.snd.snd.snd.snd.snd.fst v.snd.snd.snd.snd.snd.snd.snd.snd.snd.fst v.snd.snd.snd.snd.snd.snd.snd.snd.snd.snd.fst
                            v.snd.snd.snd.snd.snd.snd.snd.snd.snd.snd.snd.fst v.snd.snd.snd.snd.snd.snd.snd.snd.snd.snd.snd.snd.fst v.snd.snd.snd.snd.snd.snd.snd.snd.snd.snd.snd.snd.snd.fst
                            K)
                        (depth, t18, t19, t20, Node.attrs (nth t18 t20 (Vi.Node.mk 0 0 [] [] [] [])), (↑(Node.attrs (nth t18 t20 (Vi.Node.mk 0 0 [] [] [] []))).length : Int), 0,
                          room - 1 - (↑(List.length (Node.text (nth t18 t20 (Vi.Node.mk 0 0 [] [] [] [])))) : Int) / 16 -
                            (↑(Node.attrs (nth t18 t20 (Vi.Node.mk 0 0 [] [] [] []))).length : Int),
                          Vi.Node.kind (nth t18 t20 (Vi.Node.mk 0 0 [] [] [] [])), Node.space (nth t18 t20 (Vi.Node.mk 0 0 [] [] [] [])),
                          Node.name (nth t18 t20 (Vi.Node.mk 0 0 [] [] [] [])), Node.attrs (nth t18 t20 (Vi.Node.mk 0 0 [] [] [] [])), Node.text (nth t18 t20 (Vi.Node.mk 0 0 [] [] [] [])),
                          Node.kids (nth t18 t20 (Vi.Node.mk 0 0 [] [] [] [])), ())
  else R (decide (room < 0)) room
def rectoplain_Large.vc (R : Bool → Int → Prop) (nn : Nat) (l : List Vi.Node) (depth : Int) (room : Int) : Prop :=
  bif decide (60 < depth) then R true room
  else
    bif decide (500 < (↑l.length : Int)) then R true room
    else Lp (fun v K => rectoplain_Large.L0 nn R v.fst v.snd.fst v.snd.snd.fst v.snd.snd.snd.fst v.snd.snd.snd.snd.fst K) (depth, l, (↑l.length : Int), 0, room, ())
