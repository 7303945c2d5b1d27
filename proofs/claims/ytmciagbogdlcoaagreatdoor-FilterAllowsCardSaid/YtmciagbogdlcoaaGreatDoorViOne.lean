/- An abstract reading of the model of code: what is kept of a state, what an operation does to it, and that this is so. Plain definitions and theorems. -/
import Derived.Calls
import Derived.Scope
import Derived.Below
import Derived.Maps.AppendAt
import Derived.Deep.MidRow
import Derived.Laws.AppendOwn
import Derived.Laws.Strings
import Derived.Laws.BytesArg
set_option linter.unnecessarySimpa false
set_option linter.unusedVariables false
set_option linter.unusedSectionVars false
set_option linter.unusedSimpArgs false
set_option autoImplicit false
namespace Vi
open Go

abbrev Str := List UInt8

inductive Node : Type where
  | mk (kind space : Int) (name : Str) (attrs : List (Str × Str)) (text : Str) (kids : List Node)

namespace Node
def kind : Node → Int | mk k _ _ _ _ _ => k
def space : Node → Int | mk _ s _ _ _ _ => s
def name : Node → Str | mk _ _ n _ _ _ => n
def attrs : Node → List (Str × Str) | mk _ _ _ a _ _ => a
def text : Node → Str | mk _ _ _ _ t _ => t
def kids : Node → List Node | mk _ _ _ _ _ k => k
theorem eta (n : Node) : mk n.kind n.space n.name n.attrs n.text n.kids = n := by cases n; rfl
end Node

inductive Ty : Type where
  | int (k : IntKind) | bool | str
  | sl (t : Ty)
  | pair (a b : Ty)
  | one (t : Ty)
  | arr (n : Nat) (t : Ty)
  | node

def Ty.D : Ty → Type
  | .int _ => Int | .bool => Bool | .str => Str
  | .sl t => List t.D
  | .pair a b => a.D × b.D
  | .one t => t.D
  | .arr _ t => List t.D
  | .node => Node

def Ty.n : Ty → Nat
  | .int _ | .bool | .str | .sl _ => 1
  | .pair a b => a.n + b.n
  | .one t => t.n
  | .arr k t => k * t.n
  | .node => 6

def Ty.agg : Ty → Bool
  | .int _ | .bool | .str | .sl _ => false
  | _ => true

/-- What is laid in a fresh variable. -/
def Ty.zero : (t : Ty) → t.D
  | .int _ => (0 : Int) | .bool => false | .str => ([] : Str)
  | .sl t => ([] : List t.D)
  | .pair a b => (a.zero, b.zero)
  | .one t => t.zero
  | .arr k t => List.replicate k t.zero
  | .node => Node.mk 0 0 [] [] [] []

def kindEq : IntKind → IntKind → Bool
  | .i8, .i8 | .i16, .i16 | .i32, .i32 | .i64, .i64 | .u8, .u8 | .u16, .u16 | .u32, .u32 | .u64, .u64 => true
  | _, _ => false

theorem kindEq_sound {a b : IntKind} (h : kindEq a b = true) : a = b := by cases a <;> cases b <;> first | rfl | (simp [kindEq] at h)

def Ty.eq : Ty → Ty → Bool
  | .int k, .int k' => kindEq k k'
  | .bool, .bool | .str, .str | .node, .node => true
  | .sl t, .sl u => t.eq u
  | .pair a b, .pair c d => a.eq c && b.eq d
  | .one t, .one u => t.eq u
  | .arr k t, .arr l u => Nat.beq k l && t.eq u
  | _, _ => false

theorem Ty.eq_sound : ∀ {a b : Ty}, a.eq b = true → a = b := by
  intro a
  induction a with
  | int k => intro b h; cases b <;> simp [Ty.eq] at h; rw [kindEq_sound h]
  | bool => intro b h; cases b <;> simp [Ty.eq] at h ⊢
  | str => intro b h; cases b <;> simp [Ty.eq] at h ⊢
  | node => intro b h; cases b <;> simp [Ty.eq] at h ⊢
  | sl t ih => intro b h; cases b <;> simp [Ty.eq] at h; rw [ih h]
  | pair a b iha ihb => intro c h; cases c <;> simp [Ty.eq] at h; rw [iha h.1, ihb h.2]
  | one t ih => intro b h; cases b <;> simp [Ty.eq] at h; rw [ih h]
  | arr k t ih => intro b h; cases b <;> simp [Ty.eq] at h; rw [h.1, ih h.2]

theorem Ty.eq_refl : ∀ (a : Ty), a.eq a = true := by
  intro a
  induction a <;> simp_all [Ty.eq]
  rename_i k; cases k <;> rfl

/-- A value of one type as one of another: where the types are the same. -/
def cast? (t u : Ty) (x : t.D) : Option u.D :=
  match h : t.eq u with
  | true => some (Ty.eq_sound h ▸ x)
  | false => none

/-- One cell's value, as it is known. 'none': nothing is known. -/
inductive C : Type where
  | none
  | v (t : Ty) (x : t.D)
  | nils
  | nilp
  | nilf
  | ra (t : Ty) (x : t.D)
  | ptr (id off : Nat)
  | os (id : Nat)
  | oa (id : Nat) (i : Int) (off : Nat)
  | fn (f : Nat) (first caps : List Nat)
  | osi (id : Nat) (i : Int)
  | oai (id : Nat) (i j : Int) (off : Nat)
  /-- nil, or the box itself -/
  | pn (id : Nat)
  /-- where a row's bytes stand -/
  | sd (id : Nat)
  /-- a stretch of a row -/
  | wr (id : Nat) (a b : Int)
  /-- the first cells of an array in a row's element -/
  | we (id : Nat) (i : Int) (off k : Nat) (m : Int)
  /-- the first cells of an array in a box -/
  | wb (id off k : Nat) (m : Int)
  /-- a slice of so many elements: all of a box -/
  | sb (id k : Nat)

/-- A value: of one cell, a typed aggregate, an aggregate of cells. -/
inductive Q : Type where
  | ce (c : C)
  | ag (t : Ty) (x : t.D)
  | sc (l : List C)
  | un

/-- What a temporary holds. -/
inductive PV : Type where
  | one (q : Q)
  | tup (l : List Q)

inductive Entry : Type where
  | dead
  | box (t : Nat) (cells : List C)
  | row (e : Nat) (t : Ty) (xs : List t.D)
  | abox (t : Nat) (e : Ty) (xs : List e.D)
  | refs (e id2 n : Nat)
  | bun (e : Nat) (t : Ty) (xss : List (List t.D))

structure St where
  t : List (Nat × PV)
  h : List (Nat × Entry)
  n : Nat

def find {α : Type} (d : α) : List (Nat × α) → Nat → α
  | [], _ => d
  | (k, x) :: r, i => bif Nat.beq i k then x else find d r i

def St.tmp (s : St) (i : Nat) : PV := find (.one .un) s.t i
def St.ent (s : St) (i : Nat) : Entry := find .dead s.h i
end Vi

set_option autoImplicit false
namespace Vi
open Go

inductive Tree (α : Type) : Type where
  | ret (a : α)
  | fail
  | need (p : Prop) (k : Tree α)
  | br (b : Bool) (x y : Tree α)
  | get (id : Nat) (k : Entry → Tree α)

def Tree.wp {α : Type} (h : Nat → Entry) : Tree α → (α → Prop) → Prop
  | .ret a, K => K a
  | .fail, _ => False
  | .need p k, K => p ∧ k.wp h K
  | .br b x y, K => bif b then x.wp h K else y.wp h K
  | .get id k, K => (k (h id)).wp h K

/-- As 'wp', telling which entries were looked at. -/
def Tree.wpl {α : Type} (h : Nat → Entry) : Tree α → List Nat → (α → List Nat → Prop) → Prop
  | .ret a, l, K => K a l
  | .fail, _, _ => False
  | .need p k, l, K => p ∧ k.wpl h l K
  | .br b x y, l, K => bif b then x.wpl h l K else y.wpl h l K
  | .get id k, l, K => (k (h id)).wpl h (id :: l) K

def Tree.Sel {α : Type} (h : Nat → Entry) : Tree α → α → Prop
  | .ret a, r => a = r
  | .fail, _ => False
  | .need p k, r => p ∧ k.Sel h r
  | .br b x y, r => bif b then x.Sel h r else y.Sel h r
  | .get id k, r => (k (h id)).Sel h r

def Tree.bind {α β : Type} : Tree α → (α → Tree β) → Tree β
  | .ret a, f => f a
  | .fail, _ => .fail
  | .need p k, f => .need p (k.bind f)
  | .br b x y, f => .br b (x.bind f) (y.bind f)
  | .get id k, f => .get id fun e => (k e).bind f

/-! ### Cells and typed values -/

def unpackN {α : Type} (f : α → List C) (d : α) : Nat → List α → List C
  | 0, _ => []
  | k + 1, xs => f (xs.headD d) ++ unpackN f d k xs.tail

def unpack : (t : Ty) → t.D → List C
  | .int k, x => [.v (.int k) x]
  | .bool, x => [.v .bool x]
  | .str, x => [.v .str x]
  | .sl t, x => [.v (.sl t) x]
  | .pair a b, x => unpack a x.1 ++ unpack b x.2
  | .one t, x => unpack t x
  | .arr k t, xs => unpackN (unpack t) t.zero k xs
  | .node, n => [.v (.int .i64) n.kind, .v (.int .i64) n.space, .v .str n.name, .v (.sl (.pair .str .str)) n.attrs, .v .str n.text, .v (.sl .node) n.kids]

def Q.cells : Q → List C
  | .ce c => [c]
  | .ag t x => unpack t x
  | .sc l => l
  | .un => []

/-- One cell as a value of a type of one cell; what was own is own no more. -/
def sub {α : Type} (l : List α) (lo hi : Int) : List α := (l.take hi.toNat).drop lo.toNat
def pk1 {α : Type} (t : Ty) (c : C) (fz : List Nat) (k : t.D → List Nat → Tree α) : Tree α :=
  match c with
  | .v t' x => match cast? t' t x with
    | some y => k y fz
    | none => .fail
  | .nils => match cast? (.sl .bool) (.sl .bool) ([] : List Bool), t, k with
    | some _, .sl _, k => k [] fz
    | _, _, _ => .fail
  | .os id => .get id fun e => match e with
    | .row _ t' xs => match cast? (.sl t') t xs with
      | some y => k y (id :: fz)
      | none => .fail
    | _ => .fail
  | .wr id a b => .get id fun e => match e with
    | .row _ t' xs => match cast? (.sl t') t (sub xs a b) with
      | some y => k y (id :: fz)
      | none => .fail
    | _ => .fail
  | _ => .fail

def pkN {α δ : Type} (p : List C → List Nat → (δ → List C → List Nat → Tree α) → Tree α) : Nat → List C → List Nat → (List δ → List C → List Nat → Tree α) → Tree α
  | 0, cs, fz, k => k [] cs fz
  | n + 1, cs, fz, k => p cs fz fun x cs fz => pkN p n cs fz fun xs cs fz => k (x :: xs) cs fz

def pk {α : Type} : (t : Ty) → List C → List Nat → (t.D → List C → List Nat → Tree α) → Tree α
  | .pair a b, cs, fz, k => pk a cs fz fun x cs fz => pk b cs fz fun y cs fz => k (x, y) cs fz
  | .one t, cs, fz, k => pk t cs fz k
  | .arr n t, cs, fz, k => pkN (pk t) n cs fz k
  | .node, c0 :: c1 :: c2 :: c3 :: c4 :: c5 :: cs, fz, k =>
    pk1 (.int .i64) c0 fz fun x0 fz => pk1 (.int .i64) c1 fz fun x1 fz => pk1 .str c2 fz fun x2 fz => pk1 (.sl (.pair .str .str)) c3 fz fun x3 fz =>
    pk1 .str c4 fz fun x4 fz => pk1 (.sl .node) c5 fz fun x5 fz => k (Node.mk x0 x1 x2 x3 x4 x5) cs fz
  | .int i, c :: cs, fz, k => pk1 (.int i) c fz fun x fz => k x cs fz
  | .bool, c :: cs, fz, k => pk1 .bool c fz fun x fz => k x cs fz
  | .str, c :: cs, fz, k => pk1 .str c fz fun x fz => k x cs fz
  | .sl t, c :: cs, fz, k => pk1 (.sl t) c fz fun x fz => k x cs fz
  | _, _, _, _ => .fail

/-- A value as one of a type. -/
def pkQ {α : Type} (t : Ty) (q : Q) (fz : List Nat) (k : t.D → List Nat → Tree α) : Tree α :=
  match q with
  | .ag t' x => match cast? t' t x with
    | some y => k y fz
    | none => bif t.agg && Nat.beq t'.n t.n then pk t (unpack t' x) fz fun y _ fz => k y fz else .fail
  | .ce c => bif t.agg then .fail else pk t [c] fz fun y _ fz => k y fz
  | .sc l => bif t.agg && Nat.beq l.length t.n then pk t l fz fun y _ fz => k y fz else .fail
  | .un => .fail

def setNth {α : Type} (d : α) : Nat → α → List α → List α
  | 0, x, l => x :: l.tail
  | n + 1, x, l => l.headD d :: setNth d n x l.tail

/-- The part of a value that begins at a cell, and the value with another such part. -/
def lens : (t : Ty) → t.D → (off n : Nat) → (ag : Bool) → Option ((u : Ty) × (u.D × (u.D → t.D)))
  | .pair a b, x, off, n, ag =>
    bif Nat.beq off 0 && Nat.beq (a.n + b.n) n && ag then some ⟨.pair a b, x, fun y => y⟩
    else bif Nat.blt off a.n then (lens a x.1 off n ag).map fun ⟨u, g, s⟩ => ⟨u, g, fun y => (s y, x.2)⟩
    else (lens b x.2 (off - a.n) n ag).map fun ⟨u, g, s⟩ => ⟨u, g, fun y => (x.1, s y)⟩
  | .one t, x, off, n, ag =>
    bif Nat.beq off 0 && Nat.beq t.n n && ag then some ⟨.one t, x, fun y => y⟩ else lens t x off n ag
  | .arr k t, xs, off, n, ag =>
    bif Nat.beq off 0 && Nat.beq (k * t.n) n && ag then some ⟨.arr k t, xs, fun y => y⟩ else none
  | .node, x, off, n, ag =>
    bif Nat.beq n 6 && ag && Nat.beq off 0 then some ⟨.node, x, fun y => y⟩ else bif Nat.beq n 1 && !ag then
    match off with
    | 0 => some ⟨.int .i64, x.kind, fun y => Node.mk y x.space x.name x.attrs x.text x.kids⟩
    | 1 => some ⟨.int .i64, x.space, fun y => Node.mk x.kind y x.name x.attrs x.text x.kids⟩
    | 2 => some ⟨.str, x.name, fun y => Node.mk x.kind x.space y x.attrs x.text x.kids⟩
    | 3 => some ⟨.sl (.pair .str .str), x.attrs, fun y => Node.mk x.kind x.space x.name y x.text x.kids⟩
    | 4 => some ⟨.str, x.text, fun y => Node.mk x.kind x.space x.name x.attrs y x.kids⟩
    | 5 => some ⟨.sl .node, x.kids, fun y => Node.mk x.kind x.space x.name x.attrs x.text y⟩
    | _ => none
    else none
  | .int k, x, 0, 1, false => some ⟨.int k, x, fun y => y⟩
  | .bool, x, 0, 1, false => some ⟨.bool, x, fun y => y⟩
  | .str, x, 0, 1, false => some ⟨.str, x, fun y => y⟩
  | .sl t, x, 0, 1, false => some ⟨.sl t, x, fun y => y⟩
  | _, _, _, _, _ => none

def asQ (t : Ty) (x : t.D) : Q := bif t.agg then .ag t x else .ce (.v t x)

/-! ### Patterns -/

inductive K : Type where
  | z
  | v (t : Ty)
  | nils | nilp | nilf
  | ptr (j off : Nat)
  | os (j : Nat)
  | fn (f : Nat) (first caps : List Nat)
  | pn (j : Nat)
  | sb (j k : Nat)

inductive KQ : Type where
  | ce (k : K)
  | ag (t : Ty)
  | sc (l : List K)

inductive KE : Type where
  | box (t : Nat) (l : List K)
  | row (e : Nat) (t : Ty)
  | abox (t : Nat) (e : Ty)
  | refs (e j : Nat)
  | bun (e : Nat) (t : Ty)

structure Pat where
  slots : List (Nat × KQ)
  ents : List KE

def VT : List Ty → Type
  | [] => Unit
  | t :: r => t.D × VT r

def vsplit : (a : List Ty) → {b : List Ty} → VT (a ++ b) → VT a × VT b
  | [], _, v => ((), v)
  | _ :: r, _, v => ((v.1, (vsplit r v.2).1), (vsplit r v.2).2)

def vjoin : (a : List Ty) → {b : List Ty} → VT a → VT b → VT (a ++ b)
  | [], _, _, w => w
  | _ :: r, _, v, w => (v.1, vjoin r v.2 w)

def K.tys : K → List Ty
  | .v t => [t]
  | _ => []
def Ks.tys : List K → List Ty
  | [] => []
  | k :: r => k.tys ++ Ks.tys r
def KQ.tys : KQ → List Ty
  | .ce k => k.tys
  | .ag t => [t]
  | .sc l => Ks.tys l
def KE.tys : KE → List Ty
  | .box _ l => Ks.tys l
  | .row _ t => [.sl t]
  | .abox _ e => [.sl e]
  | .refs _ _ => [.int .i64]
  | .bun _ t => [.sl (.sl t)]
def natI (i : Int) : Nat := i.toNat
def slotTys : List (Nat × KQ) → List Ty
  | [] => []
  | (_, q) :: r => q.tys ++ slotTys r
def entTys : List KE → List Ty
  | [] => []
  | e :: r => e.tys ++ entTys r
def Pat.tys (p : Pat) : List Ty := slotTys p.slots ++ entTys p.ents
def Pat.V (p : Pat) : Type := VT p.tys

section
variable (ren : Nat → Nat)
def K.emb : (k : K) → VT k.tys → C
  | .z, _ => .none
  | .v t, x => .v t x.1
  | .nils, _ => .nils
  | .nilp, _ => .nilp
  | .nilf, _ => .nilf
  | .ptr j off, _ => .ptr (ren j) off
  | .os j, _ => .os (ren j)
  | .fn f a b, _ => .fn f (a.map ren) (b.map ren)
  | .pn j, _ => .pn (ren j)
  | .sb j k, _ => .sb (ren j) k
def Ks.emb : (l : List K) → VT (Ks.tys l) → List C
  | [], _ => []
  | k :: r, v => k.emb ren (vsplit k.tys v).1 :: Ks.emb r (vsplit k.tys v).2
def KQ.emb : (q : KQ) → VT q.tys → Q
  | .ce k, v => .ce (k.emb ren v)
  | .ag t, v => .ag t v.1
  | .sc l, v => .sc (Ks.emb ren l v)
def KE.emb : (e : KE) → VT e.tys → Entry
  | .box t l, v => .box t (Ks.emb ren l v)
  | .row e t, v => .row e t v.1
  | .abox t e, v => .abox t e v.1
  | .refs e j, v => .refs e (ren j) (natI v.1)
  | .bun e t, v => .bun e t v.1
def slotsEmb : (l : List (Nat × KQ)) → VT (slotTys l) → List (Nat × Q)
  | [], _ => []
  | (i, q) :: r, v => (i, q.emb ren (vsplit q.tys v).1) :: slotsEmb r (vsplit q.tys v).2
def entsEmb : Nat → (l : List KE) → VT (entTys l) → List (Nat × Entry)
  | _, [], _ => []
  | j, e :: r, v => (ren j, e.emb ren (vsplit e.tys v).1) :: entsEmb (j + 1) r (vsplit e.tys v).2
end

def Pat.st (p : Pat) (v : p.V) : St :=
  { t := (slotsEmb Nat.succ p.slots (vsplit (slotTys p.slots) v).1).map fun x => (x.1, .one x.2)
    h := entsEmb Nat.succ 0 p.ents (vsplit (slotTys p.slots) v).2
    n := p.ents.length + 1 }

def Entry.bx : Entry → Bool
  | .box _ _ => true
  | _ => false

structure Env where
  io : List (Nat × Nat)
  fz : List Nat

def has : List (Nat × Nat) → Nat → Option Nat
  | [], _ => none
  | (k, x) :: r, i => bif Nat.beq i k then some x else has r i

section
variable {α : Type}
def Env.put (g : Env) (j id : Nat) (k : Env → Tree α) : Tree α :=
  match has g.io j with
  | none => k { g with io := (j, id) :: g.io }
  | some id' => bif Nat.beq id id' then k g else .fail

def Env.puts (g : Env) : List Nat → List Nat → (Env → Tree α) → Tree α
  | [], [], k => k g
  | j :: js, id :: ids, k => g.put j id fun g => g.puts js ids k
  | _, _, _ => .fail

/-- A cell held against a pattern. 0 stands for the row of a nil sliceO1. -/
def K.ext (g : Env) : (k : K) → C → (VT k.tys → Env → Tree α) → Tree α
  | .z, _, k => k () g
  | .v t, c, k => bif t.agg then .fail else pk1 t c g.fz fun x fz => k (x, ()) { g with fz := fz }
  | .nils, .nils, k => k () g
  | .nilp, .nilp, k => k () g
  | .nilf, .nilf, k => k () g
  | .ptr j off, .ptr id off', k => bif Nat.beq off off' then g.put j id fun g => k () g else .fail
  | .os j, .os id, k => g.put j id fun g => k () g
  | .os j, .nils, k => g.put j 0 fun g => k () g
  | .fn f a b, .fn f' a' b', k => bif Nat.beq f f' then g.puts a a' fun g => g.puts b b' fun g => k () g else .fail
  | .pn j, .nilp, k => match has g.io j with
    | some id => .get id fun e => bif e.bx then k () g else .fail
    | none => .fail
  | .pn j, .pn id, k => g.put j id fun g => k () g
  | .pn j, .ptr id off, k => bif Nat.beq off 0 then g.put j id fun g => .get id fun e => bif e.bx then k () g else .fail else .fail
  | .sb j m, .sb id m', k => bif Nat.beq m m' then g.put j id fun g => k () g else .fail
  | _, _, _ => .fail

def Ks.ext (g : Env) : (l : List K) → List C → (VT (Ks.tys l) → Env → Tree α) → Tree α
  | [], [], k => k () g
  | x :: r, c :: cs, k => x.ext g c fun v g => Ks.ext g r cs fun w g => k (vjoin x.tys v w) g
  | _, _, _ => .fail

def KQ.ext (g : Env) : (q : KQ) → Q → (VT q.tys → Env → Tree α) → Tree α
  | .ce x, .ce c, k => x.ext g c k
  | .ag t, q, k => bif t.agg then pkQ t q g.fz fun x fz => k (x, ()) { g with fz := fz } else .fail
  | .sc l, .sc cs, k => Ks.ext g l cs k
  | .sc l, .ag t x, k => Ks.ext g l (unpack t x) k
  | _, _, _ => .fail

def KE.ext (g : Env) : (e : KE) → Entry → (VT e.tys → Env → Tree α) → Tree α
  | .box t l, .box t' cs, k => bif Nat.beq t t' then Ks.ext g l cs k else .fail
  | .row e t, .row e' t' xs, k => bif Nat.beq e e' then (match cast? (.sl t') (.sl t) xs with | some y => k (y, ()) g | none => .fail) else .fail
  | .abox t e, .abox t' e' xs, k => bif Nat.beq t t' then (match cast? (.sl e') (.sl e) xs with | some y => k (y, ()) g | none => .fail) else .fail
  | .refs e j, .refs e' id2 n, k => bif Nat.beq e e' then g.put j id2 fun g => k ((n : Int), ()) g else .fail
  | .bun e t, .bun e' t' xs, k => bif Nat.beq e e' then (match cast? (.sl (.sl t')) (.sl (.sl t)) xs with | some y => k (y, ()) g | none => .fail) else .fail
  | _, _, _ => .fail

def slotsExt (s : Nat → Q) (g : Env) : (l : List (Nat × KQ)) → (VT (slotTys l) → Env → Tree α) → Tree α
  | [], k => k () g
  | (i, q) :: r, k => q.ext g (s i) fun v g => slotsExt s g r fun w g => k (vjoin q.tys v w) g

def entsExt (g : Env) : Nat → (l : List KE) → (VT (entTys l) → Env → Tree α) → Tree α
  | _, [], k => k () g
  | j, e :: r, k =>
    match has g.io j with
    | none => .fail
    | some 0 => match e with
      | .row _ t => bif Nat.beq t.n 0 then .fail else entsExt g (j + 1) r fun w g => k (([] : List t.D), w) g
      | _ => .fail
    | some id => .get id fun x => e.ext g x fun v g => entsExt g (j + 1) r fun w g => k (vjoin e.tys v w) g

end

def memb (i : Nat) : List Nat → Bool
  | [] => false
  | k :: r => Nat.beq i k || memb i r
def apart : List Nat → Bool
  | [] => true
  | i :: r => (Nat.beq i 0 || !memb i r) && apart r
def Env.ids (g : Env) : List Nat := g.io.map (·.2)

/-- The first entries, kept in their places. -/
def bind0 (k0 : Nat) : Env := ⟨(List.range k0).map fun j => (j, j + 1), []⟩

/-- A state held against a pattern. -/
def Pat.ext {α : Type} (p : Pat) (g0 : Env) (s : Nat → Q) (k : p.V → Env → Tree α) : Tree α :=
  slotsExt s g0 p.slots fun v g => entsExt g 0 p.ents fun w g =>
    bif apart g.ids && g.fz.all (fun i => !memb i g.ids) && g.io.all (fun x => Nat.blt x.1 p.ents.length) then k (vjoin (slotTys p.slots) v w) g else .fail

/-! ### Contracts -/

structure Ctr where
  /-- how many boxes come in: the first entries; they keep their places -/
  k0 : Nat
  inp : Pat
  body : inp.V → Tree ((p : Pat) × p.V)
  /-- how many arguments there are; 0: that is left open -/
  ex : Nat := 0

inductive De : Type where
  | sc | sl (e : Nat) | st (fs : List (Nat × Nat)) | ar (k e : Nat) | pt (e : Nat) | ot

structure TI where
  de : De
  n : Nat
  bytes : Nat
  ag : Bool
  zero : List C
  ty : Option Ty

/-- A variable of the program that holds a known value, and where. -/
structure GT where
  g : Nat
  t : Ty
  x : t.D
/-- Variables of the program that hold some number; and such as hold a known value. -/
structure Gs where
  nums : List Nat := []
  tabs : List GT := []

structure Cx where
  ti : Nat → Option TI
  fs : Nat → List Ctr
  /-- types whose values are compared whole -/
  eqt : Nat → Option Ty := fun _ => none
  /-- types of rows of rows -/
  rr : Nat → Bool := fun _ => false
  /-- functions that lay the own address of a box of a type into its first cell -/
  cpy : Nat → Option (List Nat) := fun _ => none
  /-- types of bytes -/
  u8 : Nat → Bool := fun _ => false
  /-- are cuts of own rows stretches of them? -/
  win : Bool := false
  /-- is what was asked once known from then on? -/
  lits : Bool := false
  gl : Gs := {}
  /-- are slice literals values? -/
  vlit : Bool := false

def Cx.de (cx : Cx) (t : Nat) : Option De := (cx.ti t).map TI.de

structure Out where
  d : PV
  u : List (Nat × Entry)

def out (q : Q) : Tree Out := .ret ⟨.one q, []⟩
def outc (c : C) : Tree Out := .ret ⟨.one (.ce c), []⟩

def keptId (k0 : Nat) (g : Env) (n : Nat) (j : Nat) : Nat := bif Nat.blt j k0 then (has g.io j).getD 0 else n + j

def deadL (l : List Nat) : List (Nat × Entry) := l.map fun i => (i, .dead)

def called (k0 : Nat) (g : Env) (n : Nat) (r : (p : Pat) × p.V) : Out :=
  { d := match (slotsEmb (keptId k0 g n) r.1.slots (vsplit (slotTys r.1.slots) r.2).1).map (·.2) with | [q] => .one q | l => .tup l
    u := entsEmb (keptId k0 g n) 0 r.1.ents (vsplit (slotTys r.1.slots) r.2).2 ++ deadL (g.ids ++ g.fz) }

/-- The first entries are bound to real ones. -/
def boundTo (k0 : Nat) (g : Env) : Bool := (List.range k0).all fun j => match has g.io j with | some (_ + 1) => true | _ => false

/-- The first entries are bound to themselves. -/
def boundSelf (k0 : Nat) (g : Env) : Bool := (List.range k0).all fun j => match has g.io j with | some i => Nat.beq i (j + 1) | none => false

def stride : Nat := 16

/-- Values that lead nowhere. -/
def Ty.flat : Ty → Bool
  | .int _ | .bool | .str => true
  | .pair a b => a.flat && b.flat
  | .one t => t.flat
  | .arr _ t => t.flat
  | _ => false
def KQ.flat : KQ → Bool
  | .ce (.v t) => t.flat
  | .ag t => t.flat
  | _ => false
/-- Rows are only lent to a call that gets values alone, and gives values that lead nowhere. -/
def lends (inp out : Pat) : Bool := inp.ents.isEmpty && out.ents.isEmpty && out.slots.all fun x => x.2.flat
def lent (n : Nat) (r : (p : Pat) × p.V) : Out :=
  { d := match (slotsEmb (fun j => n + j) r.1.slots (vsplit (slotTys r.1.slots) r.2).1).map (·.2) with | [q] => .one q | l => .tup l, u := deadL [] }

def callCtr (c : Ctr) (n : Nat) (args : List Q) : Tree Out :=
  bif Nat.beq c.ex 0 || Nat.beq args.length c.ex then c.inp.ext ⟨[], []⟩ (fun i => args.getD i .un) fun v g => bif boundTo c.k0 g then
    (c.body v).bind fun r => bif Nat.ble r.1.ents.length stride && Nat.ble c.k0 r.1.ents.length then .ret (bif lends c.inp r.1 then lent n r else called c.k0 g n r) else .fail
  else .fail else .fail

/-- Does a pattern's shape fit these arguments? By the arguments' own shapes. -/
def C.fits : K → C → Bool
  | .z, _ => true
  | .v _, .v _ _ => true
  | .v (.sl _), .nils => true
  | .v (.sl _), .os _ => true
  | .v (.sl _), .wr _ _ _ => true
  | .nils, .nils => true
  | .nilp, .nilp => true
  | .nilf, .nilf => true
  | .ptr _ o, .ptr _ o' => Nat.beq o o'
  | .os _, .os _ => true
  | .os _, .nils => true
  | .fn f _ _, .fn f' _ _ => Nat.beq f f'
  | .pn _, .nilp => true
  | .pn _, .pn _ => true
  | .pn _, .ptr _ o => Nat.beq o 0
  | .sb _ m, .sb _ m' => Nat.beq m m'
  | _, _ => false
def Q.fits : KQ → Q → Bool
  | .ce k, .ce c => c.fits k
  | .ce .z, _ => true
  | .ag _, .ag _ _ => true
  | .ag _, .sc _ => true
  | .sc _, .ag _ _ => true
  | .sc l, .sc cs => Nat.beq l.length cs.length && (l.zip cs).all fun x => x.2.fits x.1
  | _, _ => false

def pickC (args : List Q) : List Ctr → Option Ctr
  | [] => none
  | c :: r => bif c.inp.slots.all (fun x => (args.getD x.1 .un).fits x.2) then some c else pickC args r

def callFn (cx : Cx) (f : Nat) (n : Nat) (args : List Q) : Tree Out :=
  match pickC args (cx.fs f) with
  | some c => callCtr c n args
  | none => .fail

/-! ### Operations -/

/-- An indexO that is in range. -/
def Ix (i : Int) (n : Nat) : Prop := 0 ≤ i ∧ i < (n : Int)
/-- Bounds that are in range. -/
def Sb (a b : Int) (n : Nat) : Prop := 0 ≤ a ∧ a ≤ b ∧ b ≤ (n : Int)
/-- A number of its kind. -/
def Rg (k : IntKind) (z : Int) : Prop := k.min ≤ z ∧ z ≤ k.max
def Dv (x y : Int) : Prop := 0 ≤ x ∧ 0 < y
def Mk (a b : Int) (k : Nat) : Prop := a = b ∧ 0 ≤ a ∧ a * k ≤ 140737488351232
def Ln (k n : Nat) : Prop := k = n
/-- A width of a shift. -/
def Shf (y : Int) (k : IntKind) : Prop := 0 ≤ y ∧ y ≤ k.bits
/-- As many as there are. -/
def Mt (m : Int) (n : Nat) : Prop := m = (n : Int)
def Gr (n m k : Nat) : Prop := (n + m) * k ≤ 140737488351232

def litB (k : IntKind) (n : Int) : Bool := decide (k.min ≤ n) && decide (n ≤ k.max)

def litQ : Value → Q
  | .int k n => bif litB k n then .ce (.v (.int k) n) else .un
  | .bool b => .ce (.v .bool b)
  | .string s => bif Nat.ble s.data.toList.length 1000000 then .ce (.v .str s.data.toList) else .un
  | .slice none 0 0 => .ce .nils
  | .pointer none => .ce .nilp
  | .nilFunc => .ce .nilf
  | .nilIface => .ce .none
  | _ => .un

def opd (s : Nat → PV) : Operand → PV
  | .tmp t => s t
  | .const v => .one (litQ v)
  | .func f => .one (.ce (.fn f [] []))
  | .global _ => .one .un

def PV.asQ : PV → Q
  | .one q => q
  | .tup _ => .un

def eqI (x y : Int) : Bool := decide (x = y)
def eqB (x y : Bool) : Bool := x == y
def eqS (x y : Str) : Bool := decide (x = y)

def eqD : (t : Ty) → t.D → t.D → Bool
  | .int _, x, y => eqI x y
  | .bool, x, y => eqB x y
  | .str, x, y => eqS x y
  | .pair a b, x, y => eqD a x.1 y.1 && eqD b x.2 y.2
  | .one t, x, y => eqD t x y
  | .arr _ t, x, y => (List.zipWith (eqD t) x y).all id
  | _, _, _ => false

def Ty.cmp : Ty → Bool
  | .int _ | .bool | .str => true
  | .pair a b => a.cmp && b.cmp
  | .one t => t.cmp
  | .arr _ t => t.cmp
  | _ => false

def bitsO (op : BinOp) (k : IntKind) (x y : Int) : Int :=
  let a := BitVec.ofInt k.bits x
  let b := BitVec.ofInt k.bits y
  match op with
  | .and => k.wrap (a &&& b).toNat
  | .or => k.wrap (a ||| b).toNat
  | .xor => k.wrap (a ^^^ b).toNat
  | .andNot => k.wrap (a &&& ~~~b).toNat
  | _ => 0

def inKind (k : IntKind) (n : Int) : Prop := k.min ≤ n ∧ n ≤ k.max

def litNat (lo : Int) (hi : Nat) : Int → Option Nat
  | .ofNat n => bif Nat.ble n hi && decide (lo ≤ 0) then some n else none
  | _ => none

def arith (k : IntKind) (z : Int) : Tree Out := .need (Rg k z) (outc (.v (.int k) z))
def boolO (b : Bool) : Tree Out := outc (.v .bool b)

def intOp (op : BinOp) (k : IntKind) (x y : Int) : Tree Out :=
  match op with
  | .add => arith k (x + y)
  | .sub => arith k (x - y)
  | .mul => arith k (x * y)
  | .quo => .need (Dv x y) (outc (.v (.int k) (x / y)))
  | .rem => .need (Dv x y) (outc (.v (.int k) (x % y)))
  | .and | .or | .xor | .andNot => outc (.v (.int k) (bitsO op k x y))
  | .eql => boolO (decide (x = y))
  | .neq => boolO (!decide (x = y))
  | .lss => boolO (decide (x < y))
  | .leq => boolO (decide (x ≤ y))
  | .gtr => boolO (decide (y < x))
  | .geq => boolO (decide (y ≤ x))
  | _ => .fail

def shiftOp (op : BinOp) (k : IntKind) (x y : Int) : Tree Out :=
  .need (Shf y k) (match op with
  | .shl => arith k (x * 2 ^ y.toNat)
  | .shr => outc (.v (.int k) (x / 2 ^ y.toNat))
  | _ => .fail)

def maxStr : Int := 9223372036854775807

def strOp (op : BinOp) (x y : Str) : Tree Out :=
  match op with
  | .add => .need ((x.length : Int) + y.length ≤ 9223372036854775807) (outc (.v .str (x ++ y)))
  | .eql => boolO (decide (x = y))
  | .neq => boolO (!decide (x = y))
  | .lss => boolO (Op.bytesLess x y)
  | .gtr => boolO (!(Op.bytesLess x y || decide (x = y)))
  | .leq => boolO (Op.bytesLess x y || decide (x = y))
  | .geq => boolO (!Op.bytesLess x y)
  | _ => .fail

def eqOut (op : BinOp) (b : Bool) : Tree Out :=
  match op with
  | .eql => boolO b
  | .neq => boolO (!b)
  | _ => .fail

def Cx.ty (cx : Cx) (t : Nat) : Option Ty := (cx.ti t).bind TI.ty

def ptrNil (cx : Cx) (t : Nat) (op : BinOp) : Tree Out :=
  match cx.de t with
  | some (.pt _) => eqOut op true
  | _ => .fail
def ptrEq (cx : Cx) (t : Nat) (op : BinOp) (id : Nat) : Tree Out :=
  match cx.de t with
  | some (.pt _) => .get id fun e => match e with
    | .box _ _ => eqOut op false
    | .abox _ _ _ => eqOut op false
    | _ => .fail
  | _ => .fail

def binO (cx : Cx) (op : BinOp) (t : Nat) (x y : Q) : Tree Out :=
  match op, x, y with
  | .shl, .ce (.v (.int k) a), .ce (.v (.int _) b) => shiftOp .shl k a b
  | .shr, .ce (.v (.int k) a), .ce (.v (.int _) b) => shiftOp .shr k a b
  | op, .ce (.v (.int k) a), .ce (.v (.int k') b) => bif kindEq k k' then intOp op k a b else .fail
  | op, .ce (.v .str a), .ce (.v .str b) => strOp op a b
  | op, .ce (.v .bool a), .ce (.v .bool b) => match cx.ty t with | some .bool => eqOut op (eqB a b) | _ => .fail
  | op, .ce .nilp, .ce .nilp => ptrNil cx t op
  | op, .ce .nilp, .ce (.ptr id _) => ptrEq cx t op id
  | op, .ce (.ptr id _), .ce .nilp => ptrEq cx t op id
  | op, x, y => match cx.eqt t with
    | some ty => bif ty.agg then pkQ ty x [] fun a _ => pkQ ty y [] fun b _ => eqOut op (eqD ty a b) else .fail
    | none => .fail

def rangeIn (a b : IntKind) : Bool := decide (b.min ≤ a.min) && decide (a.max ≤ b.max)

/-- The bytes of a list of numbers. -/
def bytesOf (a : List Int) : Str := a.map fun x => UInt8.ofNat x.toNat
def ints (s : Str) : List Int := s.map fun b => (b.toNat : Int)
def bytesTy (cx : Cx) (si : TI) : Bool := match si.de with | .sl e => (match cx.ty e with | some (.int .u8) => true | _ => false) | _ => false

/-- From here on, the number of a row's type tells of bytes of a text, with the mark that stands behind them. -/
def eM : Nat := 1000000000

/-- A text's bytes, in a row of their own. -/
def toBytesO (cx : Cx) (n dst : Nat) (s : Str) : Tree Out :=
  match cx.de dst with
  | some (.sl e) => match cx.ty e with
    | some (.int .u8) => .need (Gr 0 (List.length s) 1) (.ret ⟨.one (.ce (.os n)), (n, .row (e + eM) (.int .u8) (ints s)) :: deadL []⟩)
    | _ => .fail
  | _ => .fail

def cvtO (cx : Cx) (src dst : Nat) (x : Q) : Tree Out :=
  match cx.ti src with
  | none => .fail
  | some si => match cx.ty dst, x with
  | some (.int k), .ce (.v (.int k') a) => bif rangeIn k' k then outc (.v (.int k) a) else outc (.v (.int k) (k.wrap a))
  | some .str, .ce (.v .str a) => outc (.v .str a)
  | some .str, .ce c => match si.ty with
    | some (.sl (.int .u8)) => bif bytesTy cx si then pk1 (.sl (.int .u8)) c [] fun a _ => outc (.v .str (bytesOf a)) else .fail
    | _ => .fail
  | _, _ => .fail

def cvtN (cx : Cx) (n src dst : Nat) (x : Q) : Tree Out :=
  match cx.ty dst, x with
  | some (.sl (.int .u8)), .ce (.v .str a) => (match cx.ti src with
    | some _ => toBytesO cx n dst a
    | none => .fail)
  | _, _ => cvtO cx src dst x

/-- The cells from one on, so many. -/
def cut (l : List C) (off n : Nat) : List C := (l.drop off).take n
def paste (l : List C) (off : Nat) (m : List C) : List C := l.take off ++ m ++ l.drop (off + m.length)

def loadQ (ti : TI) (l : List C) : Q :=
  bif ti.ag then .sc l else match l with | [c] => .ce c | _ => .un

def nth {α : Type} (l : List α) (i : Int) (d : α) : α := l.getD i.toNat d

def inB (i n : Int) : Prop := 0 ≤ i ∧ i < n

def loadP (ti : TI) (off : Nat) (e : Entry) : Tree Out :=
  match e with
  | .box _ cs => bif Nat.ble (off + ti.n) cs.length then out (loadQ ti (cut cs off ti.n)) else .fail
  | .abox _ e xs => bif Nat.beq off 0 && ti.ag then (match ti.ty with
    | some (.arr k e') => (.need (Ln k xs.length) (match cast? (.sl e) (.sl e') xs with
      | some ys => out (.ag (.arr k e') ys)
      | none => .fail))
    | _ => .fail) else .fail
  | _ => .fail

def loadE (ti : TI) (i : Int) (off : Nat) (e : Entry) : Tree Out :=
  match e with
  | .row _ u xs => match lens u (nth xs i u.zero) off ti.n ti.ag with
    | some ⟨w, y, _⟩ => out (asQ w y)
    | none => .fail
  | .abox _ u xs => .need (Ix i xs.length) (match lens u (nth xs i u.zero) off ti.n ti.ag with
    | some ⟨w, y, _⟩ => out (asQ w y)
    | none => .fail)
  | .refs _ id2 _ => bif Nat.beq off 0 && !ti.ag then .get id2 fun e2 => match e2 with
    | .bun _ _ _ => outc (.osi id2 i)
    | _ => .fail else .fail
  | _ => .fail

def loadB (ti : TI) (i j : Int) (off : Nat) (e : Entry) : Tree Out :=
  match e with
  | .bun _ u xss => match lens u (nth (nth xss i []) j u.zero) off ti.n ti.ag with
    | some ⟨w, y, _⟩ => out (asQ w y)
    | none => .fail
  | _ => .fail

def loadO (cx : Cx) (t : Nat) (x : Q) : Tree Out :=
  match cx.ti t with
  | none => .fail
  | some ti => match x with
    | .ce (.ra u x) => match lens u x 0 ti.n ti.ag with
      | some ⟨w, y, _⟩ => out (asQ w y)
      | none => .fail
    | .ce (.ptr id off) => .get id fun e => loadP ti off e
    | .ce (.oa id i off) => .get id fun e => loadE ti i off e
    | .ce (.oai id i j off) => .get id fun e => loadB ti i j off e
    | _ => .fail

def storeP (ti : TI) (id off : Nat) (y : Q) (e : Entry) : Tree Out :=
  match e with
  | .box bt cs => bif Nat.ble (off + ti.n) cs.length && Nat.beq y.cells.length ti.n && !Nat.beq ti.n 0 then .ret ⟨.one .un, (id, .box bt (paste cs off y.cells)) :: deadL []⟩ else .fail
  | .abox bt e xs => bif Nat.beq off 0 && ti.ag then (match ti.ty with
    | some (.arr k e') => .need (Ln k xs.length) (pkQ (.arr k e') y [] fun ys fz => match cast? (.arr k e') (.arr k e) ys with
      | some zs => bif memb id fz then .fail else .ret ⟨.one .un, (id, .abox bt e zs) :: deadL fz⟩
      | none => .fail)
    | _ => .fail) else .fail
  | _ => .fail

def storeE (ti : TI) (id : Nat) (i : Int) (off : Nat) (y : Q) (e : Entry) : Tree Out :=
  match e with
  | .row re u xs => match lens u (nth xs i u.zero) off ti.n ti.ag with
    | some ⟨w, _, s⟩ => pkQ w y [] fun z fz => bif memb id fz then .fail else .ret ⟨.one .un, (id, .row re u (List.set xs i.toNat (s z))) :: deadL fz⟩
    | none => .fail
  | .abox bt u xs => .need (Ix i xs.length) (match lens u (nth xs i u.zero) off ti.n ti.ag with
    | some ⟨w, _, s⟩ => pkQ w y [] fun z fz => bif memb id fz then .fail else .ret ⟨.one .un, (id, .abox bt u (List.set xs i.toNat (s z))) :: deadL fz⟩
    | none => .fail)
  | _ => .fail

def storeB (ti : TI) (id : Nat) (i j : Int) (off : Nat) (y : Q) (e : Entry) : Tree Out :=
  match e with
  | .bun be u xss => match lens u (nth (nth xss i []) j u.zero) off ti.n ti.ag with
    | some ⟨w, _, s⟩ => pkQ w y [] fun z fz => bif memb id fz then .fail else .ret ⟨.one .un, (id, .bun be u (List.set xss i.toNat (List.set (nth xss i []) j.toNat (s z)))) :: deadL fz⟩
    | none => .fail
  | _ => .fail

def Entry.isRefs : Entry → Bool
  | .refs _ _ _ => true
  | _ => false

/-- A row of the call's own is put into a row of rows. -/
def storeR (ti : TI) (n id : Nat) (i : Int) (off : Nat) (y : Q) (e : Entry) : Tree Out :=
  match e, y with
  | .refs e' id2 k, .ce (.os r) => bif Nat.beq off 0 && !ti.ag then .get r fun er => match er with
    | .row re u ys => .get id2 fun eb => match eb with
      | .bun be u' xss => bif Nat.beq re be && Nat.blt re eM then (match cast? (.sl u) (.sl u') ys with
        | some zs => .ret ⟨.one .un, (id, .refs e' n k) :: (n, .bun be u' (List.set xss i.toNat zs)) :: deadL [id2, r]⟩
        | none => .fail) else .fail
      | _ => .fail
    | _ => .fail else .fail
  | _, _ => .fail

def storeO (cx : Cx) (n t : Nat) (x y : Q) : Tree Out :=
  match cx.ti t with
  | none => .fail
  | some ti => match x with
    | .ce (.ptr id off) => .get id fun e => storeP ti id off y e
    | .ce (.oa id i off) => .get id fun e => bif e.isRefs then storeR ti n id i off y e else storeE ti id i off y e
    | .ce (.oai id i j off) => .get id fun e => storeB ti id i j off y e
    | _ => .fail

def fieldOf (cx : Cx) (t j : Nat) : Option (Nat × TI) :=
  match cx.de t with
  | some (.st fs) => match fs[j]? with
    | some (o, u) => (cx.ti u).map fun i => (o, i)
    | none => none
  | _ => none

def Entry.isBox : Entry → Bool
  | .box _ _ => true
  | .abox _ _ _ => true
  | _ => false
def Entry.isRow : Entry → Bool
  | .row _ _ _ => true
  | .abox _ _ _ => true
  | _ => false

def fieldAddrO (cx : Cx) (t : Nat) (x : Q) (j : Nat) : Tree Out :=
  match fieldOf cx t j with
  | none => .fail
  | some (o, ti) => bif Nat.beq ti.n 0 then .fail else match x with
    | .ce (.ra u x) => match lens u x o ti.n ti.ag with
      | some ⟨w, y, _⟩ => outc (.ra w y)
      | none => .fail
    | .ce (.ptr id off) => .get id fun e => bif e.isBox then outc (.ptr id (off + o)) else .fail
    | .ce (.oa id i off) => .get id fun e => bif e.isRow then outc (.oa id i (off + o)) else .fail
    | _ => .fail

def fieldO (cx : Cx) (t : Nat) (x : Q) (j : Nat) : Tree Out :=
  match fieldOf cx t j, x with
  | some (o, ti), .ag u x => match lens u x o ti.n ti.ag with
    | some ⟨w, y, _⟩ => out (asQ w y)
    | none => .fail
  | some (o, ti), .sc cs => bif Nat.ble (o + ti.n) cs.length then out (loadQ ti (cut cs o ti.n)) else .fail
  | _, _ => .fail

def natOf (i : Int) : Nat := i.toNat

def szOk (cx : Cx) (e : Nat) (u : Ty) : Bool := match cx.ti e with | some ti => Nat.beq ti.n u.n | none => false

def idxPtr (cx : Cx) (k e id off : Nat) (i : Int) (en : Entry) : Tree Out :=
  match en with
  | .abox _ u xs => bif Nat.beq off 0 && szOk cx e u then .need (Ln k xs.length) (.need (Ix i k) (outc (.oa id i 0))) else .fail
  | .box _ _ => match cx.ti e with
    | some ti => bif Nat.beq ti.n 0 then .fail else .need (Ix i k) (outc (.ptr id (off + natOf i * ti.n)))
    | none => .fail
  | _ => .fail

def idxRow (cx : Cx) (e id : Nat) (i : Int) (en : Entry) : Tree Out :=
  match en with
  | .row e' u xs => bif (Nat.beq e e' || Nat.beq (e + eM) e') && szOk cx e u then .need (Ix i xs.length) (outc (.oa id i 0)) else .fail
  | .refs e' _ k => bif Nat.beq e e' && szOk cx e .bool then .need (Ix i k) (outc (.oa id i 0)) else .fail
  | _ => .fail

def idxBun (cx : Cx) (e id : Nat) (i j : Int) (en : Entry) : Tree Out :=
  match en with
  | .bun e' u xss => bif Nat.beq e e' && szOk cx e u then .need (Ix j (nth xss i []).length) (outc (.oai id i j 0)) else .fail
  | _ => .fail

/-- The element of a number. -/
def sbAt (id m : Nat) (i : Int) : Nat → Nat → Tree Out
  | _, 0 => .fail
  | j, 1 => outc (.ptr id (j * m))
  | j, k + 2 => .br (decide (i = (j : Int))) (outc (.ptr id (j * m))) (sbAt id m i (j + 1) (k + 1))
def idxSb (cx : Cx) (e id k : Nat) (i : Int) (en : Entry) : Tree Out :=
  match cx.ti e, en with
  | some ti, .box _ _ => .need (Ix i k) (sbAt id ti.n i 0 k)
  | _, _ => .fail

def indexAddrO (cx : Cx) (t : Nat) (x i : Q) : Tree Out :=
  match cx.de t, x, i with
  | some (.sl e), .ce (.v (.sl u) xs), .ce (.v (.int _) i) => bif szOk cx e u then .need (Ix i (List.length xs)) (outc (.ra u (nth xs i u.zero))) else .fail
  | some (.sl e), .ce (.os id), .ce (.v (.int _) i) => .get id fun en => idxRow cx e id i en
  | some (.sl e), .ce (.osi id i), .ce (.v (.int _) j) => .get id fun en => idxBun cx e id i j en
  | some (.sl e), .ce (.sb id k), .ce (.v (.int _) i) => .get id fun en => idxSb cx e id k i en
  | some (.ar k e), .ce (.ptr id off), .ce (.v (.int _) i) => .get id fun en => idxPtr cx k e id off i en
  | some (.ar k e), .ce (.ra (.arr k' u) xs), .ce (.v (.int _) i) => bif szOk cx e u && Nat.beq k k' then .need (Ix i k) (outc (.ra u (nth xs i u.zero))) else .fail
  | _, _, _ => .fail

def indexO (cx : Cx) (t : Nat) (x i : Q) : Tree Out :=
  match cx.ty t, x, i with
  | some .str, .ce (.v .str s), .ce (.v (.int _) i) => .need (Ix i (List.length s)) (outc (.v (.int .u8) ((nth s i (0 : UInt8)).toNat : Int)))
  | _, _, _ => .fail

/-- A cell of an array, by its number. -/
def eqN (i : Int) (j : Nat) : Bool := decide (i = (j : Int))
def pickAt (i : Int) : Nat → List C → Tree Out
  | _, [] => .fail
  | _, [c] => outc c
  | j, c :: c' :: r => .br (eqN i j) (outc c) (pickAt i (j + 1) (c' :: r))

def indexN (cx : Cx) (t : Nat) (x i : Q) : Tree Out :=
  match cx.de t, x, i with
  | some (.ar k e), .sc cs, .ce (.v (.int _) i) => (match cx.ti e with
    | some ti => bif Nat.beq ti.n 1 && !ti.ag && Nat.beq cs.length k then .need (Ix i k) (pickAt i 0 cs) else .fail
    | none => .fail)
  | some (.ar k e), .ag (.arr k' u) xs, .ce (.v (.int _) i) => (match cx.ti e with
    | some ti => bif Nat.beq k k' && Nat.beq ti.n u.n then .need (Ix i k) (match lens u (nth xs i u.zero) 0 ti.n ti.ag with
      | some ⟨w, y, _⟩ => out (asQ w y)
      | none => .fail) else .fail
    | none => .fail)
  | _, _, _ => indexO cx t x i

def bnd (s : Nat → PV) (d : Int) : Option Operand → Option Int
  | none => some d
  | some x => match opd s x with
    | .one (.ce (.v (.int _) n)) => some n
    | _ => none


def sliceS (a b : Option Int) (l : Str) : Tree Out :=
  match a, b with
  | some a, some b => .need (Sb a b (List.length l)) (outc (.v .str (sub l a b)))
  | _, _ => .fail
def sliceV (a b : Option Int) (u : Ty) (l : List u.D) : Tree Out :=
  match a, b with
  | some a, some b => .need (Sb a b (List.length l)) (outc (.v (.sl u) (sub l a b)))
  | _, _ => .fail
def sliceO (n id e : Nat) (lo : Bool) (a b : Option Int) (u : Ty) (l : List u.D) : Tree Out :=
  match a, b with
  | some a, some b => bif lo then .need (Sb a b (List.length l)) (.ret ⟨.one (.ce (.v (.sl u) (sub l a b))), deadL [id]⟩)
    else .need (Sb 0 b (List.length l)) (.ret ⟨.one (.ce (.os n)), (n, .row e u (l.take b.toNat)) :: deadL [id]⟩)
  | _, _ => .fail

def sliceZ (cx : Cx) (e : Nat) (a b : Option Int) : Tree Out :=
  match cx.ti e, a, b with
  | some _, some a, some b => .need (Sb a b 0) (outc .nils)
  | _, _, _ => .fail

def sliceO1 (cx : Cx) (s : Nat → PV) (n t : Nat) (x : Q) (lo hi mx : Option Operand) : Tree Out :=
  match mx, cx.de t, cx.ty t, x with
  | none, _, some .str, .ce (.v .str l) => sliceS (bnd s 0 lo) (bnd s (List.length l) hi) l
  | none, some (.sl e'), _, .ce (.v (.sl u) l) => bif szOk cx e' u then sliceV (bnd s 0 lo) (bnd s (List.length l) hi) u l else .fail
  | none, some (.sl e'), _, .ce .nils => sliceZ cx e' (bnd s 0 lo) (bnd s 0 hi)
  | none, some (.sl e'), _, .ce (.os id) => .get id fun en => match en with
    | .row e u l => bif (Nat.beq e e' || Nat.beq e (e' + eM)) && szOk cx e' u then sliceO n id e lo.isSome (bnd s 0 lo) (bnd s (List.length l) hi) u l else .fail
    | _ => .fail
  | _, _, _, _ => .fail

/-- A stretch of a row of the call's own. -/
def sliceW (id : Nat) (a b : Option Int) (len : Nat) : Tree Out :=
  match a, b with
  | some a, some b => .need (Sb a b len) (outc (.wr id a b))
  | _, _ => .fail

/-- A cut of an array that stands in memory. -/
def sliceA (cx : Cx) (k e : Nat) (x : Q) (lo : Bool) (a b : Option Int) : Tree Out :=
  match x, a, b with
  | .ce (.ptr id off), some a, some b => .get id fun en => match en with
    | .abox _ u xs => bif Nat.beq off 0 && szOk cx e u && Nat.ble k 1000000 then .need (Ln k xs.length) (.need (Sb a b k) (.ret ⟨.one (.ce (.v (.sl u) (sub xs a b))), deadL [id]⟩)) else .fail
    | .box _ cs => (match cx.ti e with
      | some ti => bif Nat.beq ti.n 1 && Nat.ble (off + k) cs.length && !lo then .need (Sb 0 b k) (outc (.wb id off k b)) else .fail
      | none => .fail)
    | _ => .fail
  | .ce (.oa id i off), some _, some b => .get id fun en => match en with
    | .row _ _ _ => (match cx.ti e with
      | some ti => bif Nat.beq ti.n 1 && !lo then .need (Sb 0 b k) (outc (.we id i off k b)) else .fail
      | none => .fail)
    | _ => .fail
  | _, _, _ => .fail

def sliceN (cx : Cx) (s : Nat → PV) (n t : Nat) (x : Q) (lo hi mx : Option Operand) : Tree Out :=
  match mx, cx.de t, x with
  | none, some (.ar k e), x => sliceA cx k e x lo.isSome (bnd s 0 lo) (bnd s k hi)
  | none, some (.sl e), .ce (.os id) => bif cx.win then .get id fun en => match en with
      | .row e' u l => bif Nat.beq e e' && szOk cx e u then sliceW id (bnd s 0 lo) (bnd s (List.length l) hi) (List.length l) else .fail
      | _ => .fail
    else sliceO1 cx s n t x lo hi none
  | _, _, _ => sliceO1 cx s n t x lo hi mx

def fillC (l : List C) : List (Nat × Q) → List C
  | [] => l
  | (o, q) :: r => fillC (paste l o q.cells) r

def partOk (cx : Cx) (fs : List (Nat × Nat)) (len : Nat) (p : Nat × Q) : Bool :=
  match fs[p.1]? with
  | some (o, u) => (match cx.ti u with | some i => Nat.beq i.n p.2.cells.length && Nat.ble (o + i.n) len && !Nat.beq i.n 0 | none => false)
  | none => false
def offOf (fs : List (Nat × Nat)) (i : Nat) : Nat := (fs.getD i (0, 0)).1
def partOkA (i : TI) (k : Nat) (p : Nat × Q) : Bool := Nat.beq i.n p.2.cells.length && Nat.blt p.1 k && !Nat.beq i.n 0

def buildO (cx : Cx) (t : Nat) (parts : List (Nat × Q)) : Tree Out :=
  match cx.ti t with
  | some ti => match ti.de with
    | .st fs => bif ti.ag && fs.all (fun f => (cx.ti f.2).isSome) && parts.all (partOk cx fs ti.n)
      then out (.sc (fillC ti.zero (parts.map fun p => (offOf fs p.1, p.2)))) else .fail
    | .ar k e => match cx.ti e with
      | some i => bif ti.ag && Nat.beq ti.n (k * i.n) && parts.all (partOkA i k) then out (.sc (fillC ti.zero (parts.map fun p => (p.1 * i.n, p.2)))) else .fail
      | none => .fail
    | _ => .fail
  | none => .fail

def pkL {α : Type} (t : Ty) : List Q → List Nat → (List t.D → List Nat → Tree α) → Tree α
  | [], fz, k => k [] fz
  | q :: r, fz, k => pkQ t q fz fun x fz => pkL t r fz fun xs fz => k (x :: xs) fz

def inRow : Nat → List (Nat × Q) → Bool
  | _, [] => true
  | i, (j, _) :: r => Nat.beq i j && inRow (i + 1) r

/-- A row of elements that aren't typed: all of a box. -/
def sizedQ (m : Nat) (p : Nat × Q) : Bool := Nat.beq m p.2.cells.length
def buildBox (cx : Cx) (n e len : Nat) (parts : List (Nat × Q)) : Tree Out :=
  match cx.ti e with
  | some i => bif Nat.beq len parts.length && inRow 0 parts && Nat.ble (len * i.n) 10000 && !Nat.beq len 0 && Nat.blt e eM && !Nat.beq i.n 0 && parts.all (sizedQ i.n) then
      .ret ⟨.one (.ce (.sb n len)), (n, .box e (fillC (List.replicate (len * i.n) .none) (parts.map fun p => (p.1 * i.n, p.2)))) :: deadL []⟩ else .fail
  | none => .fail
def buildSliceO (cx : Cx) (n : Nat) (t len : Nat) (parts : List (Nat × Q)) : Tree Out :=
  match cx.de t with
  | some (.sl e) => match cx.ty e with
    | some u => bif Nat.beq len 0 && parts.isEmpty && !Nat.beq u.n 0 && Nat.blt e eM then .ret ⟨.one (.ce (.os n)), (n, .row e u []) :: deadL []⟩
      else bif Nat.beq len parts.length && inRow 0 parts && Nat.ble (len * u.n) 10000 && !Nat.beq len 0 && Nat.blt e eM then
        pkL u (parts.map (·.2)) [] fun xs fz => .ret ⟨.one (.ce (.os n)), (n, .row e u xs) :: deadL fz⟩
      else .fail
    | none => buildBox cx n e len parts
  | _ => .fail

def asList {α : Type} (u : Ty) (c : C) (fz : List Nat) (k : List u.D → List Nat → Tree α) : Tree α := pk1 (.sl u) c fz k

def capOp (cx : Cx) (t : Nat) (x : Q) : Tree Out :=
  match cx.de t, x with
  | some (.sl _), .ce .nils => outc (.v (.int .i64) (0 : Int))
  | _, _ => .fail

def lenOp (cx : Cx) (t : Nat) (x : Q) : Tree Out :=
  match cx.de t, cx.ty t, x with
  | _, some .str, .ce (.v .str l) => outc (.v (.int .i64) (List.length l : Int))
  | some (.sl _), _, .ce (.v (.sl _) l) => outc (.v (.int .i64) (List.length l : Int))
  | some (.sl _), _, .ce .nils => outc (.v (.int .i64) (0 : Int))
  | some (.sl _), _, .ce (.os id) => .get id fun e => match e with
    | .row _ _ l => outc (.v (.int .i64) (l.length : Int))
    | .refs _ _ k => outc (.v (.int .i64) (k : Int))
    | _ => .fail
  | some (.sl _), _, .ce (.sb id k) => .get id fun e => match e with
    | .box _ _ => bif Nat.ble k 1000000 then outc (.v (.int .i64) (k : Int)) else .fail
    | _ => .fail
  | some (.ar k _), _, _ => bif Nat.ble k 1000000 then outc (.v (.int .i64) (k : Int)) else .fail
  | _, _, _ => .fail

def growO (n e : Nat) (u : Ty) (bytes : Nat) (xs ys : List u.D) (fz : List Nat) : Tree Out :=
  bif Nat.blt e eM then .need (Gr xs.length ys.length bytes) (.ret ⟨.one (.ce (.os n)), (n, .row e u (xs ++ ys)) :: deadL fz⟩) else .fail

def appTo (n e : Nat) (u : Ty) (bytes id : Nat) (y : C) (en : Entry) : Tree Out :=
  match en with
  | .row e' u' xs => bif Nat.beq e e' then (match cast? (.sl u') (.sl u) xs with
    | some xs => pk1 (.sl u) y [] fun ys fz => bif memb id fz then .fail else growO n e u bytes xs ys (id :: fz)
    | none => .fail) else .fail
  | _ => .fail

/-- A text's bytes behind a row of bytes. -/
def appS (n e : Nat) (id : Nat) (s : Str) (en : Entry) : Tree Out :=
  match en with
  | .row e' u' xs => bif Nat.beq e e' then (match cast? (.sl u') (.sl (.int .u8)) xs with
    | some xs => growO n e (.int .u8) 1 xs (ints s) [id]
    | none => .fail) else .fail
  | _ => .fail

def rep {α : Type} (n : Int) (d : α) : List α := List.replicate n.toNat d
/-- So many zeros, behind nothing. -/
def appMake (cx : Cx) (n e : Nat) (k : Int) : Tree Out :=
  match cx.ti e with
  | some ti => (match ti.ty with
    | some u => bif Nat.blt e eM then .need (Mk k k ti.bytes) (.ret ⟨.one (.ce (.os n)), (n, .row e u (rep k u.zero)) :: deadL []⟩) else .fail
    | none => .fail)
  | none => .fail

def appendO (cx : Cx) (n : Nat) (t t' : Nat) (x y : Q) : Tree Out :=
  match cx.de t with
  | some (.sl e) => bif Nat.beq t t' then (match cx.ti e with
    | some ti => match ti.ty with
      | some u => match x, y with
        | .ce .nils, .ce y => pk1 (.sl u) y [] fun ys fz => growO n e u ti.bytes [] ys fz
        | .ce (.os id), .ce y => .get id fun en => appTo n e u ti.bytes id y en
        | _, _ => .fail
      | none => .fail
    | none => .fail) else (match cx.ty t', x, y with
      | some (.int .i64), .ce .nils, .ce (.v (.int .i64) k) => appMake cx n e k
      | _, _, _ => bif cx.u8 e then (match cx.ty t', x, y with
      | some .str, .ce .nils, .ce (.v .str s) => growO n e (.int .u8) 1 [] (ints s) []
      | some .str, .ce (.os id), .ce (.v .str s) => .get id fun en => appS n e id s en
      | _, _, _ => .fail) else .fail)
  | _ => .fail

def sdO (cx : Cx) (t tr : Nat) (id : Nat) (en : Entry) : Tree Out :=
  match cx.de t, cx.de tr, en with
  | some (.sl e), some (.pt e'), .row e2 u _ => bif Nat.beq e e' && Nat.beq e e2 && Nat.beq u.n 1 && Nat.blt e2 eM then outc (.sd id) else .fail
  | _, _, _ => .fail
/-- A row's bytes, as a text; the row is no more. -/
def strO (cx : Cx) (tp : Nat) (id : Nat) (m : Int) (en : Entry) : Tree Out :=
  match cx.de tp, en with
  | some (.pt e), .row e2 u xs => bif Nat.beq e e2 && cx.u8 e && Nat.blt e eM then (match cast? (.sl u) (.sl (.int .u8)) xs with
    | some ys => .need (Mt m ys.length) (.ret ⟨.one (.ce (.v .str (bytesOf ys))), deadL [id]⟩)
    | none => .fail) else .fail
  | _, _ => .fail

/-- How many are copied, and the row behind it. -/
def cpN {α : Type} (a b : Int) (ys : List α) : Int := min (ys.length : Int) (b - a)
def cpL {α : Type} (a b : Int) (xs ys : List α) : List α := xs.take a.toNat ++ ys.take (b - a).toNat ++ xs.drop (a.toNat + min ys.length (b - a).toNat)
/-- An array's first elements. -/
def cpA {α : Type} (m : Int) (zs ys : List α) : List α := zs.take m.toNat ++ ys.drop m.toNat
def Eqi (a b : Int) : Prop := a = b

def copyEnd (e id : Nat) (a b : Int) (u : Ty) (xs ys : List u.D) (fz : List Nat) : Tree Out :=
  bif memb id fz then .fail else .ret ⟨.one (.ce (.v (.int .i64) (cpN a b ys))), (id, .row e u (cpL a b xs ys)) :: deadL fz⟩

def copySrc (e id : Nat) (a b : Int) (u : Ty) (xs : List u.D) (y : C) : Tree Out :=
  match y with
  | .wr id2 c d => .get id2 fun en => match en with
    | .row _ u2 zs => (match cast? (.sl u2) (.sl u) zs with
      | some zs => copyEnd e id a b u xs (sub zs c d) []
      | none => .fail)
    | _ => .fail
  | y => pk1 (.sl u) y [] fun ys fz => copyEnd e id a b u xs ys fz

def copyArr (e id : Nat) (i : Int) (off k : Nat) (m : Int) (u : Ty) (xs : List u.D) (cs : List C) : Tree Out :=
  match lens u (nth xs i u.zero) off k true with
  | some ⟨.arr k' v, ys, s⟩ => bif Nat.beq k k' && Nat.beq v.n 1 && Nat.ble k 1000000 then
      pk (.arr k v) cs [] fun (zs : List v.D) _ fz => bif memb id fz then .fail else .ret ⟨.one (.ce (.v (.int .i64) m)), (id, .row e u (List.set xs i.toNat (s (cpA m zs ys)))) :: deadL fz⟩
    else .fail
  | _ => .fail

def copyO (cx : Cx) (t : Nat) (x y : Q) : Tree Out :=
  match cx.de t, x, y with
  | some (.sl e), .ce (.os id), .ce y => .get id fun en => match en with
    | .row e' u xs => bif Nat.beq e e' && szOk cx e u then copySrc e' id 0 (xs.length : Int) u xs y else .fail
    | _ => .fail
  | some (.sl e), .ce (.wr id a b), .ce y => .get id fun en => match en with
    | .row e' u xs => bif Nat.beq e e' && szOk cx e u then copySrc e' id a b u xs y else .fail
    | _ => .fail
  | some (.sl e), .ce (.we id i off k m), .ce (.wb id2 off2 k2 m2) => (match cx.ti e with
    | some ti => bif Nat.beq ti.n 1 && Nat.beq k k2 then .need (Eqi m m2) (.get id fun en => match en with
      | .row e' u xs => .get id2 fun en2 => (match en2 with
        | .box _ cs => copyArr e' id i off k m u xs (cut cs off2 k)
        | _ => .fail)
      | _ => .fail) else .fail
    | none => .fail)
  | _, _, _ => .fail

def mx (a b : Int) : Int := max a b
def mn (a b : Int) : Int := min a b

def builtinO (cx : Cx) (n : Nat) (b : Builtin) (ts : List Nat) (tr : Nat) (args : List Q) : Tree Out :=
  match b, ts, args with
  | .len, [t], [x] => lenOp cx t x
  | .cap, [t], [x] => capOp cx t x
  | .append, [t, t'], [x, y] => appendO cx n t t' x y
  | .copy, [t, _], [x, y] => copyO cx t x y
  | .max, _, [.ce (.v (.int k) a), .ce (.v (.int k') b)] => bif kindEq k k' then outc (.v (.int k) (mx a b)) else .fail
  | .min, _, [.ce (.v (.int k) a), .ce (.v (.int k') b)] => bif kindEq k k' then outc (.v (.int k) (mn a b)) else .fail
  | .unsafeSliceData, [t], [.ce (.os id)] => .get id fun en => sdO cx t tr id en
  | .unsafeString, [tp, _], [.ce (.sd id), .ce (.v (.int .i64) m)] => .get id fun en => strO cx tp id m en
  | _, _, _ => .fail

/-- A box's own address is laid into its first cell, if it is not there yet. -/
def cpyO (T : List Nat) (args : List Q) : Tree Out :=
  match args with
  | [.ce (.ptr id off)] => bif Nat.beq off 0 then .get id fun e => match e with
    | .box t [.nilp, c] => bif memb t T then .ret ⟨.tup [], (id, .box t [.ptr id 0, c]) :: deadL []⟩ else .fail
    | .box t [.pn i, c] => bif memb t T && Nat.beq i id then .ret ⟨.tup [], (id, .box t [.ptr id 0, c]) :: deadL []⟩ else .fail
    | .box t [.ptr i o, c] => bif memb t T && (Nat.beq i id && Nat.beq o 0) then .ret ⟨.tup [], (id, .box t [.ptr id 0, c]) :: deadL []⟩ else .fail
    | _ => .fail
    else .fail
  | _ => .fail


def ptrIds : List Q → Option (List Nat)
  | [] => some []
  | .ce (.ptr id 0) :: r => (ptrIds r).map (id :: ·)
  | _ => none

def makeSliceO (cx : Cx) (n : Nat) (t : Nat) (l c : Q) : Tree Out :=
  match cx.de t, l, c with
  | some (.sl e), .ce (.v (.int .i64) a), .ce (.v (.int .i64) b) => match cx.ti e with
    | some ti => match ti.ty with
      | some u => bif cx.rr t then (match cx.de e, u with
        | some (.sl e2), .sl v => bif Nat.beq v.n 0 then .fail else .need (Mk a b ti.bytes) (.ret ⟨.one (.ce (.os n)), (n, .refs e (n + 1) (natI a)) :: (n + 1, .bun e2 v (rep a [])) :: deadL []⟩)
        | _, _ => .fail) else bif Nat.blt e eM then .need (Mk a b ti.bytes) (.ret ⟨.one (.ce (.os n)), (n, .row e u (rep a u.zero)) :: deadL []⟩) else .fail
      | none => .fail
    | none => .fail
  | _, _, _ => .fail

def neg (a : Int) : Int := -a
def cpl (a : Int) : Int := -1 - a

def allocO (cx : Cx) (n t : Nat) : Tree Out :=
  match cx.ti t with
  | some ti => match ti.de with
    | .ar _ _ => (match ti.ty with
      | some (.arr k u) => bif Nat.beq u.n 0 then .fail else .ret ⟨.one (.ce (.ptr n 0)), (n, .abox t u (List.replicate k u.zero)) :: deadL []⟩
      | _ => .fail)
    | _ => bif Nat.beq ti.n 0 then .fail else .ret ⟨.one (.ce (.ptr n 0)), (n, .box t ti.zero) :: deadL []⟩
  | none => .fail

def boxO (cx : Cx) (n t : Nat) (x : Q) : Tree Out :=
  match cx.ti t with
  | some ti => match ti.de with
    | .ar _ _ => (match ti.ty with
      | some (.arr k u) => bif Nat.beq u.n 0 then .fail else pkQ (.arr k u) x [] fun ys fz => .ret ⟨.one (.ce (.ptr n 0)), (n, .abox t u ys) :: deadL fz⟩
      | _ => .fail)
    | _ => bif Nat.beq x.cells.length ti.n && !Nat.beq ti.n 0 then .ret ⟨.one (.ce (.ptr n 0)), (n, .box t x.cells) :: deadL []⟩ else .fail
  | none => .fail

/-- A row that was just made, as a value. -/
def thaw (o : Out) : Tree Out :=
  match o.d, o.u with
  | .one (.ce (.os m)), (k, .row _ u xs) :: r => bif Nat.beq m k then .ret ⟨.one (.ce (.v (.sl u) xs)), (k, .dead) :: r⟩ else .fail
  | _, _ => .fail

def gFind : List GT → Nat → Q
  | [], _ => .un
  | e :: r, g => bif Nat.beq g e.g then .ce (.ra e.t e.x) else gFind r g
/-- What an operand is; a variable of the program: where it stands. -/
def opq (cx : Cx) (s : Nat → PV) : Operand → Q
  | .global g => gFind cx.gl.tabs g
  | x => (opd s x).asQ

def stepOp (cx : Cx) (tr : Nat) (o : Op) (s : Nat → PV) (n : Nat) : Tree Out :=
  let ρ (x : Operand) : Q := opq cx s x
  match o with
  | .move x | .assign x => .ret ⟨opd s x, []⟩
  | .pick c a b => match ρ c with
    | .ce (.v .bool x) => .br x (.ret ⟨opd s a, []⟩) (.ret ⟨opd s b, []⟩)
    | _ => .fail
  | .alloc t => allocO cx n t
  | .box t x => boxO cx n t (ρ x)
  | .build t ps => buildO cx t (ps.toList.map fun p => (p.1, ρ p.2))
  | .buildSlice t len ps => bif cx.vlit then (buildSliceO cx n t len (ps.toList.map fun p => (p.1, ρ p.2))).bind thaw else buildSliceO cx n t len (ps.toList.map fun p => (p.1, ρ p.2))
  | .load t a => loadO cx t (ρ a)
  | .store t a x => storeO cx n t (ρ a) (ρ x)
  | .nilCheck x => match ρ x with
    | .ce (.ptr id off) => .get id fun e => bif e.isBox then outc (.ptr id off) else .fail
    | .ce (.fn f a b) => outc (.fn f a b)
    | _ => .fail
  | .binOp op t x y _ => binO cx op t (ρ x) (ρ y)
  | .unOp op _ x => match op, ρ x with
    | .not, .ce (.v .bool b) => boolO (!b)
    | .neg, .ce (.v (.int k) a) => arith k (neg a)
    | .xor, .ce (.v (.int .i64) a) => arith .i64 (cpl a)
    | _, _ => .fail
  | .convert src dst x => cvtN cx n src dst (ρ x)
  | .makeFunc (.func f) first caps => match ptrIds (first.toList.map ρ), ptrIds (caps.toList.map ρ) with
    | some a, some b => outc (.fn f a b)
    | _, _ => .fail
  | .makeSlice t l c => makeSliceO cx n t (ρ l) (ρ c)
  | .slice t x lo hi mx => sliceN cx s n t (ρ x) lo hi mx
  | .fieldAddr t x j => fieldAddrO cx t (ρ x) j
  | .field t x j => fieldO cx t (ρ x) j
  | .indexAddr t x i => indexAddrO cx t (ρ x) (ρ i)
  | .index t x i => indexN cx t (ρ x) (ρ i)
  | .extract t j => match opd s t with
    | .tup l => match l[j]? with
      | some q => out q
      | none => .fail
    | _ => .fail
  | .call c => match c.callee with
    | .builtin b => builtinO cx n b c.argTypes.toList tr (c.args.toList.map ρ)
    | .value f => match ρ f with
      | .ce (.fn f first caps) => match cx.cpy f with
        | some T => cpyO T (first.map (fun i => .ce (.ptr i 0)) ++ c.args.toList.map ρ ++ caps.map fun i => .ce (.ptr i 0))
        | none => callFn cx f n (first.map (fun i => .ce (.ptr i 0)) ++ c.args.toList.map ρ ++ caps.map fun i => .ce (.ptr i 0))
      | _ => .fail
    | _ => .fail
  | _ => .fail

/-! ### Code -/

inductive Ex : Type where
  | normal | exit (id : Nat) | ret

def St.put (s : St) (d : Option Nat) (o : Out) : St :=
  { s with t := (match d with | some k => (k, o.d) :: s.t | none => s.t), h := o.u ++ s.h }

def St.lit (s : St) (k : Nat) (b : Bool) : St := { s with t := (k, .one (.ce (.v .bool b))) :: s.t }

def St.litO (s : St) (c : Operand) (b : Bool) : St := match c with
  | .tmp k => s.lit k b
  | _ => s
def St.asked (f : Bool) (s : St) (c : Operand) (b : Bool) : St := bif f then s.litO c b else s

def dstOf (ops : Array Oper) (j : Nat) : Option Nat := (ops[j]?).bind (·.dst)

/-- One operation of a region. -/
def dstOk (N : Nat) (d : Option Nat) : Bool := match d with | some d => Nat.blt d N | none => true
def dstsOk (N : Nat) : List Oper → Bool
  | [] => true
  | o :: r => dstOk N o.dst && dstsOk N r

/-- A row of which it isn't known whether it is nil: how long it is. -/
def nilOf (H : Nat → Entry) : PV → Option Nat
  | .one (.ce (.v (.sl _) xs)) => some (List.length xs)
  | .one (.ce (.os id)) => match H id with
    | .row _ _ xs => some xs.length
    | _ => none
  | _ => none
def isNils : PV → Bool
  | .one (.ce .nils) => true
  | _ => false
def isSl : Option De → Bool
  | some (.sl _) => true
  | _ => false
/-- A row held against nil: how long it is, and what is told if it is nil. -/
def nilEq (cx : Cx) (H : Nat → Entry) (o : Op) (s : Nat → PV) : Option (Nat × Bool) :=
  match o with
  | .binOp .eql t x y _ => bif isNils (opd s y) && isSl (cx.de t) then (nilOf H (opd s x)).map fun k => (k, true) else none
  | .binOp .neq t x y _ => bif isNils (opd s y) && isSl (cx.de t) then (nilOf H (opd s x)).map fun k => (k, false) else none
  | _ => none
def Imp (p q : Prop) : Prop := p → q
def Zr (k : Nat) : Prop := k = 0

/-- One operation that is to run. -/
def step1 (cx : Cx) (o : Oper) (n : Nat) (s : St) (K : St → Prop) : Prop :=
  match nilEq cx s.ent o.op s.tmp with
  | some (k, b) => Imp (Zr k) (K (s.put o.dst ⟨.one (.ce (.v .bool b)), []⟩)) ∧ K (s.put o.dst ⟨.one (.ce (.v .bool (!b))), []⟩)
  | none => (stepOp cx o.type o.op s.tmp n).wp s.ent fun r => K (s.put o.dst r)

def gstep (cx : Cx) (ops : Array Oper) (o : Oper) (n : Nat) (s : St) (K : St → Prop) : Prop :=
  match o.guard with
  | none => step1 cx o n s K
  | some (j, want) => match dstOf ops j with
    | none => False
    | some d => match s.tmp d with
      | .one (.ce (.v .bool b)) =>
        bif b then (bif want then step1 cx o n (s.lit d true) K else K ((s.lit d true).put o.dst ⟨.tup [], []⟩))
        else (bif want then K ((s.lit d false).put o.dst ⟨.tup [], []⟩) else step1 cx o n (s.lit d false) K)
      | .tup [] => K (s.put o.dst ⟨.tup [], []⟩)
      | _ => False

def runOps (cx : Cx) (ops : Array Oper) : List Oper → Nat → St → (St → Prop) → Prop
  | [], n, s, K => K { s with n := n }
  | o :: r, n, s, K => gstep cx ops o n s fun s' => runOps cx ops r (n + stride) s' K

/-! Regions that run in any order. -/

structure Fp where
  r : List Nat
  w : List Nat

def fpOf (o : Out) (l : List Nat) : Fp := ⟨l, o.u.map (·.1)⟩

def gstepL (cx : Cx) (ops : Array Oper) (o : Oper) (n : Nat) (s : St) (K : St → Fp → Prop) : Prop :=
  match o.guard with
  | none => (stepOp cx o.type o.op s.tmp n).wpl s.ent [] fun r l => K (s.put o.dst r) (fpOf r l)
  | some (j, want) => match dstOf ops j with
    | none => False
    | some d => match s.tmp d with
      | .one (.ce (.v .bool b)) =>
        bif b then (bif want then (stepOp cx o.type o.op (s.lit d true).tmp n).wpl s.ent [] fun r l => K ((s.lit d true).put o.dst r) (fpOf r l) else K ((s.lit d true).put o.dst ⟨.tup [], []⟩) ⟨[], []⟩)
        else (bif want then K ((s.lit d false).put o.dst ⟨.tup [], []⟩) ⟨[], []⟩ else (stepOp cx o.type o.op (s.lit d false).tmp n).wpl s.ent [] fun r l => K ((s.lit d false).put o.dst r) (fpOf r l))
      | .tup [] => K (s.put o.dst ⟨.tup [], []⟩) ⟨[], []⟩
      | _ => False

def drawOps (cx : Cx) (ops : Array Oper) : List Oper → Nat → St → (St → List Fp → Prop) → Prop
  | [], n, s, K => K { s with n := n } []
  | o :: r, n, s, K => gstepL cx ops o n s fun s' fp => drawOps cx ops r (n + stride) s' fun s'' fps => K s'' (fp :: fps)

def hasL (i : Nat) : List Nat → Bool
  | [] => false
  | k :: r => Nat.beq i k || hasL i r
def addL (i : Nat) (l : List Nat) : List Nat := bif hasL i l then l else i :: l
def uniL : List Nat → List Nat → List Nat
  | [], b => b
  | i :: a, b => addL i (uniL a b)
def preE (ms : List (List Nat)) : List Edge → List Nat
  | [] => []
  | e :: r => bif Region.binds .any e then addL e.on (uniL (ms.getD e.on []) (preE ms r)) else preE ms r
/-- What comes before each operation. -/
def pres : List Oper → List (List Nat) → List (List Nat)
  | [], ms => ms
  | o :: r, ms => pres r (ms ++ [preE ms o.after.toList])
def edgesOk : Nat → List Oper → Bool
  | _, [] => true
  | i, o :: r => o.after.toList.all (fun e => !Region.binds .any e || Nat.blt e.on i) && edgesOk (i + 1) r

def disj (a b : List Nat) : Bool := a.all fun i => !hasL i b
def Fp.free (a b : Fp) : Bool := disj a.w b.r && disj a.w b.w && disj a.r b.w
def tmpsL : List Operand → List Nat
  | [] => []
  | .tmp t :: r => t :: tmpsL r
  | _ :: r => tmpsL r
def looksO (ops : Array Oper) (o : Oper) : List Nat :=
  (match o.guard with | some (j, _) => (match dstOf ops j with | some d => [d] | none => []) | none => []) ++ tmpsL o.op.operands.toList
def dstNot (d : Option Nat) (l : List Nat) : Bool := match d with | some d => !hasL d l | none => true
def dstNe : Option Nat → Option Nat → Bool
  | some a, some b => !Nat.beq a b
  | _, _ => true
def apartO (ops : Array Oper) (x y : Oper) : Bool := dstNot x.dst (looksO ops y) && dstNot y.dst (looksO ops x) && dstNe x.dst y.dst
def indepTo (ops : Array Oper) (x : Oper) (fx : Fp) (i : Nat) : List Oper → List Fp → List (List Nat) → Bool
  | y :: r, fy :: fr, m :: mr => (hasL i m || (apartO ops x y && fx.free fy)) && indepTo ops x fx i r fr mr
  | _, _, _ => true
def indepAll (ops : Array Oper) : Nat → List Oper → List Fp → List (List Nat) → Bool
  | i, x :: r, fx :: fr, _ :: mr => indepTo ops x fx i r fr mr && indepAll ops (i + 1) r fr mr
  | _, _, _, _ => true
def indep (ops : Array Oper) (fps : List Fp) : Bool := indepAll ops 0 ops.toList fps (pres ops.toList [])

def it {V : Type} (F : V → (V → Prop) → Prop) : Nat → V → Prop
  | 0, _ => False
  | n + 1, v => F v (it F n)
/-- A loop: some rounds, and it is left. -/
def Lp {V : Type} (F : V → (V → Prop) → Prop) (v : V) : Prop := ∃ n, it F n v

def firstReg : Code → Option Nat
  | .region id _ _ => some id
  | .seq a b => match firstReg a with | some i => some i | none => firstReg b
  | .cond _ a b => match firstReg a with | some i => some i | none => firstReg b
  | .block _ b | .loop b | .scope b => firstReg b
  | _ => none

abbrev Ann := List (Nat × Pat)
def annOf (an : Ann) (c : Code) : Option Pat :=
  match firstReg c with
  | none => none
  | some i => match an.find? (fun x => Nat.beq x.1 i) with
    | some x => some x.2
    | none => none

def viw (cx : Cx) (an : Ann) (N K0 : Nat) : Code → (Ex → St → Prop) → St → Prop
  | .skip, Q, s => Q .normal s
  | .seq a b, Q, s => viw cx an N K0 a (fun e s' => match e with | .normal => viw cx an N K0 b Q s' | e => Q e s') s
  | .cond c a b, Q, s => match opd s.tmp c with
    | .one (.ce (.v .bool x)) => bif x then viw cx an N K0 a Q (s.asked cx.lits c true) else viw cx an N K0 b Q (s.asked cx.lits c false)
    | _ => False
  | .block id b, Q, s => viw cx an N K0 b (fun e s' => match e with | .exit i => (bif Nat.beq i id then Q .normal s' else Q (.exit i) s') | e => Q e s') s
  | .exit id, Q, s => Q (.exit id) s
  | .ret, Q, s => Q .ret s
  | .scope b, Q, s => viw cx an N K0 b Q s
  | .label _, Q, s => Q .normal s
  | .region _ ops false, Q, s => bif dstsOk N ops.toList then runOps cx ops ops.toList s.n s (Q .normal) else False
  | .region _ ops true, Q, s => bif dstsOk N ops.toList && edgesOk 0 ops.toList then
      drawOps cx ops ops.toList s.n s (fun s' fps => bif indep ops fps then Q .normal s' else False) else False
  | .loop b, Q, s => match annOf an b with
    | none => False
    | some p => (p.ext (bind0 K0) (fun i => (s.tmp i).asQ) fun v g => bif boundSelf K0 g then .ret v else .fail).wp s.ent fun v0 =>
        Lp (fun v K => viw cx an N K0 b (fun e s' => match e with
          | .normal => (p.ext (bind0 K0) (fun i => (s'.tmp i).asQ) fun v g => bif boundSelf K0 g then .ret v else .fail).wp s'.ent K
          | e => Q e s') (p.st v)) v0
  | _, _, _ => False

def resOne (cx : Cx) (s : St) : ResultVar → Option Q
  | .tmp t => some (s.tmp t).asQ
  | .cell a t => match cx.ti t, (s.tmp a).asQ with
    | some ti, .ce (.ptr id off) => (match s.ent id with
      | .box _ cs => bif Nat.ble (off + ti.n) cs.length then some (loadQ ti (cut cs off ti.n)) else none
      | .abox _ e xs => bif Nat.beq off 0 && ti.ag then (match ti.ty with
        | some (.arr k e') => (match cast? (.sl e) (.sl e') xs with
          | some ys => some (.ag (.arr k e') ys)
          | none => none)
        | _ => none) else none
      | _ => none)
    | _, _ => none
/-- An array that is a result: how long it is told to be, and how long it is. -/
def aboxLen (cx : Cx) (s : St) : ResultVar → Option (Nat × Nat)
  | .tmp _ => none
  | .cell a t => match cx.ti t, (s.tmp a).asQ with
    | some ti, .ce (.ptr id _) => (match s.ent id with
      | .abox _ _ xs => (match ti.ty with
        | some (.arr k _) => some (k, xs.length)
        | _ => none)
      | _ => none)
    | _, _ => none
def resNeed (cx : Cx) (s : St) (Q : Prop) : List ResultVar → Prop
  | [] => Q
  | x :: r => match aboxLen cx s x with
    | some (k, m) => Ln k m ∧ resNeed cx s Q r
    | none => resNeed cx s Q r
def resQ (cx : Cx) (rs : List ResultVar) (s : St) : List Q :=
  match rs with
  | [] => []
  | r :: rs => (resOne cx s r).getD .un :: resQ cx rs s
def resOk (cx : Cx) (rs : List ResultVar) (s : St) : Bool :=
  match rs with
  | [] => true
  | r :: rs => (resOne cx s r).isSome && resOk cx rs s

def slotsIn : Nat → List (Nat × KQ) → Nat → Bool
  | i, [], n => Nat.beq i n
  | i, (j, _) :: r, n => Nat.beq i j && slotsIn (i + 1) r n

def retTo (cx : Cx) (k0 : Nat) (fn : Func) (outs : List Pat) (R : ((p : Pat) × p.V) → Prop) (s : St) : Prop :=
  let qs := resQ cx fn.results.toList s
  resNeed cx s (match outs.find? (fun p => p.slots.all fun x => (qs.getD x.1 .un).fits x.2) with
  | some p => bif slotsIn 0 p.slots fn.results.size && resOk cx fn.results.toList s then
      (p.ext (bind0 k0) (fun i => qs.getD i .un) fun v g => bif boundSelf k0 g then .ret v else .fail).wp s.ent fun v => R ⟨p, v⟩
    else False
  | none => False) fn.results.toList

def fnVc (cx : Cx) (an : Ann) (k0 : Nat) (fn : Func) (inp : Pat) (outs : List Pat) (v : inp.V) (R : ((p : Pat) × p.V) → Prop) : Prop :=
  match fn.body with
  | none => False
  | some c => viw cx an fn.ntmps k0 c (fun e s => match e with | .normal => retTo cx k0 fn outs R s | .ret => retTo cx k0 fn outs R s | _ => False) (inp.st v)
end Vi

set_option autoImplicit false
namespace Vi
open Go

/-- The cells 'l' stand for the value 'x' of type 't'; what they lead to lies in blocks of 'F'. -/
inductive Rp (F : Nat → Prop) (w : World) : (t : Ty) → t.D → List Value → Prop where
  | int (k : IntKind) (x : Int) : k.min ≤ x → x ≤ k.max → Rp F w (.int k) x [.int k x]
  | bool (b : Bool) : Rp F w .bool b [.bool b]
  | str (s : Str) : s.length ≤ maxLen → Rp F w .str s [.string ⟨s.toArray⟩]
  | sl (t : Ty) (xs : List t.D) (A : Option Addr) (c : Nat) (ls : Nat → List Value) : xs.length ≤ c → c ≤ maxLen →
      (∀ j, j < xs.length → ∃ ad, A = some ad ∧ F ad.block ∧ ∀ i v, (ls j)[i]? = some v → w.cell? (ad.add (j * t.n + i)) = some v) →
      (∀ j (h : j < xs.length), Rp F w t xs[j] (ls j)) → Rp F w (.sl t) xs [.slice A xs.length c]
  | pair (a b : Ty) (x : a.D) (y : b.D) (l m : List Value) : Rp F w a x l → Rp F w b y m → Rp F w (.pair a b) (x, y) (l ++ m)
  | one (t : Ty) (x : t.D) (l : List Value) : Rp F w t x l → Rp F w (.one t) x l
  | arr (k : Nat) (t : Ty) (xs : List t.D) (l : List Value) : xs.length = k → l.length = k * t.n →
      (∀ j (h : j < xs.length), Rp F w t xs[j] ((l.drop (j * t.n)).take t.n)) → Rp F w (.arr k t) xs l
  | node (k s : Int) (n : Str) (a : List (Str × Str)) (t : Str) (c : List Node) (v0 v1 v2 v3 v4 v5 : Value) :
      Rp F w (.int .i64) k [v0] → Rp F w (.int .i64) s [v1] → Rp F w .str n [v2] → Rp F w (.sl (.pair .str .str)) a [v3] → Rp F w .str t [v4] → Rp F w (.sl .node) c [v5] →
      Rp F w .node (Node.mk k s n a t c) [v0, v1, v2, v3, v4, v5]

variable {F F' : Nat → Prop} {w w' : World}

theorem Rp.len {t : Ty} {x : t.D} {l : List Value} (h : Rp F w t x l) : l.length = t.n := by
  induction h with
  | int | bool | str | sl | node => rfl
  | pair a b x y l m _ _ ih1 ih2 => simp [Ty.n, ih1, ih2]
  | one t x l _ ih => simpa [Ty.n] using ih
  | arr k t xs l _ hl _ _ => simpa [Ty.n] using hl

theorem Rp.mono {t : Ty} {x : t.D} {l : List Value} (h : Rp F w t x l) (hF : ∀ b, F b → F' b) (hw : ∀ b, F b → w'.heap[b]? = w.heap[b]?) : Rp F' w' t x l := by
  induction h with
  | int k x h1 h2 => exact .int k x h1 h2
  | bool b => exact .bool b
  | str s h => exact .str s h
  | sl t xs A c ls h1 h2 h3 _ ih =>
    refine .sl t xs A c ls h1 h2 (fun j hj => ?_) ih
    obtain ⟨ad, hA, hf, hc⟩ := h3 j hj
    refine ⟨ad, hA, hF _ hf, fun i v hv => ?_⟩
    rw [World.cell?_of_block (w := w)]
    · exact hc i v hv
    · have hb : (ad.add (j * t.n + i)).block = ad.block := by unfold Addr.add; split <;> rfl
      rw [hb]; exact hw _ hf
  | pair a b x y l m _ _ ih1 ih2 => exact .pair a b x y l m ih1 ih2
  | one t x l _ ih => exact .one t x l ih
  | arr k t xs l h1 h2 _ ih => exact .arr k t xs l h1 h2 ih
  | node k s n a t c v0 v1 v2 v3 v4 v5 _ _ _ _ _ _ i0 i1 i2 i3 i4 i5 => exact .node k s n a t c v0 v1 v2 v3 v4 v5 i0 i1 i2 i3 i4 i5

theorem Rp.int_inv {k : IntKind} {x : Int} {l : List Value} (h : Rp F w (.int k) x l) : l = [.int k x] ∧ k.min ≤ x ∧ x ≤ k.max := by
  cases h with
  | int _ _ h1 h2 => exact ⟨rfl, h1, h2⟩
theorem Rp.bool_inv {b : Bool} {l : List Value} (h : Rp F w .bool b l) : l = [.bool b] := by cases h; rfl
theorem Rp.str_inv {s : Str} {l : List Value} (h : Rp F w .str s l) : l = [.string ⟨s.toArray⟩] ∧ s.length ≤ maxLen := by
  cases h with
  | str _ h1 => exact ⟨rfl, h1⟩
theorem Rp.sl_inv {t : Ty} {xs : List t.D} {l : List Value} (h : Rp F w (.sl t) xs l) : ∃ (A : Option Addr) (c : Nat) (ls : Nat → List Value), l = [.slice A xs.length c] ∧ xs.length ≤ c ∧ c ≤ maxLen ∧
      (∀ j, j < xs.length → ∃ ad, A = some ad ∧ F ad.block ∧ ∀ i v, (ls j)[i]? = some v → w.cell? (ad.add (j * t.n + i)) = some v) ∧
      (∀ j (h : j < xs.length), Rp F w t xs[j] (ls j)) := by
  cases h with
  | sl _ _ A c ls h1 h2 h3 h4 => exact ⟨A, c, ls, rfl, h1, h2, h3, h4⟩
theorem Rp.pair_inv {a b : Ty} {x : a.D × b.D} {l : List Value} (h : Rp F w (.pair a b) x l) : ∃ l1 l2, l = l1 ++ l2 ∧ Rp F w a x.1 l1 ∧ Rp F w b x.2 l2 := by
  cases h with
  | pair _ _ x y l m h1 h2 => exact ⟨l, m, rfl, h1, h2⟩
theorem Rp.one_inv {t : Ty} {x : t.D} {l : List Value} (h : Rp F w (.one t) x l) : Rp F w t x l := by
  cases h with
  | one _ _ _ h => exact h
theorem Rp.arr_inv {k : Nat} {t : Ty} {xs : List t.D} {l : List Value} (h : Rp F w (.arr k t) xs l) : xs.length = k ∧ l.length = k * t.n ∧
      (∀ j (h : j < xs.length), Rp F w t xs[j] ((l.drop (j * t.n)).take t.n)) := by
  cases h with
  | arr _ _ _ _ h1 h2 h3 => exact ⟨h1, h2, h3⟩
theorem Rp.node_inv {n : Node} {l : List Value} (h : Rp F w .node n l) : ∃ v0 v1 v2 v3 v4 v5, l = [v0, v1, v2, v3, v4, v5] ∧
      Rp F w (.int .i64) n.kind [v0] ∧ Rp F w (.int .i64) n.space [v1] ∧ Rp F w .str n.name [v2] ∧ Rp F w (.sl (.pair .str .str)) n.attrs [v3] ∧ Rp F w .str n.text [v4] ∧ Rp F w (.sl .node) n.kids [v5] := by
  cases h with
  | node k s n a t c v0 v1 v2 v3 v4 v5 h0 h1 h2 h3 h4 h5 => exact ⟨v0, v1, v2, v3, v4, v5, rfl, h0, h1, h2, h3, h4, h5⟩

theorem Rp.cell {t : Ty} {x : t.D} {u : Value} (h : Rp F w t x [u]) (ht : t.agg = false) : u.oneCell' = true := by
  cases t <;> simp [Ty.agg] at ht
  · have := h.int_inv.1; simp at this; subst this; rfl
  · have := h.bool_inv; simp at this; subst this; rfl
  · have := h.str_inv.1; simp at this; subst this; rfl
  · obtain ⟨A, c, ls, he, _⟩ := h.sl_inv; simp at he; subst he; rfl

/-! ### Cells -/

/-- What a cell's meaning hangs on of an entry. -/
inductive Sh : Type where
  | unborn | dead | box | row (t : Ty) (n : Nat) | abox (t : Ty) | refs (n : Nat) | bun (t : Ty) (l : List Nat)

def Entry.sh : Entry → Sh
  | .dead => .dead
  | .box _ _ => .box
  | .row _ t xs => .row t xs.length
  | .abox _ e _ => .abox e
  | .refs _ _ n => .refs n
  | .bun _ t xss => .bun t (xss.map List.length)

def PtrR (S : Nat → Sh) (μ : Nat → Value) (id off : Nat) (u : Value) : Prop :=
  match S id with
  | .unborn => False
  | .dead => True
  | .box | .abox _ => ∃ b, μ id = .pointer (some ⟨b, 0, none⟩) ∧ u = .pointer (some ⟨b, off, none⟩)
  | .row _ _ => False
  | .refs _ | .bun _ _ => False

inductive PtrsR (S : Nat → Sh) (μ : Nat → Value) : List Nat → List Value → Prop where
  | nil : PtrsR S μ [] []
  | cons (i : Nat) (u : Value) (is : List Nat) (us : List Value) : u.oneCell' = true → PtrR S μ i 0 u → PtrsR S μ is us → PtrsR S μ (i :: is) (u :: us)

def CR0 (F : Nat → Prop) (w : World) (S : Nat → Sh) (μ : Nat → Value) : C → Value → Prop
  | .none, _ => True
  | .v t x, u => t.agg = false ∧ Rp F w t x [u]
  | .nils, u => u = .slice none 0 0
  | .nilp, u => u = .pointer none
  | .nilf, u => u = .nilFunc
  | .ra t x, u => ∃ ad l, u = .pointer (some ad) ∧ F ad.block ∧ Rp F w t x l ∧ ∀ i v, l[i]? = some v → w.cell? (ad.add i) = some v
  | .ptr id off, u => PtrR S μ id off u
  | .os id, u => match S id with
    | .unborn => False
    | .dead => True
    | .row _ _ => u = μ id
    | .refs _ => u = μ id
    | _ => False
  | .oa id i off, u => match S id with
    | .unborn => False
    | .dead => True
    | .row t n => 0 ≤ i ∧ i < n ∧ ∃ b c, μ id = .slice (some ⟨b, 0, none⟩) n c ∧ u = .pointer (some ⟨b, i.toNat * t.n + off, none⟩)
    | .abox t => 0 ≤ i ∧ ∃ b, μ id = .pointer (some ⟨b, 0, none⟩) ∧ u = .pointer (some ⟨b, i.toNat * t.n + off, none⟩)
    | .refs n => 0 ≤ i ∧ i < n ∧ ∃ b c, μ id = .slice (some ⟨b, 0, none⟩) n c ∧ u = .pointer (some ⟨b, i.toNat * 1 + off, none⟩)
    | .bun _ _ => False
    | .box => False
  | .osi id i, u => match S id with
    | .unborn => False
    | .dead => True
    | .bun _ l => 0 ≤ i ∧ i.toNat < l.length ∧ ∃ hs : List Value, μ id = .tuple hs.toArray ∧ hs[i.toNat]? = some u
    | _ => False
  | .oai id i j off, u => match S id with
    | .unborn => False
    | .dead => True
    | .bun t l => 0 ≤ i ∧ 0 ≤ j ∧ (∃ m, l[i.toNat]? = some m ∧ j < (m : Nat)) ∧ ∃ (hs : List Value) (b m c : Nat), μ id = .tuple hs.toArray ∧ hs[i.toNat]? = some (.slice (some ⟨b, 0, none⟩) m c) ∧ u = .pointer (some ⟨b, j.toNat * t.n + off, none⟩)
    | _ => False
  | .pn id, u => match S id with
    | .unborn => False
    | .dead => True
    | .box => u = .pointer none ∨ u = μ id
    | _ => False
  | .sd id, u => match S id with
    | .unborn => False
    | .dead => True
    | .row _ m => ∃ a, u = .pointer a ∧ (m ≠ 0 → ∃ b c, μ id = .slice (some ⟨b, 0, none⟩) m c ∧ a = some ⟨b, 0, none⟩)
    | _ => False
  | .wr id a b, u => match S id with
    | .unborn => False
    | .dead => True
    | .row t n => 0 ≤ a ∧ a ≤ b ∧ b ≤ n ∧ ∃ A A' c c', μ id = .slice A n c ∧ u = .slice A' (b.toNat - a.toNat) c' ∧ b.toNat - a.toNat ≤ c' ∧ c' ≤ maxLen ∧ (b.toNat - a.toNat = 0 ∨ ∃ blk, A = some ⟨blk, 0, none⟩ ∧ A' = some ⟨blk, a.toNat * t.n, none⟩)
    | _ => False
  | .we id i off k m, u => match S id with
    | .unborn => False
    | .dead => True
    | .row t n => 0 ≤ i ∧ i < n ∧ 0 ≤ m ∧ m ≤ k ∧ ∃ b c, μ id = .slice (some ⟨b, 0, none⟩) n c ∧ u = .slice (some ⟨b, i.toNat * t.n + off, none⟩) m.toNat k
    | _ => False
  | .wb id off k m, u => match S id with
    | .unborn => False
    | .dead => True
    | .box => 0 ≤ m ∧ m ≤ k ∧ ∃ b, μ id = .pointer (some ⟨b, 0, none⟩) ∧ u = .slice (some ⟨b, off, none⟩) m.toNat k
    | _ => False
  | .sb id k, u => match S id with
    | .unborn => False
    | .dead => True
    | .box => ∃ b, μ id = .pointer (some ⟨b, 0, none⟩) ∧ u = .slice (some ⟨b, 0, none⟩) k k
    | _ => False
  | .fn f first caps, u => ∃ us vs, u = .func (.func f) us vs ∧ PtrsR S μ first us.toList ∧ PtrsR S μ caps vs.toList

/-- A cell's value: one cell, and as it is known. -/
def CR (F : Nat → Prop) (w : World) (S : Nat → Sh) (μ : Nat → Value) (c : C) (u : Value) : Prop := u.oneCell' = true ∧ CR0 F w S μ c u

inductive CsR (F : Nat → Prop) (w : World) (S : Nat → Sh) (μ : Nat → Value) : List C → List Value → Prop where
  | nil : CsR F w S μ [] []
  | cons (c : C) (u : Value) (cs : List C) (us : List Value) : CR F w S μ c u → CsR F w S μ cs us → CsR F w S μ (c :: cs) (u :: us)

def QR (F : Nat → Prop) (w : World) (S : Nat → Sh) (μ : Nat → Value) : Q → Value → Prop
  | .ce c, u => CR F w S μ c u
  | .ag t x, u => t.agg = true ∧ ∃ l : List Value, u = .agg l.toArray ∧ Rp F w t x l
  | .sc cs, u => ∃ l : List Value, u = .agg l.toArray ∧ CsR F w S μ cs l
  | .un, _ => True

inductive QsR (F : Nat → Prop) (w : World) (S : Nat → Sh) (μ : Nat → Value) : List Q → List Value → Prop where
  | nil : QsR F w S μ [] []
  | cons (c : Q) (u : Value) (cs : List Q) (us : List Value) : QR F w S μ c u → QsR F w S μ cs us → QsR F w S μ (c :: cs) (u :: us)

def PR (F : Nat → Prop) (w : World) (S : Nat → Sh) (μ : Nat → Value) : PV → Value → Prop
  | .one q, u => QR F w S μ q u
  | .tup l, u => ∃ us : List Value, u = .tuple us.toArray ∧ QsR F w S μ l us

/-- Shapes of a later state: an entry dies, one is born; else it is as it was. -/
def ShLe (S S' : Nat → Sh) : Prop := ∀ id, S id = .unborn ∨ S' id = S id ∨ (S' id = .dead)
def MuLe (S : Nat → Sh) (S' : Nat → Sh) (μ μ' : Nat → Value) : Prop := ∀ id, S id = .unborn ∨ S' id = .dead ∨ μ' id = μ id

variable {S S' : Nat → Sh} {μ μ' : Nat → Value}

theorem PtrR.mono {id off : Nat} {u : Value} (h : PtrR S μ id off u) (hS : ShLe S S') (hm : MuLe S S' μ μ') : PtrR S' μ' id off u := by
  unfold PtrR at *
  rcases hS id with e | e | e
  · rw [e] at h; exact h.elim
  · rcases hm id with e2 | e2 | e2
    · rw [e2] at h; exact h.elim
    · rw [e2]; trivial
    · rw [e, e2]; exact h
  · rw [e]; trivial

theorem PtrsR.mono {is : List Nat} {us : List Value} (h : PtrsR S μ is us) (hS : ShLe S S') (hm : MuLe S S' μ μ') : PtrsR S' μ' is us := by
  induction h with
  | nil => exact .nil
  | cons i u is us h1 h _ ih => exact .cons i u is us h1 (h.mono hS hm) ih

theorem CR0.mono {c : C} {u : Value} (h : CR0 F w S μ c u) (hF : ∀ b, F b → F' b) (hw : ∀ b, F b → w'.heap[b]? = w.heap[b]?) (hS : ShLe S S') (hm : MuLe S S' μ μ') : CR0 F' w' S' μ' c u := by
  cases c with
  | none => trivial
  | v t x => exact ⟨h.1, h.2.mono hF hw⟩
  | nils => exact h
  | nilp => exact h
  | nilf => exact h
  | ra t x =>
    obtain ⟨ad, l, hu, hf, hr, hc⟩ := h
    refine ⟨ad, l, hu, hF _ hf, hr.mono hF hw, fun i v hv => ?_⟩
    have hb : (ad.add i).block = ad.block := by unfold Addr.add; split <;> rfl
    rw [World.cell?_of_block (w := w) (by rw [hb]; exact hw _ hf)]
    exact hc i v hv
  | ptr id off => exact PtrR.mono h hS hm
  | os id =>
    simp only [CR0] at h ⊢
    rcases hS id with e | e | e
    · rw [e] at h; exact h.elim
    · rcases hm id with e2 | e2 | e2
      · rw [e2] at h; exact h.elim
      · rw [e2]; trivial
      · rw [e, e2]; exact h
    · rw [e]; trivial
  | oa id i off =>
    simp only [CR0] at h ⊢
    rcases hS id with e | e | e
    · rw [e] at h; exact h.elim
    · rcases hm id with e2 | e2 | e2
      · rw [e2] at h; exact h.elim
      · rw [e2]; trivial
      · rw [e, e2]; exact h
    · rw [e]; trivial
  | osi id i =>
    simp only [CR0] at h ⊢
    rcases hS id with e | e | e
    · rw [e] at h; exact h.elim
    · rcases hm id with e2 | e2 | e2
      · rw [e2] at h; exact h.elim
      · rw [e2]; trivial
      · rw [e, e2]; exact h
    · rw [e]; trivial
  | pn id =>
    simp only [CR0] at h ⊢
    rcases hS id with e | e | e
    · rw [e] at h; exact h.elim
    · rcases hm id with e2 | e2 | e2
      · rw [e2] at h; exact h.elim
      · rw [e2]; trivial
      · rw [e, e2]; exact h
    · rw [e]; trivial
  | sd id =>
    simp only [CR0] at h ⊢
    rcases hS id with e | e | e
    · rw [e] at h; exact h.elim
    · rcases hm id with e2 | e2 | e2
      · rw [e2] at h; exact h.elim
      · rw [e2]; trivial
      · rw [e, e2]; exact h
    · rw [e]; trivial
  | wr id a b =>
    simp only [CR0] at h ⊢
    rcases hS id with e | e | e
    · rw [e] at h; exact h.elim
    · rcases hm id with e2 | e2 | e2
      · rw [e2] at h; exact h.elim
      · rw [e2]; trivial
      · rw [e, e2]; exact h
    · rw [e]; trivial
  | we id i off k m =>
    simp only [CR0] at h ⊢
    rcases hS id with e | e | e
    · rw [e] at h; exact h.elim
    · rcases hm id with e2 | e2 | e2
      · rw [e2] at h; exact h.elim
      · rw [e2]; trivial
      · rw [e, e2]; exact h
    · rw [e]; trivial
  | wb id off k m =>
    simp only [CR0] at h ⊢
    rcases hS id with e | e | e
    · rw [e] at h; exact h.elim
    · rcases hm id with e2 | e2 | e2
      · rw [e2] at h; exact h.elim
      · rw [e2]; trivial
      · rw [e, e2]; exact h
    · rw [e]; trivial
  | oai id i j off =>
    simp only [CR0] at h ⊢
    rcases hS id with e | e | e
    · rw [e] at h; exact h.elim
    · rcases hm id with e2 | e2 | e2
      · rw [e2] at h; exact h.elim
      · rw [e2]; trivial
      · rw [e, e2]; exact h
    · rw [e]; trivial
  | sb id k =>
    simp only [CR0] at h ⊢
    rcases hS id with e | e | e
    · rw [e] at h; exact h.elim
    · rcases hm id with e2 | e2 | e2
      · rw [e2] at h; exact h.elim
      · rw [e2]; trivial
      · rw [e, e2]; exact h
    · rw [e]; trivial
  | fn f a b =>
    obtain ⟨us, vs, hu, h1, h2⟩ := h
    exact ⟨us, vs, hu, h1.mono hS hm, h2.mono hS hm⟩

theorem CR.mono {c : C} {u : Value} (h : CR F w S μ c u) (hF : ∀ b, F b → F' b) (hw : ∀ b, F b → w'.heap[b]? = w.heap[b]?) (hS : ShLe S S') (hm : MuLe S S' μ μ') : CR F' w' S' μ' c u := ⟨h.1, h.2.mono hF hw hS hm⟩

theorem CsR.mono {c : List C} {u : List Value} (h : CsR F w S μ c u) (hF : ∀ b, F b → F' b) (hw : ∀ b, F b → w'.heap[b]? = w.heap[b]?) (hS : ShLe S S') (hm : MuLe S S' μ μ') : CsR F' w' S' μ' c u := by
  induction h with
  | nil => exact .nil
  | cons c u cs us h _ ih => exact .cons c u cs us (h.mono hF hw hS hm) ih

theorem QR.mono {q : Q} {u : Value} (h : QR F w S μ q u) (hF : ∀ b, F b → F' b) (hw : ∀ b, F b → w'.heap[b]? = w.heap[b]?) (hS : ShLe S S') (hm : MuLe S S' μ μ') : QR F' w' S' μ' q u := by
  cases q with
  | ce c => exact CR.mono h hF hw hS hm
  | ag t x => obtain ⟨ha, l, hu, hr⟩ := h; exact ⟨ha, l, hu, hr.mono hF hw⟩
  | sc l => obtain ⟨m, hu, hr⟩ := h; exact ⟨m, hu, hr.mono hF hw hS hm⟩
  | un => trivial

theorem QsR.mono {c : List Q} {u : List Value} (h : QsR F w S μ c u) (hF : ∀ b, F b → F' b) (hw : ∀ b, F b → w'.heap[b]? = w.heap[b]?) (hS : ShLe S S') (hm : MuLe S S' μ μ') : QsR F' w' S' μ' c u := by
  induction h with
  | nil => exact .nil
  | cons c u cs us h _ ih => exact .cons c u cs us (h.mono hF hw hS hm) ih

theorem PR.mono {q : PV} {u : Value} (h : PR F w S μ q u) (hF : ∀ b, F b → F' b) (hw : ∀ b, F b → w'.heap[b]? = w.heap[b]?) (hS : ShLe S S') (hm : MuLe S S' μ μ') : PR F' w' S' μ' q u := by
  cases q with
  | one q => exact QR.mono h hF hw hS hm
  | tup l => obtain ⟨m, hu, hr⟩ := h; exact ⟨m, hu, hr.mono hF hw hS hm⟩

theorem CsR.len {c : List C} {u : List Value} (h : CsR F w S μ c u) : c.length = u.length := by induction h <;> simp_all
theorem CsR.app {c d : List C} {u v : List Value} (h : CsR F w S μ c u) (k : CsR F w S μ d v) : CsR F w S μ (c ++ d) (u ++ v) := by
  induction h with
  | nil => exact k
  | cons c u cs us h _ ih => exact .cons c u _ _ h ih
theorem CsR.drop {c : List C} {u : List Value} (h : CsR F w S μ c u) : ∀ n, CsR F w S μ (c.drop n) (u.drop n) := by
  induction h with
  | nil => intro n; simp; exact .nil
  | cons c u cs us h h2 ih =>
    intro n
    cases n with
    | zero => exact .cons c u cs us h h2
    | succ n => exact ih n
theorem CsR.take {c : List C} {u : List Value} (h : CsR F w S μ c u) : ∀ n, CsR F w S μ (c.take n) (u.take n) := by
  induction h with
  | nil => intro n; simp; exact .nil
  | cons c u cs us h h2 ih =>
    intro n
    cases n with
    | zero => exact .nil
    | succ n => exact .cons c u _ _ h (ih n)
theorem CsR.split {c d : List C} : ∀ {u : List Value}, CsR F w S μ (c ++ d) u → ∃ u1 u2, u = u1 ++ u2 ∧ CsR F w S μ c u1 ∧ CsR F w S μ d u2 := by
  induction c with
  | nil => intro u h; exact ⟨[], u, rfl, .nil, h⟩
  | cons c cs ih =>
    intro u h
    cases h with
    | cons _ v _ vs h1 h2 =>
      obtain ⟨a, b, rfl, h3, h4⟩ := ih h2
      exact ⟨v :: a, b, rfl, .cons _ _ _ _ h1 h3, h4⟩

/-- A typed value's cells, one by one. -/
theorem unpackN_ok {t : Ty} (f : t.D → List C) (n : Nat) (hf : ∀ x l, Rp F w t x l → CsR F w S μ (f x) l) (hn : t.n = n) : ∀ (k : Nat) (xs : List t.D) (l : List Value), xs.length = k → l.length = k * n →
    (∀ j (h : j < xs.length), Rp F w t xs[j] ((l.drop (j * n)).take n)) → CsR F w S μ (unpackN f t.zero k xs) l
  | 0, xs, l, h1, h2, _ => by
    have : l = [] := List.eq_nil_of_length_eq_zero (by simpa using h2)
    subst this; exact .nil
  | k + 1, x :: xs, l, h1, h2, h3 => by
    have hl : l = l.take n ++ l.drop n := (List.take_append_drop n l).symm
    rw [hl]
    refine CsR.app (hf _ _ (by have := h3 0 (by simp); simpa using this)) (unpackN_ok f n hf hn k xs (l.drop n) (by simpa using h1) (by rw [List.length_drop, h2, Nat.succ_mul]; omega) fun j hj => ?_)
    have := h3 (j + 1) (by simpa using hj)
    simp only [List.getElem_cons_succ] at this
    rw [List.drop_drop]
    rwa [show n + j * n = (j + 1) * n from by rw [Nat.succ_mul, Nat.add_comm]]

theorem unpack_ok : ∀ {t : Ty} {x : t.D} {l : List Value}, Rp F w t x l → CsR F w S μ (unpack t x) l := by
  intro t
  induction t with
  | int k => intro x l h; obtain ⟨rfl, h1, h2⟩ := Rp.int_inv h; exact .cons _ _ _ _ ⟨rfl, rfl, .int k _ h1 h2⟩ .nil
  | bool => intro x l h; have := Rp.bool_inv h; subst this; exact .cons _ _ _ _ ⟨rfl, rfl, .bool _⟩ .nil
  | str => intro x l h; obtain ⟨rfl, h1⟩ := Rp.str_inv h; exact .cons _ _ _ _ ⟨rfl, rfl, .str _ h1⟩ .nil
  | sl t => intro x l h; obtain ⟨A, c, ls, rfl, _⟩ := Rp.sl_inv h; exact .cons _ _ _ _ ⟨rfl, rfl, h⟩ .nil
  | pair a b iha ihb => intro x l h; obtain ⟨l1, l2, rfl, h1, h2⟩ := Rp.pair_inv h; exact (iha h1).app (ihb h2)
  | one t ih => intro x l h; exact ih (Rp.one_inv h)
  | arr k t ih => intro x l h; obtain ⟨h1, h2, h3⟩ := Rp.arr_inv h; exact unpackN_ok (unpack t) t.n (fun x l h => ih h) rfl k x l h1 h2 h3
  | node =>
    intro x l h
    obtain ⟨v0, v1, v2, v3, v4, v5, rfl, h0, h1, h2, h3, h4, h5⟩ := Rp.node_inv h
    exact .cons _ _ _ _ ⟨h0.cell rfl, rfl, h0⟩ (.cons _ _ _ _ ⟨h1.cell rfl, rfl, h1⟩ (.cons _ _ _ _ ⟨h2.cell rfl, rfl, h2⟩ (.cons _ _ _ _ ⟨h3.cell rfl, rfl, h3⟩ (.cons _ _ _ _ ⟨h4.cell rfl, rfl, h4⟩ (.cons _ _ _ _ ⟨h5.cell rfl, rfl, h5⟩ .nil)))))

end Vi

set_option autoImplicit false
namespace Vi
open Go

def _root_.Go.Value.has1 : Value → Nat → Prop
  | .pointer (some a), b => a.block = b
  | .slice (some a) _ _, b => a.block = b
  | _, _ => False
/-- The blocks that an entry's value leads to. -/
def _root_.Go.Value.has : Value → Nat → Prop
  | .tuple vs, b => ∃ v, v ∈ vs.toList ∧ v.has1 b
  | v, b => v.has1 b

/-- Blocks that nobody writes any more. -/
def Fr (X : Nat → Prop) (w : World) (H : Nat → Entry) (μ : Nat → Value) (b : Nat) : Prop := (b < w.heap.size ∧ ¬ X b) ∧ ∀ id, H id ≠ .dead → ¬ (μ id).has b

def Sf (A : Nat → Bool) (H : Nat → Entry) (id : Nat) : Sh := bif A id then (H id).sh else .unborn

def Els (F : Nat → Prop) (w : World) (t : Ty) (xs : List t.D) (vs : List Value) : Prop :=
  ∀ j (h : j < xs.length), Rp F w t xs[j] ((vs.drop (j * t.n)).take t.n)

/-- The element type that a row's number tells, and the mark behind it. -/
def eT (e : Nat) : Nat := bif Nat.blt e eM then e else e - eM
def eF (e k : Nat) : Nat × Nat := bif Nat.blt e eM then (0, 0) else (k, k + 1)

/-- A row of the call's own: as the kit's 'ownsRow', but the bytes of a text may bear their mark. -/
def _root_.Go.World.rowAt (w : World) (e size : Nat) (v : Value) (n : Nat) (xs : List Value) : Prop :=
  xs.length = n * size ∧ ((v = .slice none 0 0 ∧ n = 0) ∨
   ∃ g cap cur, v = .slice (some ⟨g, 0, none⟩) n cap ∧ 0 ≤ g ∧ w.heap[g]? = some (.cells cur (eT e) (eF e cur.size)) ∧ n ≤ cap ∧ cap ≤ maxLen ∧ cur.size = cap * size ∧ cur.toList.take (n * size) = xs)

theorem eT_own {e : Nat} (h : Nat.blt e eM = true) : eT e = e := by unfold eT; rw [h]; rfl
theorem eF_own {e k : Nat} (h : Nat.blt e eM = true) : eF e k = (0, 0) := by unfold eF; rw [h]; rfl
theorem eT_mark (e : Nat) : eT (e + eM) = e := by
  unfold eT
  have : Nat.blt (e + eM) eM = false := by
    cases h : Nat.blt (e + eM) eM with
    | false => rfl
    | true => have h : e + eM < eM := Nat.le_of_ble_eq_true h; omega
  rw [this]; simp
theorem eF_mark (e k : Nat) : eF (e + eM) k = (k, k + 1) := by
  unfold eF
  have : Nat.blt (e + eM) eM = false := by
    cases h : Nat.blt (e + eM) eM with
    | false => rfl
    | true => have h : e + eM < eM := Nat.le_of_ble_eq_true h; omega
  rw [this]; rfl
theorem eF_free (e k i : Nat) (h : i < k) : (decide ((eF e k).1 ≤ i) && decide (i < (eF e k).2)) = false := by
  unfold eF
  cases Nat.blt e eM <;> simp
  omega

theorem rowAt_own {w : World} {e size n : Nat} {v : Value} {xs : List Value} (he : Nat.blt e eM = true) (h : w.rowAt e size v n xs) : w.ownsRow 0 e size v n xs := by
  unfold World.rowAt at h
  simp only [eT_own he, eF_own he] at h
  exact h
theorem own_rowAt {w : World} {e size n : Nat} {v : Value} {xs : List Value} (he : Nat.blt e eM = true) (h : w.ownsRow 0 e size v n xs) : w.rowAt e size v n xs := by
  unfold World.rowAt
  simp only [eT_own he, eF_own he]
  exact h
theorem rowAt_nil (w : World) (e size : Nat) : w.rowAt e size (.slice none 0 0) 0 [] := ⟨by simp, .inl ⟨rfl, rfl⟩⟩
theorem _root_.Go.World.rowAt.cells {w : World} {e size n : Nat} {v : Value} {xs : List Value} (h : w.rowAt e size v n xs) {g : Nat} (hg : v.ownBlock = some g) : ∀ j u, xs[j]? = some u → w.cell? ((⟨g, 0, none⟩ : Addr).add j) = some u := by
  intro j u hu
  rcases h.2 with ⟨rfl, _⟩ | ⟨g', cap, cur, rfl, _, hgg, _, _, _, htake⟩
  · simp [Value.ownBlock] at hg
  · simp [Value.ownBlock] at hg
    subst hg
    have hadd : (⟨g', 0, none⟩ : Addr).add j = ⟨g', j, none⟩ := by unfold Addr.add; split <;> simp_all
    rw [hadd, cell_of_row w g' j cur _ _ hgg]
    rw [← htake, List.getElem?_take] at hu
    split at hu
    · simpa using hu
    · cases hu
theorem rowAt_has {w : World} {e size m : Nat} {v : Value} {xs : List Value} (h : w.rowAt e size v m xs) (b : Nat) : v.has b ↔ v.ownBlock = some b := by
  rcases h.2 with ⟨rfl, _⟩ | ⟨g, cap, cur, rfl, _⟩ <;> simp [Value.has, Value.has1, Value.ownBlock]
theorem rowAt_same {w w' : World} {e size m : Nat} {v : Value} {xs : List Value} (h : w.rowAt e size v m xs) (hb : ∀ b, v.has b → w'.heap[b]? = w.heap[b]?) : w'.rowAt e size v m xs := by
  refine ⟨h.1, ?_⟩
  rcases h.2 with hn | ⟨g, cap, cur, rfl, h1, hg, rest⟩
  · exact .inl hn
  · exact .inr ⟨g, cap, cur, rfl, h1, (hb g rfl).trans hg, rest⟩

def ER (F : Nat → Prop) (w : World) (S : Nat → Sh) (μ : Nat → Value) (id : Nat) : Entry → Prop
  | .dead => True
  | .box t cs => ∃ (b : Nat) (arr : List Value), μ id = .pointer (some ⟨b, 0, none⟩) ∧ w.heap[b]? = some (.cells arr.toArray t (0, 0)) ∧ CsR F w S μ cs arr
  | .row e t xs => 0 < t.n ∧ ∃ vs : List Value, w.rowAt e t.n (μ id) xs.length vs ∧ Els F w t xs vs ∧ ∀ v ∈ vs, v.oneCell' = true
  | .abox t e xs => 0 < e.n ∧ ∃ (b : Nat) (arr : List Value), μ id = .pointer (some ⟨b, 0, none⟩) ∧ w.heap[b]? = some (.cells arr.toArray t (0, 0)) ∧ arr.length = xs.length * e.n ∧ Els F w e xs arr ∧ ∀ v ∈ arr, v.oneCell' = true
  | .refs e id2 n => S id2 ≠ .unborn ∧ ∃ hs : List Value, w.ownsRow 0 e 1 (μ id) n hs ∧ (∀ v ∈ hs, v.oneCell' = true) ∧ ∀ t l, S id2 = .bun t l → l.length = n ∧ μ id2 = .tuple hs.toArray
  | .bun e t xss => 0 < t.n ∧ ∃ hs : List Value, μ id = .tuple hs.toArray ∧ hs.length = xss.length ∧
    (∀ (j : Nat) (h : Value) (xs : List t.D), hs[j]? = some h → xss[j]? = some xs → ∃ vs : List Value, w.ownsRow 0 e t.n h xs.length vs ∧ Els F w t xs vs ∧ ∀ v ∈ vs, v.oneCell' = true) ∧
    ∀ (i j : Nat) (h h' : Value) (b : Nat), i ≠ j → hs[i]? = some h → hs[j]? = some h' → h.has1 b → ¬ h'.has1 b

structure Rep (X : Nat → Prop) (A : Nat → Bool) (H : Nat → Entry) (μ : Nat → Value) (w : World) : Prop where
  ent : ∀ id, ER (Fr X w H μ) w (Sf A H) μ id (H id)
  sep : ∀ i j b, i ≠ j → H i ≠ .dead → H j ≠ .dead → (μ i).has b → ¬ (μ j).has b
  born : ∀ id, H id ≠ .dead → A id = true
  hid : ∀ id b, H id ≠ .dead → (μ id).has b → ¬ X b
  hlt : ∀ b, X b → b < w.heap.size

/-- Variables of the program that hold numbers: they stand where nobody owns anything. -/
def GOk (G : Gs) (X : Nat → Prop) (w : World) (H : Nat → Entry) (μ : Nat → Value) : Prop :=
  (∀ g, g ∈ G.nums → (∃ m, w.cell? ⟨g, 0, none⟩ = some (.int .i64 m)) ∧ (¬ X g ∧ ∀ id, H id ≠ .dead → ¬ (μ id).has g)) ∧
  ∀ e, e ∈ G.tabs → (e.g < w.heap.size ∧ ∃ l, Rp (fun _ => False) w e.t e.x l ∧ ∀ (i : Nat) v, l[i]? = some v → w.cell? ⟨e.g, i, none⟩ = some v) ∧ (¬ X e.g ∧ ∀ id, H id ≠ .dead → ¬ (μ id).has e.g)

variable {X : Nat → Prop} {A : Nat → Bool} {H : Nat → Entry} {μ : Nat → Value} {w : World}

theorem heap_lt {w : World} {b : Nat} {o : Obj} (h : w.heap[b]? = some o) : b < w.heap.size := (Array.getElem?_eq_some_iff.1 h).1

theorem ER.lt {F : Nat → Prop} {S : Nat → Sh} {id b : Nat} {e : Entry} (h : ER F w S μ id e) (hd : e ≠ .dead) (hb : (μ id).has b) : b < w.heap.size := by
  cases e with
  | dead => exact absurd rfl hd
  | box t cs => obtain ⟨g, arr, hm, hh, _⟩ := h; rw [hm] at hb; simp [Value.has, Value.has1] at hb; subst hb; exact heap_lt hh
  | row e t xs =>
    obtain ⟨_, vs, ho, _⟩ := h
    rcases ho.2 with ⟨hv, _⟩ | ⟨g, cap, cur, hv, _, hg, _⟩
    · rw [hv] at hb; simp [Value.has, Value.has1] at hb
    · rw [hv] at hb; simp [Value.has, Value.has1] at hb; subst hb; exact heap_lt hg
  | abox t e xs => obtain ⟨_, g, arr, hm, hh, _⟩ := h; rw [hm] at hb; simp [Value.has, Value.has1] at hb; subst hb; exact heap_lt hh
  | refs e id2 n =>
    obtain ⟨_, vs, ho, _⟩ := h
    rcases ho.2 with ⟨hv, _⟩ | ⟨g, cap, cur, hv, _, hg, _⟩
    · rw [hv] at hb; simp [Value.has, Value.has1] at hb
    · rw [hv] at hb; simp [Value.has, Value.has1] at hb; subst hb; exact heap_lt hg
  | bun e t xss =>
    obtain ⟨_, hs, hm, hl, hrow, _⟩ := h
    rw [hm] at hb
    obtain ⟨v, hv, hvb⟩ := hb
    obtain ⟨j, hj, rfl⟩ := List.getElem_of_mem hv
    simp only [List.size_toArray] at hj
    obtain ⟨vs, ho, _⟩ := hrow j hs[j] xss[j] (List.getElem?_eq_getElem hj) (List.getElem?_eq_getElem (by omega))
    rcases ho.2 with ⟨hv, _⟩ | ⟨g, cap, cur, hv, _, hg, _⟩
    · simp [hv, Value.has1] at hvb
    · simp [hv, Value.has1] at hvb; subst hvb; exact heap_lt hg

def killH (L : List Nat) (H : Nat → Entry) (id : Nat) : Entry := bif memb id L then .dead else H id

theorem memb_iff {i : Nat} : ∀ {l : List Nat}, memb i l = true ↔ i ∈ l
  | [] => by simp [memb]
  | k :: r => by
    simp only [memb, Bool.or_eq_true, List.mem_cons, memb_iff (l := r)]
    constructor
    · rintro (h | h)
      · exact .inl (Nat.eq_of_beq_eq_true h)
      · exact .inr h
    · rintro (h | h)
      · subst h; exact .inl (Nat.beq_refl _)
      · exact .inr h

theorem killH_live {L : List Nat} {id : Nat} (h : killH L H id ≠ .dead) : id ∉ L ∧ H id ≠ .dead ∧ killH L H id = H id := by
  unfold killH at *
  cases hm : memb id L with
  | true => rw [hm] at h; exact absurd rfl h
  | false =>
    rw [hm] at h
    refine ⟨fun hi => ?_, h, rfl⟩
    rw [memb_iff.2 hi] at hm; cases hm

theorem Fr.kill {L M : List Nat} (hs : ∀ i, i ∈ L → i ∈ M) {b : Nat} (h : Fr X w (killH L H) μ b) : Fr X w (killH M H) μ b := by
  refine ⟨h.1, fun id hd => ?_⟩
  obtain ⟨h1, h2, _⟩ := killH_live hd
  refine h.2 id ?_
  unfold killH
  cases hm : memb id L with
  | true => exact absurd (hs _ (memb_iff.1 hm)) h1
  | false => exact h2

theorem killH_nil : killH [] H = H := rfl

theorem Fr.kill' {M : List Nat} {b : Nat} (h : Fr X w H μ b) : Fr X w (killH M H) μ b := Fr.kill (L := []) (fun _ h => by cases h) h

theorem drop_take_get {l : List Value} {j n i : Nat} {v : Value} (h : ((l.drop (j * n)).take n)[i]? = some v) : l[j * n + i]? = some v := by
  rw [List.getElem?_take] at h
  split at h
  · rwa [List.getElem?_drop] at h
  · cases h

/-- A row of the call's own, frozen: it reads as a value. -/
theorem row_value (hr : Rep X A H μ w) {id e : Nat} {t : Ty} {xs : List t.D} (he : H id = .row e t xs) (L : List Nat) (hL : id ∈ L) : Rp (Fr X w (killH L H) μ) w (.sl t) xs [μ id] := by
  have h := hr.ent id
  rw [he] at h
  obtain ⟨hp, vs, ho, hels, _⟩ := h
  have hels' : Els (Fr X w (killH L H) μ) w t xs vs := fun j hj => (hels j hj).mono (fun b hb => Fr.kill' hb) (fun _ _ => rfl)
  rcases ho.2 with ⟨hv, hn⟩ | ⟨g, cap, cur, hv, _, hg, hnc, hcm, _⟩
  · have hx : xs = [] := List.eq_nil_of_length_eq_zero hn
    subst hx
    rw [hv]
    exact .sl t [] none 0 (fun _ => []) (Nat.le_refl _) (Nat.zero_le _) (fun j hj => by simp at hj) (fun j hj => by simp at hj)
  · rw [hv]
    refine .sl t xs _ cap (fun j => (vs.drop (j * t.n)).take t.n) hnc hcm (fun j hj => ⟨_, rfl, ⟨⟨heap_lt hg, hr.hid id g (by rw [he]; simp) (by rw [hv]; rfl)⟩, fun id' hd => ?_⟩, fun i v hiv => ?_⟩) hels'
    · obtain ⟨h1, h2, _⟩ := killH_live hd
      have hne : id ≠ id' := fun e => h1 (e ▸ hL)
      exact hr.sep id id' g hne (by rw [he]; simp) h2 (by rw [hv]; rfl)
    · exact ho.cells (g := g) (by rw [hv]; rfl) _ _ (drop_take_get hiv)

theorem win_value (hr : Rep X A H μ w) {id e : Nat} {t : Ty} {xs : List t.D} (he : H id = .row e t xs) (L : List Nat) (hL : id ∈ L) {a b : Int} {u : Value} (hx : CR0 (Fr X w H μ) w (Sf A H) μ (.wr id a b) u) : Rp (Fr X w (killH L H) μ) w (.sl t) (sub xs a b) [u] := by
  have hA := hr.born id (by rw [he]; simp)
  simp only [CR0, Sf, hA, he, Entry.sh, cond_true] at hx
  obtain ⟨h0, h1, h2, A1, A', c, c', hm, rfl, hc1, hc2, hblk⟩ := hx
  have h := hr.ent id
  rw [he] at h
  obtain ⟨hp, vs, ho, hels, _⟩ := h
  have hsl : (sub xs a b).length = b.toNat - a.toNat := by unfold sub; simp; omega
  rcases hblk with hz | ⟨blk, rfl, rfl⟩
  · have hx : sub xs a b = [] := List.eq_nil_of_length_eq_zero (by rw [hsl, hz])
    rw [hx, hz]
    exact .sl t [] A' c' (fun _ => []) (Nat.zero_le _) hc2 (fun j hj => by simp at hj) (fun j hj => by simp at hj)
  · rw [show b.toNat - a.toNat = (sub xs a b).length from hsl.symm]
    rw [← hsl] at hc1
    refine .sl t (sub xs a b) _ c' (fun j => (vs.drop ((a.toNat + j) * t.n)).take t.n) hc1 hc2 (fun j hj => ⟨_, rfl, ⟨⟨?_, hr.hid id blk (by rw [he]; simp) (by rw [hm]; rfl)⟩, fun id' hd => ?_⟩, fun i v hiv => ?_⟩) (fun j hj => ?_)
    · rcases ho.2 with ⟨hv, hn⟩ | ⟨g, cap, cur, hv, _, hg, _⟩
      · rw [hm] at hv; simp at hv
      · rw [hm] at hv
        simp only [Value.slice.injEq, Option.some.injEq, Addr.mk.injEq, and_true, true_and] at hv
        obtain ⟨rfl, _⟩ := hv
        exact heap_lt hg
    · obtain ⟨h1, h2, _⟩ := killH_live hd
      have hne : id ≠ id' := fun e => h1 (e ▸ hL)
      exact hr.sep id id' blk hne (by rw [he]; simp) h2 (by rw [hm]; rfl)
    · have hc := ho.cells (g := blk) (by rw [hm]; rfl) _ _ (drop_take_get hiv)
      rw [Addr.add_mid] at hc ⊢
      rw [show a.toNat * t.n + (j * t.n + i) = 0 + ((a.toNat + j) * t.n + i) by rw [Nat.add_mul]; omega]
      exact hc
    · have hj2 : a.toNat + j < xs.length := by rw [hsl] at hj; omega
      have e : (sub xs a b)[j] = xs[a.toNat + j] := by
        have h3 : (sub xs a b)[j]? = xs[a.toNat + j]? := by
          unfold sub
          rw [List.getElem?_drop, List.getElem?_take, if_pos (by omega)]
        rw [List.getElem?_eq_getElem hj, List.getElem?_eq_getElem hj2] at h3
        exact Option.some.inj h3
      rw [e]
      exact (hels _ hj2).mono (fun b hb => Fr.kill' hb) (fun _ _ => rfl)

theorem cast_ok {F : Nat → Prop} {t u : Ty} {x : t.D} {y : u.D} {l : List Value} (hc : cast? t u x = some y) (h : Rp F w t x l) : Rp F w u y l := by
  unfold cast? at hc
  split at hc
  · rename_i h'
    have e := Ty.eq_sound h'
    subst e
    cases hc
    exact h
  · cases hc

theorem sl_sh {t t' : Ty} {xs : List t'.D} {y : (Ty.sl t).D} (h : cast? (.sl t') (.sl t) xs = some y) : t' = t ∧ HEq xs y := by
  unfold cast? at h
  split at h
  · rename_i h'
    have e := Ty.eq_sound h'
    cases e
    cases h
    exact ⟨rfl, HEq.rfl⟩
  · cases h

/-! ### Packing -/

section
variable {α : Type} (hr : Rep X A H μ w)
include hr

theorem pk1_ok {t : Ty} (ht : t.agg = false) {c : C} {u : Value} {fz : List Nat} {k : t.D → List Nat → Tree α} {r : α}
    (hc : CR (Fr X w H μ) w (Sf A H) μ c u) (h : (pk1 t c fz k).Sel H r) :
    ∃ y fz', (k y fz').Sel H r ∧ (∀ i, i ∈ fz → i ∈ fz') ∧ Rp (Fr X w (killH fz' H) μ) w t y [u] := by
  unfold pk1 at h
  cases c with
  | none => exact h.elim
  | v t' x =>
    simp only at h
    cases hy : cast? t' t x with
    | none => rw [hy] at h; exact h.elim
    | some y =>
      rw [hy] at h
      exact ⟨y, fz, h, fun _ h => h, (cast_ok hy hc.2.2).mono (fun b hb => Fr.kill' hb) (fun _ _ => rfl)⟩
  | nils =>
    simp only [cast?] at h
    cases t <;> simp only [Ty.eq] at h <;> first | exact h.elim | skip
    obtain ⟨_, hc⟩ := hc
    simp only [CR0] at hc
    subst hc
    exact ⟨_, fz, h, fun _ h => h, .sl _ [] none 0 (fun _ => []) (Nat.le_refl _) (Nat.zero_le _) (fun j hj => by simp at hj) (fun j hj => by simp at hj)⟩
  | os id =>
    simp only [Tree.Sel] at h
    cases he : H id with
    | row e t' xs =>
      rw [he] at h
      simp only at h
      cases hy : cast? (.sl t') t xs with
      | none => rw [hy] at h; exact h.elim
      | some y =>
        rw [hy] at h
        have hb := hr.born id (by rw [he]; simp)
        obtain ⟨_, hc⟩ := hc
        simp only [CR0, Sf, hb, he, Entry.sh, cond_true] at hc
        subst hc
        exact ⟨y, id :: fz, h, fun _ h => .tail _ h, cast_ok hy (row_value hr he (id :: fz) (.head _))⟩
    | dead => rw [he] at h; exact h.elim
    | box _ _ => rw [he] at h; exact h.elim
    | abox _ _ _ => rw [he] at h; exact h.elim
    | refs _ _ _ => rw [he] at h; exact h.elim
    | bun _ _ _ => rw [he] at h; exact h.elim
  | nilp => exact h.elim
  | nilf => exact h.elim
  | ra _ _ => exact h.elim
  | ptr _ _ => exact h.elim
  | oa _ _ _ => exact h.elim
  | fn _ _ _ => exact h.elim
  | osi _ _ => exact h.elim
  | wr id a b =>
    simp only [Tree.Sel] at h
    cases he : H id with
    | row e t' xs =>
      rw [he] at h
      simp only at h
      cases hy : cast? (.sl t') t (sub xs a b) with
      | none => rw [hy] at h; exact h.elim
      | some y =>
        rw [hy] at h
        exact ⟨y, id :: fz, h, fun _ h => .tail _ h, cast_ok hy (win_value hr he (id :: fz) (.head _) hc.2)⟩
    | dead => rw [he] at h; exact h.elim
    | box _ _ => rw [he] at h; exact h.elim
    | abox _ _ _ => rw [he] at h; exact h.elim
    | refs _ _ _ => rw [he] at h; exact h.elim
    | bun _ _ _ => rw [he] at h; exact h.elim
  | we _ _ _ _ _ => exact h.elim
  | wb _ _ _ _ => exact h.elim
  | sb _ _ => exact h.elim
  | pn _ => exact h.elim
  | sd _ => exact h.elim
  | oai _ _ _ _ => exact h.elim

/-- What a packing of some leading cells ends in. -/
def PkPost {A : Nat → Bool} {α : Type} (X : Nat → Prop) (H : Nat → Entry) (μ : Nat → Value) (w : World) (t : Ty) (n : Nat) (fz : List Nat) (us : List Value) (S : Nat → Sh) (k : t.D → List C → List Nat → Tree α) (r : α) : Prop :=
  ∃ y cs' u1 u2 fz', us = u1 ++ u2 ∧ u1.length = n ∧ (k y cs' fz').Sel H r ∧ (∀ i, i ∈ fz → i ∈ fz') ∧ Rp (Fr X w (killH fz' H) μ) w t y u1 ∧ CsR (Fr X w H μ) w S μ cs' u2

theorem pk1_step {t : Ty} (ht : t.agg = false) (hn : t.n = 1) {cs : List C} {us : List Value} {fz : List Nat} {k : t.D → List C → List Nat → Tree α} {r : α} {c : C}
    (hc : CsR (Fr X w H μ) w (Sf A H) μ (c :: cs) us) (h : (pk1 t c fz fun x fz => k x cs fz).Sel H r) : PkPost (A := A) X H μ w t t.n fz us (Sf A H) k r := by
  cases hc with
  | cons _ u _ us' h1 h2 =>
    obtain ⟨y, fz', hk, hs, hy⟩ := pk1_ok hr ht h1 h
    exact ⟨y, cs, [u], us', fz', rfl, by simp [hn], hk, hs, hy, h2⟩

theorem pkN_ok {t : Ty} (p : List C → List Nat → (t.D → List C → List Nat → Tree α) → Tree α)
    (hp : ∀ (cs : List C) (us : List Value) (fz : List Nat) (k : t.D → List C → List Nat → Tree α) (r : α), CsR (Fr X w H μ) w (Sf A H) μ cs us → (p cs fz k).Sel H r → PkPost (A := A) X H μ w t t.n fz us (Sf A H) k r) :
    ∀ (n : Nat) (cs : List C) (us : List Value) (fz : List Nat) (k : List t.D → List C → List Nat → Tree α) (r : α), CsR (Fr X w H μ) w (Sf A H) μ cs us → (pkN p n cs fz k).Sel H r →
      ∃ ys cs' u1 u2 fz', us = u1 ++ u2 ∧ u1.length = n * t.n ∧ ys.length = n ∧ (k ys cs' fz').Sel H r ∧ (∀ i, i ∈ fz → i ∈ fz') ∧ Els (Fr X w (killH fz' H) μ) w t ys u1 ∧ CsR (Fr X w H μ) w (Sf A H) μ cs' u2
  | 0, cs, us, fz, k, r, hc, h => ⟨[], cs, [], us, fz, rfl, by simp, rfl, h, fun _ h => h, fun j hj => by simp at hj, hc⟩
  | n + 1, cs, us, fz, k, r, hc, h => by
    obtain ⟨y, cs1, u1, u2, fz1, rfl, hl1, h1, hs1, hy, hc1⟩ := hp cs us fz _ r hc h
    obtain ⟨ys, cs2, v1, v2, fz2, rfl, hl2, hly, h2, hs2, hys, hc2⟩ := pkN_ok p hp n cs1 u2 fz1 _ r hc1 h1
    refine ⟨y :: ys, cs2, u1 ++ v1, v2, fz2, by simp, by simp [hl1, hl2, Nat.succ_mul, Nat.add_comm], by simp [hly], h2, fun i hi => hs2 i (hs1 i hi), fun j hj => ?_, hc2⟩
    cases j with
    | zero =>
      have : ((u1 ++ v1).drop (0 * t.n)).take t.n = u1 := by simp [← hl1]
      rw [this]
      exact hy.mono (fun b hb => Fr.kill hs2 hb) (fun _ _ => rfl)
    | succ j =>
      have : (u1 ++ v1).drop ((j + 1) * t.n) = v1.drop (j * t.n) := by
        rw [Nat.succ_mul, Nat.add_comm, ← List.drop_drop, ← hl1, List.drop_left]
      rw [this]
      exact hys j (by simpa using hj)

theorem pk_ok : ∀ {t : Ty} {cs : List C} {us : List Value} {fz : List Nat} {k : t.D → List C → List Nat → Tree α} {r : α}, CsR (Fr X w H μ) w (Sf A H) μ cs us → (pk t cs fz k).Sel H r → PkPost (A := A) X H μ w t t.n fz us (Sf A H) k r := by
  intro t
  induction t with
  | int i =>
    intro cs us fz k r hc h
    cases cs with
    | nil => exact h.elim
    | cons c cs => exact pk1_step hr rfl rfl hc h
  | bool =>
    intro cs us fz k r hc h
    cases cs with
    | nil => exact h.elim
    | cons c cs => exact pk1_step hr rfl rfl hc h
  | str =>
    intro cs us fz k r hc h
    cases cs with
    | nil => exact h.elim
    | cons c cs => exact pk1_step hr rfl rfl hc h
  | sl t =>
    intro cs us fz k r hc h
    cases cs with
    | nil => exact h.elim
    | cons c cs => exact pk1_step hr rfl rfl hc h
  | pair a b iha ihb =>
    intro cs us fz k r hc h
    obtain ⟨y, cs1, u1, u2, fz1, rfl, hl1, h1, hs1, hy, hc1⟩ := iha hc h
    obtain ⟨z, cs2, v1, v2, fz2, rfl, hl2, h2, hs2, hz, hc2⟩ := ihb hc1 h1
    exact ⟨(y, z), cs2, u1 ++ v1, v2, fz2, by simp, by simp [hl1, hl2, Ty.n], h2, fun i hi => hs2 i (hs1 i hi), .pair _ _ _ _ _ _ (hy.mono (fun b hb => Fr.kill hs2 hb) (fun _ _ => rfl)) hz, hc2⟩
  | one t ih =>
    intro cs us fz k r hc h
    obtain ⟨y, cs1, u1, u2, fz1, rfl, hl1, h1, hs1, hy, hc1⟩ := ih hc h
    exact ⟨y, cs1, u1, u2, fz1, rfl, hl1, h1, hs1, .one _ _ _ hy, hc1⟩
  | arr n t ih =>
    intro cs us fz k r hc h
    obtain ⟨ys, cs1, u1, u2, fz1, rfl, hl1, hly, h1, hs1, hy, hc1⟩ := pkN_ok hr (t := t) (pk t) (fun cs us fz k r => ih) n cs us fz k r hc h
    exact ⟨ys, cs1, u1, u2, fz1, rfl, by simpa [Ty.n] using hl1, h1, hs1, .arr _ _ _ _ hly hl1 hy, hc1⟩
  | node =>
    intro cs us fz k r hc h
    match cs, hc, h with
    | c0 :: c1 :: c2 :: c3 :: c4 :: c5 :: cs, .cons _ u0 _ _ g0 (.cons _ u1 _ _ g1 (.cons _ u2 _ _ g2 (.cons _ u3 _ _ g3 (.cons _ u4 _ _ g4 (.cons _ u5 _ us g5 hc))))), h =>
      obtain ⟨y0, f0, h0, s0, p0⟩ := pk1_ok hr rfl g0 h
      obtain ⟨y1, f1, h1, s1, p1⟩ := pk1_ok hr rfl g1 h0
      obtain ⟨y2, f2, h2, s2, p2⟩ := pk1_ok hr rfl g2 h1
      obtain ⟨y3, f3, h3, s3, p3⟩ := pk1_ok hr rfl g3 h2
      obtain ⟨y4, f4, h4, s4, p4⟩ := pk1_ok hr rfl g4 h3
      obtain ⟨y5, f5, h5, s5, p5⟩ := pk1_ok hr rfl g5 h4
      refine ⟨_, cs, [u0, u1, u2, u3, u4, u5], us, f5, rfl, rfl, h5, fun i hi => s5 i (s4 i (s3 i (s2 i (s1 i (s0 i hi))))), .node _ _ _ _ _ _ _ _ _ _ _ _ ?_ ?_ ?_ ?_ ?_ p5, hc⟩
      · exact p0.mono (fun b hb => Fr.kill (fun i hi => s5 i (s4 i (s3 i (s2 i (s1 i hi))))) hb) (fun _ _ => rfl)
      · exact p1.mono (fun b hb => Fr.kill (fun i hi => s5 i (s4 i (s3 i (s2 i hi)))) hb) (fun _ _ => rfl)
      · exact p2.mono (fun b hb => Fr.kill (fun i hi => s5 i (s4 i (s3 i hi))) hb) (fun _ _ => rfl)
      · exact p3.mono (fun b hb => Fr.kill (fun i hi => s5 i (s4 i hi)) hb) (fun _ _ => rfl)
      · exact p4.mono (fun b hb => Fr.kill (fun i hi => s5 i hi) hb) (fun _ _ => rfl)
    | [], _, h => exact h.elim
    | [_], _, h => exact h.elim
    | [_, _], _, h => exact h.elim
    | [_, _, _], _, h => exact h.elim
    | [_, _, _, _], _, h => exact h.elim
    | [_, _, _, _, _], _, h => exact h.elim

/-- A typed value, of one cell or of several. -/
def VR (F : Nat → Prop) (w : World) (t : Ty) (x : t.D) (u : Value) : Prop := (t.agg = false ∧ Rp F w t x [u]) ∨ (t.agg = true ∧ ∃ l : List Value, u = .agg l.toArray ∧ Rp F w t x l)

theorem pkQ_ok {t : Ty} {q : Q} {u : Value} {fz : List Nat} {k : t.D → List Nat → Tree α} {r : α} (hq : QR (Fr X w H μ) w (Sf A H) μ q u) (h : (pkQ t q fz k).Sel H r) :
    ∃ y fz', (k y fz').Sel H r ∧ (∀ i, i ∈ fz → i ∈ fz') ∧ VR (Fr X w (killH fz' H) μ) w t y u := by
  cases q with
  | ce c =>
    simp only [pkQ] at h
    cases ha : t.agg with
    | true => rw [ha] at h; exact h.elim
    | false =>
      rw [ha] at h
      obtain ⟨y, cs', u1, u2, fz', he, hl, hk, hs, hy, _⟩ := pk_ok hr (.cons c u [] [] hq .nil) h
      have hn : t.n = 1 := by cases t <;> simp [Ty.agg] at ha <;> rfl
      rw [hn] at hl
      match u1, hl, he with
      | [v], _, he =>
        simp at he
        obtain ⟨rfl, rfl⟩ := he
        exact ⟨y, fz', hk, hs, .inl ⟨ha, hy⟩⟩
  | ag t' x =>
    obtain ⟨ha, l, rfl, hx⟩ := hq
    simp only [pkQ] at h
    cases hy : cast? t' t x with
    | some y =>
      rw [hy] at h
      have hy' := cast_ok hy hx
      have ht : t.agg = true := by
        unfold cast? at hy
        split at hy
        · rename_i h'; rw [← Ty.eq_sound h']; exact ha
        · cases hy
      exact ⟨y, fz, h, fun _ h => h, .inr ⟨ht, l, rfl, hy'.mono (fun b hb => Fr.kill' hb) (fun _ _ => rfl)⟩⟩
    | none =>
      rw [hy] at h
      simp only at h
      cases hb : (t.agg && Nat.beq t'.n t.n) with
      | false => rw [hb] at h; exact h.elim
      | true =>
        rw [hb] at h
        simp only [Bool.and_eq_true] at hb
        obtain ⟨y, cs', u1, u2, fz', he, hl, hk, hs, hy, _⟩ := pk_ok hr (unpack_ok hx) h
        have h1 := hx.len
        have h2 := Nat.eq_of_beq_eq_true hb.2
        have hu2 : u2 = [] := List.eq_nil_of_length_eq_zero (by have := congrArg List.length he; simp at this; omega)
        subst hu2
        simp at he
        subst he
        exact ⟨y, fz', hk, hs, .inr ⟨hb.1, l, rfl, hy⟩⟩
  | un => exact h.elim
  | sc cs =>
    obtain ⟨l, rfl, hcs⟩ := hq
    simp only [pkQ] at h
    cases hb : (t.agg && Nat.beq cs.length t.n) with
    | false => rw [hb] at h; exact h.elim
    | true =>
      rw [hb] at h
      simp only [Bool.and_eq_true] at hb
      obtain ⟨y, cs', u1, u2, fz', he, hl, hk, hs, hy, _⟩ := pk_ok hr hcs h
      have h1 := hcs.len
      have h2 := Nat.eq_of_beq_eq_true hb.2
      have hu2 : u2 = [] := List.eq_nil_of_length_eq_zero (by have := congrArg List.length he; simp at this; omega)
      subst hu2
      simp at he
      subst he
      exact ⟨y, fz', hk, hs, .inr ⟨hb.1, l, rfl, hy⟩⟩
end

theorem asQ_ok {F : Nat → Prop} {S : Nat → Sh} {t : Ty} {x : t.D} {u : Value} (h : VR F w t x u) : QR F w S μ (asQ t x) u := by
  unfold asQ
  rcases h with ⟨ha, h⟩ | ⟨ha, l, rfl, h⟩
  · rw [ha]; exact ⟨h.cell ha, ha, h⟩
  · rw [ha]; exact ⟨ha, l, rfl, h⟩

theorem cells_one {u : Value} (h : u.oneCell' = true) : u.cells = #[u] := by cases u <;> first | rfl | (simp [Value.oneCell'] at h)

theorem cells_ok {F : Nat → Prop} {S : Nat → Sh} {q : Q} {u : Value} (h : QR F w S μ q u) (hq : q ≠ .un) : CsR F w S μ q.cells u.cells.toList := by
  cases q with
  | ce c => rw [cells_one h.1]; exact .cons c u [] [] h .nil
  | ag t x => obtain ⟨_, l, rfl, hr⟩ := h; exact unpack_ok (by simpa [Value.cells] using hr)
  | sc cs => obtain ⟨l, rfl, hr⟩ := h; exact hr
  | un => exact absurd rfl hq

/-! ### Parts of typed values -/

def LensOk {t u : Ty} (x : t.D) (y : u.D) (s : u.D → t.D) (off n : Nat) (ag : Bool) : Prop :=
  u.agg = ag ∧ u.n = n ∧ off + n ≤ t.n ∧
  (∀ (F : Nat → Prop) (w : World) (l : List Value), Rp F w t x l → Rp F w u y ((l.drop off).take n)) ∧
  (∀ (F : Nat → Prop) (w : World) (l : List Value), Rp F w t x l → ∀ z l', Rp F w u z l' → Rp F w t (s z) (l.take off ++ l' ++ l.drop (off + n)))

theorem LensOk.whole {t : Ty} (x : t.D) {n : Nat} {ag : Bool} (ha : t.agg = ag) (hn : t.n = n) : LensOk x x (fun y => y) 0 n ag := by
  subst hn
  refine ⟨ha, rfl, by simp, fun F w l h => ?_, fun F w l h z l' hz => ?_⟩
  · simpa [← h.len] using h
  · simpa [← h.len] using hz

theorem lens_ok : ∀ {t : Ty} {x : t.D} {off n : Nat} {ag : Bool} {u : Ty} {y : u.D} {s : u.D → t.D}, lens t x off n ag = some ⟨u, y, s⟩ → LensOk x y s off n ag := by
  intro t
  induction t with
  | int k =>
    intro x off n ag u y s h
    match off, n, ag, h with
    | 0, 1, false, h => simp only [lens, Option.some.injEq] at h; cases h; exact LensOk.whole _ rfl rfl
    | 0, 0, _, h => simp [lens] at h
    | 0, n + 2, _, h => simp [lens] at h
    | 0, 1, true, h => simp [lens] at h
    | off + 1, _, _, h => simp [lens] at h
  | bool =>
    intro x off n ag u y s h
    match off, n, ag, h with
    | 0, 1, false, h => simp only [lens, Option.some.injEq] at h; cases h; exact LensOk.whole _ rfl rfl
    | 0, 0, _, h => simp [lens] at h
    | 0, n + 2, _, h => simp [lens] at h
    | 0, 1, true, h => simp [lens] at h
    | off + 1, _, _, h => simp [lens] at h
  | str =>
    intro x off n ag u y s h
    match off, n, ag, h with
    | 0, 1, false, h => simp only [lens, Option.some.injEq] at h; cases h; exact LensOk.whole _ rfl rfl
    | 0, 0, _, h => simp [lens] at h
    | 0, n + 2, _, h => simp [lens] at h
    | 0, 1, true, h => simp [lens] at h
    | off + 1, _, _, h => simp [lens] at h
  | sl t =>
    intro x off n ag u y s h
    match off, n, ag, h with
    | 0, 1, false, h => simp only [lens, Option.some.injEq] at h; cases h; exact LensOk.whole _ rfl rfl
    | 0, 0, _, h => simp [lens] at h
    | 0, n + 2, _, h => simp [lens] at h
    | 0, 1, true, h => simp [lens] at h
    | off + 1, _, _, h => simp [lens] at h
  | pair a b iha ihb =>
    intro x off n ag u y s h
    unfold lens at h
    cases h1 : (Nat.beq off 0 && Nat.beq (a.n + b.n) n && ag) with
    | true =>
      rw [h1] at h
      simp only [cond_true, Option.some.injEq] at h
      simp only [Bool.and_eq_true] at h1
      have ho := Nat.eq_of_beq_eq_true h1.1.1
      have hn := Nat.eq_of_beq_eq_true h1.1.2
      subst ho
      cases h
      exact LensOk.whole (t := .pair a b) _ (by simp [Ty.agg, h1.2]) (by simpa [Ty.n] using hn)
    | false =>
      rw [h1] at h
      simp only [cond_false] at h
      cases h2 : Nat.blt off a.n with
      | true =>
        rw [h2] at h
        simp only [cond_true, Option.map_eq_some_iff] at h
        obtain ⟨⟨u', g, s'⟩, hl, he⟩ := h
        cases he
        obtain ⟨k1, k2, k3, k4, k5⟩ := iha hl
        refine ⟨k1, k2, by simp only [Ty.n]; omega, fun F w l h => ?_, fun F w l h z l' hz => ?_⟩
        · obtain ⟨l1, l2, rfl, r1, r2⟩ := h.pair_inv
          have := k4 F w l1 r1
          have hl1 := r1.len
          rw [List.drop_append_of_le_length (by omega), List.take_append_of_le_length (by simp; omega)]
          exact this
        · obtain ⟨l1, l2, rfl, r1, r2⟩ := h.pair_inv
          have hl1 := r1.len
          have := k5 F w l1 r1 z l' hz
          rw [List.take_append_of_le_length (by omega), List.drop_append_of_le_length (by omega), ← List.append_assoc]
          exact .pair _ _ _ _ _ _ this r2
      | false =>
        rw [h2] at h
        simp only [cond_false, Option.map_eq_some_iff] at h
        obtain ⟨⟨u', g, s'⟩, hl, he⟩ := h
        cases he
        have h3 : a.n ≤ off := by
          rcases Nat.lt_or_ge off a.n with h | h
          · simp [Nat.blt, Nat.ble_eq_true_of_le h] at h2
          · exact h
        obtain ⟨k1, k2, k3, k4, k5⟩ := ihb hl
        refine ⟨k1, k2, by simp only [Ty.n]; omega, fun F w l h => ?_, fun F w l h z l' hz => ?_⟩
        · obtain ⟨l1, l2, rfl, r1, r2⟩ := h.pair_inv
          have hl1 := r1.len
          have := k4 F w l2 r2
          rw [List.drop_append, List.drop_of_length_le (by omega), List.nil_append, hl1]
          exact this
        · obtain ⟨l1, l2, rfl, r1, r2⟩ := h.pair_inv
          have hl1 := r1.len
          have := k5 F w l2 r2 z l' hz
          rw [List.take_append, List.take_of_length_le (by omega), List.drop_append, List.drop_of_length_le (by omega), List.nil_append, hl1, List.append_assoc, List.append_assoc]
          rw [show off + n - a.n = off - a.n + n from by omega]
          rw [List.append_assoc] at this
          exact .pair _ _ _ _ _ _ r1 this
  | one t ih =>
    intro x off n ag u y s h
    unfold lens at h
    cases h1 : (Nat.beq off 0 && Nat.beq t.n n && ag) with
    | true =>
      rw [h1] at h
      injection h with h
      simp only [Bool.and_eq_true] at h1
      have ho := Nat.eq_of_beq_eq_true h1.1.1
      have hn := Nat.eq_of_beq_eq_true h1.1.2
      subst ho
      cases h
      exact LensOk.whole (t := .one t) _ (by simp [Ty.agg, h1.2]) (by simpa [Ty.n] using hn)
    | false =>
      rw [h1] at h
      obtain ⟨k1, k2, k3, k4, k5⟩ := ih (x := x) h
      exact ⟨k1, k2, k3, fun F w l h => k4 F w l h.one_inv, fun F w l h z l' hz => .one _ _ _ (k5 F w l h.one_inv z l' hz)⟩
  | arr k t _ =>
    intro x off n ag u y s h
    unfold lens at h
    cases h1 : (Nat.beq off 0 && Nat.beq (k * t.n) n && ag) with
    | true =>
      rw [h1] at h
      simp only [cond_true, Option.some.injEq] at h
      simp only [Bool.and_eq_true] at h1
      have ho := Nat.eq_of_beq_eq_true h1.1.1
      have hn := Nat.eq_of_beq_eq_true h1.1.2
      subst ho
      cases h
      exact LensOk.whole (t := .arr k t) _ (by simp [Ty.agg, h1.2]) (by simpa [Ty.n] using hn)
    | false => rw [h1] at h; cases h
  | node =>
    intro x off n ag u y s h
    unfold lens at h
    cases h1 : (Nat.beq n 6 && ag && Nat.beq off 0) with
    | true =>
      rw [h1] at h
      simp only [cond_true, Option.some.injEq] at h
      simp only [Bool.and_eq_true] at h1
      have ho := Nat.eq_of_beq_eq_true h1.2
      have hn := Nat.eq_of_beq_eq_true h1.1.1
      subst ho; subst hn
      cases h
      exact LensOk.whole (t := .node) _ (by simp [Ty.agg, h1.1.2]) rfl
    | false =>
      rw [h1] at h
      simp only [cond_false] at h
      cases h2 : (Nat.beq n 1 && !ag) with
      | false => rw [h2] at h; cases h
      | true =>
        rw [h2] at h
        simp only [Bool.and_eq_true] at h2
        have hn := Nat.eq_of_beq_eq_true h2.1
        have ha : ag = false := by simpa using h2.2
        subst hn; subst ha
        simp only [cond_true] at h
        match off, h with
        | 0, h =>
          cases h
          refine ⟨rfl, rfl, by decide, fun F w l h => ?_, fun F w l h z l' hz => ?_⟩ <;> obtain ⟨v0, v1, v2, v3, v4, v5, rfl, r0, r1, r2, r3, r4, r5⟩ := h.node_inv
          · exact r0
          · obtain ⟨v, rfl⟩ := List.length_eq_one_iff.1 hz.len; exact .node _ _ _ _ _ _ _ _ _ _ _ _ hz r1 r2 r3 r4 r5
        | 1, h =>
          cases h
          refine ⟨rfl, rfl, by decide, fun F w l h => ?_, fun F w l h z l' hz => ?_⟩ <;> obtain ⟨v0, v1, v2, v3, v4, v5, rfl, r0, r1, r2, r3, r4, r5⟩ := h.node_inv
          · exact r1
          · obtain ⟨v, rfl⟩ := List.length_eq_one_iff.1 hz.len; exact .node _ _ _ _ _ _ _ _ _ _ _ _ r0 hz r2 r3 r4 r5
        | 2, h =>
          cases h
          refine ⟨rfl, rfl, by decide, fun F w l h => ?_, fun F w l h z l' hz => ?_⟩ <;> obtain ⟨v0, v1, v2, v3, v4, v5, rfl, r0, r1, r2, r3, r4, r5⟩ := h.node_inv
          · exact r2
          · obtain ⟨v, rfl⟩ := List.length_eq_one_iff.1 hz.len; exact .node _ _ _ _ _ _ _ _ _ _ _ _ r0 r1 hz r3 r4 r5
        | 3, h =>
          cases h
          refine ⟨rfl, rfl, by decide, fun F w l h => ?_, fun F w l h z l' hz => ?_⟩ <;> obtain ⟨v0, v1, v2, v3, v4, v5, rfl, r0, r1, r2, r3, r4, r5⟩ := h.node_inv
          · exact r3
          · obtain ⟨v, rfl⟩ := List.length_eq_one_iff.1 hz.len; exact .node _ _ _ _ _ _ _ _ _ _ _ _ r0 r1 r2 hz r4 r5
        | 4, h =>
          cases h
          refine ⟨rfl, rfl, by decide, fun F w l h => ?_, fun F w l h z l' hz => ?_⟩ <;> obtain ⟨v0, v1, v2, v3, v4, v5, rfl, r0, r1, r2, r3, r4, r5⟩ := h.node_inv
          · exact r4
          · obtain ⟨v, rfl⟩ := List.length_eq_one_iff.1 hz.len; exact .node _ _ _ _ _ _ _ _ _ _ _ _ r0 r1 r2 r3 hz r5
        | 5, h =>
          cases h
          refine ⟨rfl, rfl, by decide, fun F w l h => ?_, fun F w l h z l' hz => ?_⟩ <;> obtain ⟨v0, v1, v2, v3, v4, v5, rfl, r0, r1, r2, r3, r4, r5⟩ := h.node_inv
          · exact r5
          · obtain ⟨v, rfl⟩ := List.length_eq_one_iff.1 hz.len; exact .node _ _ _ _ _ _ _ _ _ _ _ _ r0 r1 r2 r3 r4 hz
        | off + 6, h => simp at h
end Vi

set_option autoImplicit false
namespace Vi
open Go

/-! ### Types -/

inductive DeOk : TypeDesc → De → Prop where
  | sl (e : Nat) : DeOk (.slice e) (.sl e)
  | ar (k e : Nat) : DeOk (.array k e) (.ar k e)
  | pt (e : Nat) : DeOk (.pointer e) (.pt e)
  | st (fs : Array Field) : DeOk (.struct fs) (.st (fs.toList.map fun f => (f.offset, f.type)))
  | sc (d : TypeDesc) : DeOk d .sc
  | ot (d : TypeDesc) : DeOk d .ot

/-- A cell that is known stands for a value by itself, with no memory. -/
def zeroC : C → Value → Bool
  | .none, u => u.oneCell'
  | .v (.int k) x, .int k' y => kindEq k k' && eqI x y && litB k x
  | .v .bool x, .bool y => eqB x y
  | .v .str x, .string s => List.isEmpty x && s.data.toList.isEmpty
  | .nils, .slice none 0 0 => true
  | .nilp, .pointer none => true
  | .nilf, .nilFunc => true
  | _, _ => false

def zeroCs : List C → List Value → Bool
  | [], [] => true
  | c :: cs, v :: vs => zeroC c v && zeroCs cs vs
  | _, _ => false

def zero1 : Ty → Value → Bool
  | .int k, .int k' x => kindEq k k' && decide (x = 0)
  | .bool, .bool b => !b
  | .str, .string s => s.data.toList.isEmpty
  | .sl _, .slice none 0 0 => true
  | _, _ => false

def zeroN (f : List Value → Option (List Value)) : Nat → List Value → Option (List Value)
  | 0, l => some l
  | k + 1, l => (f l).bind (zeroN f k)

/-- A type's zero value, as cells. -/
def zeroTy : (t : Ty) → List Value → Option (List Value)
  | .pair a b, l => (zeroTy a l).bind (zeroTy b)
  | .one t, l => zeroTy t l
  | .arr k t, l => zeroN (zeroTy t) k l
  | .node, v0 :: v1 :: v2 :: v3 :: v4 :: v5 :: r =>
    bif zero1 (.int .i64) v0 && zero1 (.int .i64) v1 && zero1 .str v2 && zero1 (.sl (.pair .str .str)) v3 && zero1 .str v4 && zero1 (.sl .node) v5 then some r else none
  | .int k, v :: r => bif zero1 (.int k) v then some r else none
  | .bool, v :: r => bif zero1 .bool v then some r else none
  | .str, v :: r => bif zero1 .str v then some r else none
  | .sl t, v :: r => bif zero1 (.sl t) v then some r else none
  | _, _ => none

structure TiOk (P : Program) (t : Nat) (ti : TI) : Prop where
  info : ∃ i z d, P.info? t = some i ∧ i.size = ti.n ∧ i.bytes = ti.bytes ∧ i.zero = some z ∧ zeroCs ti.zero z.cells.toList = true ∧ (ti.ag = true → ∃ l : List Value, z = .agg l.toArray) ∧
    P.underlying t = some d ∧ d.isRow = ti.ag ∧ DeOk d ti.de ∧
    (∀ u, ti.ty = some u → u.n = ti.n ∧ u.agg = ti.ag ∧ 0 < u.n ∧ zeroTy u z.cells.toList = some [] ∧
      (∀ k, u = .int k → d = .int k) ∧ (u = .bool → d = .bool) ∧ (u = .str → d = .string) ∧ (∀ v, u = .sl v → ∃ e, d = .slice e))
  len : ti.zero.length = ti.n
  one : ti.ag = false → ti.n = 1
  by0 : 0 < ti.n → 0 < ti.bytes

def CxOk (cx : Cx) (P : Program) : Prop := ∀ t ti, cx.ti t = some ti → TiOk P t ti

variable {P : Program} {cx : Cx}

theorem TiOk.und {t : Nat} {ti : TI} (h : TiOk P t ti) : ∃ d, P.underlying t = some d ∧ d.isRow = ti.ag ∧ DeOk d ti.de := by
  obtain ⟨i, z, d, _, _, _, _, _, _, h1, h2, h3, _⟩ := h.info
  exact ⟨d, h1, h2, h3⟩
theorem TiOk.size {t : Nat} {ti : TI} (h : TiOk P t ti) : (P.info? t).map (·.size) = some ti.n := by
  obtain ⟨i, z, d, h1, h2, _⟩ := h.info
  rw [h1]; simp [h2]
theorem CxOk.sl (h : CxOk cx P) {t e : Nat} (hd : cx.de t = some (.sl e)) : P.underlying t = some (.slice e) := by
  unfold Cx.de at hd
  cases hi : cx.ti t with
  | none => rw [hi] at hd; cases hd
  | some ti =>
    rw [hi] at hd
    simp only [Option.map_some, Option.some.injEq] at hd
    obtain ⟨d, h1, _, h3⟩ := (h t ti hi).und
    rw [hd] at h3
    cases h3
    exact h1
theorem CxOk.ar (h : CxOk cx P) {t k e : Nat} (hd : cx.de t = some (.ar k e)) : P.underlying t = some (.array k e) := by
  unfold Cx.de at hd
  cases hi : cx.ti t with
  | none => rw [hi] at hd; cases hd
  | some ti =>
    rw [hi] at hd
    simp only [Option.map_some, Option.some.injEq] at hd
    obtain ⟨d, h1, _, h3⟩ := (h t ti hi).und
    rw [hd] at h3
    cases h3
    exact h1
theorem CxOk.field (h : CxOk cx P) {t j o : Nat} {ti : TI} (hf : fieldOf cx t j = some (o, ti)) :
    ∃ fs f, P.underlying t = some (.struct fs) ∧ fs[j]? = some f ∧ f.offset = o ∧ cx.ti f.type = some ti := by
  unfold fieldOf at hf
  cases hd : cx.de t with
  | none => rw [hd] at hf; cases hf
  | some de =>
    rw [hd] at hf
    cases de <;> first | (cases hf; done) | skip
    rename_i fl
    unfold Cx.de at hd
    cases hi : cx.ti t with
    | none => rw [hi] at hd; cases hd
    | some tj =>
      rw [hi] at hd
      simp only [Option.map_some, Option.some.injEq] at hd
      obtain ⟨d, h1, _, h3⟩ := (h t tj hi).und
      rw [hd] at h3
      cases h3 with
      | st fs =>
      simp only at hf
      cases hj : (fs.toList.map fun f => (f.offset, f.type))[j]? with
      | none => rw [hj] at hf; cases hf
      | some p =>
        rw [hj] at hf
        simp only [List.getElem?_map, Option.map_eq_some_iff] at hj
        obtain ⟨f, hfj, rfl⟩ := hj
        simp only [Option.map_eq_some_iff] at hf
        obtain ⟨i, hi2, he⟩ := hf
        cases he
        exact ⟨fs, f, h1, by simpa using hfj, rfl, hi2⟩

/-! ### Steps -/

def updH (u : List (Nat × Entry)) (H : Nat → Entry) (id : Nat) : Entry := find (H id) u id

theorem find_app {α : Type} (d : α) (l m : List (Nat × α)) (i : Nat) : find d (l ++ m) i = find (find d m i) l i := by
  induction l with
  | nil => rfl
  | cons x l ih =>
    obtain ⟨k, x⟩ := x
    simp only [List.cons_append, find]
    cases Nat.beq i k with
    | true => rfl
    | false => exact ih

theorem St.put_ent (s : St) (d : Option Nat) (o : Out) : (s.put d o).ent = updH o.u s.ent := by
  funext i
  simp only [St.ent, St.put, updH, find_app]

structure Ext (X : Nat → Prop) (n : Nat) (A : Nat → Bool) (H : Nat → Entry) (μ : Nat → Value) (w : World) (A' : Nat → Bool) (H' : Nat → Entry) (μ' : Nat → Value) (w' : World) : Prop where
  os : w'.os = w.os
  tape : w'.tape = w.tape
  output : w'.output = w.output
  size : w.heap.size ≤ w'.heap.size
  blk0 : ∀ b, Fr (fun _ => False) w H μ b → w'.heap[b]? = w.heap[b]?
  own : ∀ id b, H' id ≠ .dead → (μ' id).has b → (∃ i, H i ≠ .dead ∧ (μ i).has b) ∨ w.heap.size ≤ b
  sh : ShLe (Sf A H) (Sf A' H')
  mue : ∀ id, A id = true → μ' id = μ id
  born : ∀ id, A id = true → A' id = true
  newborn : ∀ id, A' id = true → A id = true ∨ (n ≤ id ∧ id < n + stride)

variable {X : Nat → Prop} {n : Nat} {A A' : Nat → Bool} {H H' : Nat → Entry} {μ μ' : Nat → Value} {w w' : World}

theorem Fr.any {b : Nat} (h : Fr X w H μ b) : Fr (fun _ => False) w H μ b := ⟨⟨h.1.1, fun h => h⟩, h.2⟩
theorem Ext.blk (h : Ext X n A H μ w A' H' μ' w') (b : Nat) (hb : Fr X w H μ b) : w'.heap[b]? = w.heap[b]? := h.blk0 b hb.any

theorem Ext.fr (h : Ext X n A H μ w A' H' μ' w') {b : Nat} (hb : Fr X w H μ b) : Fr X w' H' μ' b :=
  ⟨⟨Nat.lt_of_lt_of_le hb.1.1 h.size, hb.1.2⟩, fun id hd he => by
    rcases h.own id b hd he with ⟨i, h1, h2⟩ | h1
    · exact hb.2 i h1 h2
    · exact absurd hb.1.1 (by omega)⟩

theorem Ext.mu (h : Ext X n A H μ w A' H' μ' w') : MuLe (Sf A H) (Sf A' H') μ μ' := fun id => by
  cases hA : A id with
  | false => exact .inl (by simp [Sf, hA])
  | true => exact .inr (.inr (h.mue id hA))

theorem Ext.refl (X : Nat → Prop) (n : Nat) (A : Nat → Bool) (H : Nat → Entry) (μ : Nat → Value) (w : World) : Ext X n A H μ w A H μ w :=
  ⟨rfl, rfl, rfl, Nat.le_refl _, fun _ _ => rfl, fun id _ h1 h2 => .inl ⟨id, h1, h2⟩, fun _ => .inr (.inl rfl), fun _ _ => rfl, fun _ h => h, fun _ h => .inl h⟩

theorem Ext.pr (h : Ext X n A H μ w A' H' μ' w') {p : PV} {u : Value} (hp : PR (Fr X w H μ) w (Sf A H) μ p u) : PR (Fr X w' H' μ') w' (Sf A' H') μ' p u :=
  hp.mono (fun _ hb => h.fr hb) h.blk h.sh h.mu

/-- What an operation that is a value's comes to. -/
def OpVal (X : Nat → Prop) (P : Program) (n : Nat) (A : Nat → Bool) (H : Nat → Entry) (μ : Nat → Value) (w : World) (e : Sem Value) (r : Out) : Prop :=
  ∃ v w' A' μ', e.run P w = .ok v w' ∧ Rep X A' (updH r.u H) μ' w' ∧ PR (Fr X w' (updH r.u H) μ') w' (Sf A' (updH r.u H)) μ' r.d v ∧ Ext X n A H μ w A' (updH r.u H) μ' w'

theorem OpVal.pure (hr : Rep X A H μ w) {e : Sem Value} {v : Value} {d : PV} (he : e.run P w = .ok v w) (hd : PR (Fr X w H μ) w (Sf A H) μ d v) : OpVal X P n A H μ w e ⟨d, []⟩ :=
  ⟨v, w, A, μ, he, hr, hd, Ext.refl _ _ _ _ _ _⟩

theorem pr_int {F : Nat → Prop} {S : Nat → Sh} {k : IntKind} {x : Int} (h : k.min ≤ x ∧ x ≤ k.max) : PR F w S μ (.one (.ce (.v (.int k) x))) (.int k x) := ⟨rfl, rfl, .int k x h.1 h.2⟩
theorem pr_bool {F : Nat → Prop} {S : Nat → Sh} (b : Bool) : PR F w S μ (.one (.ce (.v .bool b))) (.bool b) := ⟨rfl, rfl, .bool b⟩
theorem pr_str {F : Nat → Prop} {S : Nat → Sh} {s : Str} (h : s.length ≤ maxLen) : PR F w S μ (.one (.ce (.v .str s))) (.string ⟨s.toArray⟩) := ⟨rfl, rfl, .str s h⟩

theorem int_of {F : Nat → Prop} {S : Nat → Sh} {k : IntKind} {x : Int} {u : Value} (h : QR F w S μ (.ce (.v (.int k) x)) u) : u = .int k x ∧ k.min ≤ x ∧ x ≤ k.max := by
  have := h.2.2.int_inv; exact ⟨by simpa using this.1, this.2⟩
theorem bool_of {F : Nat → Prop} {S : Nat → Sh} {x : Bool} {u : Value} (h : QR F w S μ (.ce (.v .bool x)) u) : u = .bool x := by
  have := h.2.2.bool_inv; simpa using this
theorem str_of {F : Nat → Prop} {S : Nat → Sh} {x : Str} {u : Value} (h : QR F w S μ (.ce (.v .str x)) u) : u = .string ⟨x.toArray⟩ ∧ x.length ≤ maxLen := by
  have := h.2.2.str_inv; exact ⟨by simpa using this.1, this.2⟩

theorem wrap_in {k : IntKind} {x : Int} (h : k.min ≤ x ∧ x ≤ k.max) : k.wrap x = x := by
  cases k <;> simp only [IntKind.min, IntKind.max, IntKind.wrap, IntKind.signed, IntKind.bits] at * <;> simp at * <;> omega
theorem wrap_range (k : IntKind) (x : Int) : k.min ≤ k.wrap x ∧ k.wrap x ≤ k.max := by
  cases k <;> simp only [IntKind.min, IntKind.max, IntKind.wrap, IntKind.signed, IntKind.bits] <;> simp <;> omega
end Vi

set_option autoImplicit false
namespace Vi
open Go

variable {X : Nat → Prop} {P : Program} {cx : Cx} {n : Nat} {A : Nat → Bool} {H : Nat → Entry} {μ : Nat → Value} {w : World} {r : Out}

theorem run_pure_v (v : Value) : (pure v : Sem Value).run P w = .ok v w := rfl

theorem arith_ok (hr : Rep X A H μ w) {k : IntKind} {z : Int} (h : (arith k z).Sel H r) {e : Sem Value} (he : e.run P w = .ok (.int k (k.wrap z)) w) : OpVal X P n A H μ w e r := by
  obtain ⟨hz, h⟩ := h
  simp only [outc, Tree.Sel] at h
  subst h
  rw [wrap_in hz] at he
  exact .pure hr he (pr_int hz)

theorem bool_ok (hr : Rep X A H μ w) {b : Bool} (h : (boolO b).Sel H r) {e : Sem Value} (he : e.run P w = .ok (.bool b) w) : OpVal X P n A H μ w e r := by
  simp only [boolO, outc, Tree.Sel] at h
  subst h
  exact .pure hr he (pr_bool b)

theorem intOp_ok (hr : Rep X A H μ w) {op : BinOp} {t : Nat} {k : IntKind} {x y : Int} (hx : k.min ≤ x ∧ x ≤ k.max) (hy : k.min ≤ y ∧ y ≤ k.max) (h : (intOp op k x y).Sel H r) :
    OpVal X P n A H μ w (binOp op t (.int k x) (.int k y)) r := by
  cases op <;> simp only [intOp] at h <;> first
    | exact h.elim
    | exact arith_ok hr h (by simp [binOp, Op.intArith])
    | (refine bool_ok hr h ?_; simp [binOp, Op.intCmp]; done)
    | (refine bool_ok hr h ?_; simp [binOp, Op.intCmp]; rfl)
    | skip
  · obtain ⟨⟨h0, h1⟩, h⟩ := h
    simp only [outc, Tree.Sel] at h
    subst h
    have e1 : x.tdiv y = x / y := Int.tdiv_eq_ediv_of_nonneg h0
    have h2 : 0 ≤ x / y := Int.ediv_nonneg h0 (by omega)
    have h3 : x / y ≤ x := Int.ediv_le_self _ h0
    have hk : k.min ≤ x / y ∧ x / y ≤ k.max := ⟨by have hk0 : k.min ≤ 0 := (by cases k <;> decide); omega, by omega⟩
    refine .pure hr (v := .int k (x / y)) ?_ (pr_int hk)
    have hy0 : y ≠ 0 := by omega
    simp [binOp, Op.intDiv, hy0, e1, wrap_in hk]
  · obtain ⟨⟨h0, h1⟩, h⟩ := h
    simp only [outc, Tree.Sel] at h
    subst h
    have e1 : x.tmod y = x % y := Int.tmod_eq_emod_of_nonneg h0
    have h2 : 0 ≤ x % y := Int.emod_nonneg _ (by omega)
    have h3 : x % y < y := Int.emod_lt_of_pos _ h1
    have hk : k.min ≤ x % y ∧ x % y ≤ k.max := ⟨by have hk0 : k.min ≤ 0 := (by cases k <;> decide); omega, by omega⟩
    refine .pure hr (v := .int k (x % y)) ?_ (pr_int hk)
    have hy0 : y ≠ 0 := by omega
    simp [binOp, Op.intDiv, hy0, e1]
  all_goals
    simp only [outc, Tree.Sel] at h
    subst h
    refine .pure hr ?_ (pr_int (wrap_range k _))
    simp only [binOp, ne_eq, not_true_eq_false, if_false]
    rfl

theorem strOp_ok (hr : Rep X A H μ w) {op : BinOp} {t : Nat} {x y : Str} (h : (strOp op x y).Sel H r) :
    OpVal X P n A H μ w (binOp op t (.string ⟨x.toArray⟩) (.string ⟨y.toArray⟩)) r := by
  cases op <;> simp only [strOp] at h <;> first
    | exact h.elim
    | skip
  · obtain ⟨hl, h⟩ := h
    simp only [outc, Tree.Sel] at h
    subst h
    have hl' : ((x.length + y.length : Nat) : Int) ≤ 9223372036854775807 := by simpa using hl
    refine .pure hr (v := .string ⟨(x ++ y).toArray⟩) ?_ (pr_str (by simp only [maxLen, List.length_append]; omega))
    have hn : ¬ ((x.toArray.size + y.toArray.size : Nat) : Int) > IntKind.i64.max := by simp [IntKind.max, IntKind.signed, IntKind.bits]; omega
    have ha : (⟨x.toArray⟩ : ByteArray) ++ ⟨y.toArray⟩ = ⟨(x ++ y).toArray⟩ := by
      apply ByteArray.ext
      simp [ByteArray.data_append]
    simp only [binOp, Op.stringOp, ByteArray.size, hn, if_false, ha]
    rfl
  all_goals
    refine bool_ok hr h ?_
    have he : (x == y) = decide (x = y) := Bool.eq_iff_iff.2 (by simp)
    simp [binOp, Op.stringOp, ByteArray.toList_eq, he, bne]

theorem shiftOp_ok (hr : Rep X A H μ w) {op : BinOp} {t : Nat} {k k' : IntKind} {x y : Int} (ho : op = .shl ∨ op = .shr) (hx : k.min ≤ x ∧ x ≤ k.max) (h : (shiftOp op k x y).Sel H r) :
    OpVal X P n A H μ w (binOp op t (.int k x) (.int k' y)) r := by
  obtain ⟨⟨h0, h1⟩, h⟩ := h
  have hm : min y.toNat k.bits = y.toNat := by omega
  have hn : ¬ y < 0 := by omega
  rcases ho with rfl | rfl
  · exact arith_ok hr h (by simp [binOp, Op.shift, hn, hm])
  · simp only [outc, Tree.Sel] at h
    subst h
    have hp : (0 : Int) < 2 ^ y.toNat := Int.pow_pos (by decide)
    have e1 : x.fdiv (2 ^ y.toNat) = x / 2 ^ y.toNat := Int.fdiv_eq_ediv_of_nonneg _ (by omega)
    have hk : k.min ≤ x / 2 ^ y.toNat ∧ x / 2 ^ y.toNat ≤ k.max := by
      have hk0 : k.min ≤ 0 := by cases k <;> decide
      have hk1 : 0 ≤ k.max := by cases k <;> decide
      rcases Int.le_total 0 x with h2 | h2
      · have h3 := Int.ediv_nonneg h2 (by omega : (0 : Int) ≤ 2 ^ y.toNat)
        have h4 := Int.ediv_le_self (2 ^ y.toNat) h2
        omega
      · have h3 : x / 2 ^ y.toNat ≤ 0 := by
          have := Int.ediv_le_ediv hp h2
          simpa using this
        have h4 : x ≤ x / 2 ^ y.toNat := by
          rw [Int.le_ediv_iff_mul_le hp]
          have : x * (2 ^ y.toNat - 1) ≤ 0 := Int.mul_nonpos_of_nonpos_of_nonneg h2 (by omega)
          rw [Int.mul_sub] at this
          omega
        omega
    refine .pure hr (v := .int k (x / 2 ^ y.toNat)) ?_ (pr_int hk)
    simp [binOp, Op.shift, hn, hm, e1]

theorem eqOut_ok (hr : Rep X A H μ w) {op : BinOp} {b : Bool} (h : (eqOut op b).Sel H r) {e : Sem Value} (he : op = .eql → e.run P w = .ok (.bool b) w) (hn : op = .neq → e.run P w = .ok (.bool (!b)) w) : OpVal X P n A H μ w e r := by
  cases op <;> simp only [eqOut] at h <;> first
    | exact h.elim
    | exact bool_ok hr h (he rfl)
    | exact bool_ok hr h (hn rfl)

theorem ty_desc (hc : CxOk cx P) {t : Nat} {u : Ty} (h : cx.ty t = some u) : ∃ ti, cx.ti t = some ti ∧ ti.ty = some u := by
  unfold Cx.ty at h
  cases hi : cx.ti t with
  | none => rw [hi] at h; cases h
  | some ti => rw [hi] at h; exact ⟨ti, rfl, h⟩
theorem CxOk.tyInt (hc : CxOk cx P) {t : Nat} {k : IntKind} (h : cx.ty t = some (.int k)) : P.underlying t = some (.int k) := by
  obtain ⟨ti, h1, h2⟩ := ty_desc hc h
  obtain ⟨i, z, d, _, _, _, _, _, _, hu, _, _, ht⟩ := (hc t ti h1).info
  rw [hu, (ht _ h2).2.2.2.2.1 k rfl]
theorem CxOk.tyBool (hc : CxOk cx P) {t : Nat} (h : cx.ty t = some .bool) : P.underlying t = some .bool := by
  obtain ⟨ti, h1, h2⟩ := ty_desc hc h
  obtain ⟨i, z, d, _, _, _, _, _, _, hu, _, _, ht⟩ := (hc t ti h1).info
  rw [hu, (ht _ h2).2.2.2.2.2.1 rfl]
theorem CxOk.tyStr (hc : CxOk cx P) {t : Nat} (h : cx.ty t = some .str) : P.underlying t = some .string := by
  obtain ⟨ti, h1, h2⟩ := ty_desc hc h
  obtain ⟨i, z, d, _, _, _, _, _, _, hu, _, _, ht⟩ := (hc t ti h1).info
  rw [hu, (ht _ h2).2.2.2.2.2.2.1 rfl]
theorem CxOk.pt (h : CxOk cx P) {t e : Nat} (hd : cx.de t = some (.pt e)) : P.underlying t = some (.pointer e) := by
  unfold Cx.de at hd
  cases hi : cx.ti t with
  | none => rw [hi] at hd; cases hd
  | some ti =>
    rw [hi] at hd
    simp only [Option.map_some, Option.some.injEq] at hd
    obtain ⟨d, h1, _, h3⟩ := (h t ti hi).und
    rw [hd] at h3
    cases h3
    exact h1

theorem equal_run (t : TypeId) (x y : Value) (d : TypeDesc) (hu : P.underlying t = some d) (b : Bool) (h : (Op.equalIn Op.maxDepth t x y).run P w = .ok b w) : (Op.equal t x y).run P w = .ok b w := h

theorem ptr_live {id off : Nat} {u : Value} (hr : Rep X A H μ w) (hp : PtrR (Sf A H) μ id off u) {e : Entry} (he : H id = e) (hb : (∃ t cs, e = .box t cs) ∨ (∃ t a xs, e = .abox t a xs)) :
    ∃ b, μ id = .pointer (some ⟨b, 0, none⟩) ∧ u = .pointer (some ⟨b, off, none⟩) := by
  subst he
  have hA : A id = true := hr.born id (by rcases hb with ⟨t, cs, e⟩ | ⟨t, a, xs, e⟩ <;> rw [e] <;> simp)
  unfold PtrR Sf at hp
  rw [hA] at hp
  rcases hb with ⟨t, cs, e⟩ | ⟨t, a, xs, e⟩ <;> simp only [e, Entry.sh, cond_true] at hp <;> exact hp

theorem bin_val (op : BinOp) (t : Nat) (X Y : Operand) (u v : Value) (h1 : ∀ a b, u = .agg a → v = .agg b → False) (h2 : u = .nilIface → v = .nilIface → False) :
    (do eqGuard op t X Y u v; binOp op t u v : Sem Value).run P w = (binOp op t u v).run P w := by
  have : (eqGuard op t X Y u v).run P w = .ok () w := by
    cases op <;> first
      | rfl
      | (unfold eqGuard
         simp only [Bool.not_true, Bool.false_eq_true, if_false]
         rfl)
  simp [Sem.run_bind, this]

theorem eqIn_ptr (d : Nat) {t e : TypeId} (hu : P.underlying t = some (.pointer e)) (b : Option Addr) : (Op.equalIn (d + 1) t (.pointer none) (.pointer b)).run P w = .ok b.isNone w := by
  simp [Op.equalIn, run_underlying hu]
theorem eqIn_ptr' (d : Nat) {t e : TypeId} (hu : P.underlying t = some (.pointer e)) (b : Addr) : (Op.equalIn (d + 1) t (.pointer (some b)) (.pointer none)).run P w = .ok false w := by
  simp [Op.equalIn, run_underlying hu]

theorem binEql (t : Nat) (x y : Value) (b : Bool) (hs : binOp .eql t x y = (do pure (.bool (← Op.equal t x y)))) (h : (Op.equalIn (9999 + 1) t x y).run P w = .ok b w) : (binOp .eql t x y).run P w = .ok (.bool b) w := by
  have h' : (Op.equal t x y).run P w = .ok b w := h
  rw [hs, Sem.run_bind, h']
  rfl
theorem binNeq (t : Nat) (x y : Value) (b : Bool) (hs : binOp .neq t x y = (do pure (.bool (!(← Op.equal t x y))))) (h : (Op.equalIn (9999 + 1) t x y).run P w = .ok b w) : (binOp .neq t x y).run P w = .ok (.bool (!b)) w := by
  have h' : (Op.equal t x y).run P w = .ok b w := h
  rw [hs, Sem.run_bind, h']
  rfl

theorem OpVal.congr {e e' : Sem Value} (h : OpVal X P n A H μ w e r) (he : e'.run P w = e.run P w) : OpVal X P n A H μ w e' r := by
  unfold OpVal at *
  rw [he]
  exact h

theorem ptrNil_ok (hc : CxOk cx P) (hr : Rep X A H μ w) {op : BinOp} {t : Nat} (h : (ptrNil cx t op).Sel H r) : OpVal X P n A H μ w (binOp op t (.pointer none) (.pointer none)) r := by
  unfold ptrNil at h
  split at h
  · rename_i e he
    have hu := hc.pt he
    refine eqOut_ok hr h ?_ ?_ <;> rintro rfl
    · exact binEql _ _ _ _ rfl (eqIn_ptr _ hu none)
    · exact binNeq _ _ _ _ rfl (eqIn_ptr _ hu none)
  · exact h.elim

theorem ptrEq_ok (hc : CxOk cx P) (hr : Rep X A H μ w) {op : BinOp} {t id off : Nat} {u : Value} (hp : PtrR (Sf A H) μ id off u) (h : (ptrEq cx t op id).Sel H r) :
    OpVal X P n A H μ w (binOp op t (.pointer none) u) r ∧ OpVal X P n A H μ w (binOp op t u (.pointer none)) r := by
  unfold ptrEq at h
  split at h
  · rename_i e he
    have hu := hc.pt he
    simp only [Tree.Sel] at h
    cases hi : H id with
    | box bt cs =>
      rw [hi] at h
      obtain ⟨b, _, rfl⟩ := ptr_live hr hp hi (.inl ⟨_, _, rfl⟩)
      constructor
      · refine eqOut_ok hr h ?_ ?_ <;> rintro rfl
        · exact binEql _ _ _ _ rfl (eqIn_ptr _ hu _)
        · exact binNeq _ _ _ _ rfl (eqIn_ptr _ hu _)
      · refine eqOut_ok hr h ?_ ?_ <;> rintro rfl
        · exact binEql _ _ _ _ rfl (eqIn_ptr' _ hu _)
        · exact binNeq _ _ _ _ rfl (eqIn_ptr' _ hu _)
    | abox bt a xs =>
      rw [hi] at h
      obtain ⟨b, _, rfl⟩ := ptr_live hr hp hi (.inr ⟨_, _, _, rfl⟩)
      constructor
      · refine eqOut_ok hr h ?_ ?_ <;> rintro rfl
        · exact binEql _ _ _ _ rfl (eqIn_ptr _ hu _)
        · exact binNeq _ _ _ _ rfl (eqIn_ptr _ hu _)
      · refine eqOut_ok hr h ?_ ?_ <;> rintro rfl
        · exact binEql _ _ _ _ rfl (eqIn_ptr' _ hu _)
        · exact binNeq _ _ _ _ rfl (eqIn_ptr' _ hu _)
    | dead => rw [hi] at h; exact h.elim
    | refs _ _ _ => rw [hi] at h; exact h.elim
    | bun _ _ _ => rw [hi] at h; exact h.elim
    | row _ _ _ => rw [hi] at h; exact h.elim
  · exact h.elim

theorem opd_ok {s : Nat → PV} {a : Act} (hs : ∀ k, PR (Fr X w H μ) w (Sf A H) μ (s k) (a.tmps.getD k undef)) (x : Operand) : PR (Fr X w H μ) w (Sf A H) μ (opd s x) (a.eval x) := by
  cases x with
  | tmp t => exact hs t
  | const v =>
    simp only [opd, Act.eval]
    unfold litQ
    split
    · rename_i k z
      cases hb : litB k z with
      | false => trivial
      | true =>
        simp only [litB, Bool.and_eq_true, decide_eq_true_eq] at hb
        exact pr_int hb
    · exact pr_bool _
    · rename_i s
      cases hl : Nat.ble s.data.toList.length 1000000 with
      | true =>
        have hl := Nat.le_of_ble_eq_true hl
        have : s = ⟨s.data.toList.toArray⟩ := by cases s; simp
        conv => rhs; rw [this]
        exact pr_str (by simp only [maxLen]; omega)
      | false => trivial
    · exact ⟨rfl, rfl⟩
    · exact ⟨rfl, rfl⟩
    · exact ⟨rfl, rfl⟩
    · exact ⟨rfl, trivial⟩
    · trivial
  | global g => trivial
  | func f => exact ⟨rfl, #[], #[], rfl, .nil, .nil⟩

theorem asQ_of {p : PV} {u : Value} {F : Nat → Prop} {S : Nat → Sh} (h : PR F w S μ p u) : QR F w S μ p.asQ u := by
  cases p with
  | one q => exact h
  | tup l => trivial

theorem wrap_mod {k : IntKind} {x y : Int} (h : x % (2 ^ k.bits : Int) = y % (2 ^ k.bits : Int)) : k.wrap x = k.wrap y := by
  unfold IntKind.wrap
  simp only [h]

theorem xor_cpl (a : Int) : IntKind.i64.wrap ((BitVec.ofInt 64 (-1) ^^^ BitVec.ofInt 64 a).toNat : Int) = IntKind.i64.wrap (cpl a) := by
  have h1 : (BitVec.ofInt 64 (-1)) = BitVec.allOnes 64 := by decide
  have h2 : (BitVec.allOnes 64 ^^^ BitVec.ofInt 64 a) = ~~~(BitVec.ofInt 64 a) := by
    rw [BitVec.xor_comm]; exact BitVec.xor_allOnes
  rw [h1, h2, BitVec.toNat_not, BitVec.toNat_ofInt]
  refine wrap_mod ?_
  simp only [IntKind.bits, cpl]
  omega

theorem unOp_ok (hr : Rep X A H μ w) {op : UnOp} {x : Q} {u : Value} (hx : QR (Fr X w H μ) w (Sf A H) μ x u) (h : (match op, x with
    | .not, .ce (.v .bool b) => boolO (!b)
    | .neg, .ce (.v (.int k) a) => arith k (neg a)
    | .xor, .ce (.v (.int .i64) a) => arith .i64 (cpl a)
    | _, _ => (.fail : Tree Out)).Sel H r) : OpVal X P n A H μ w (Op.unary op u) r := by
  split at h
  · have := bool_of hx; subst this; exact bool_ok hr h rfl
  · obtain ⟨rfl, h1⟩ := int_of hx
    refine arith_ok hr h ?_
    simp only [Op.unary, Op.intArith, neg, run_pure_v]
    exact congrArg (fun z => Result.ok (Value.int _ (IntKind.wrap _ z)) w) (Int.zero_sub _)
  · rename_i a
    obtain ⟨rfl, h1⟩ := int_of hx
    refine arith_ok hr h ?_
    exact congrArg (fun z => Result.ok (Value.int .i64 z) w) (xor_cpl a)
  · exact h.elim
end Vi

set_option autoImplicit false
namespace Vi
open Go

variable {X : Nat → Prop} {P : Program} {cx : Cx} {n : Nat} {A : Nat → Bool} {H : Nat → Entry} {μ : Nat → Value} {w : World} {r : Out}

theorem retc {c : C} (h : (outc c).Sel H r) : r = ⟨.one (.ce c), []⟩ := h.symm
theorem retq {q : Q} (h : (out q).Sel H r) : r = ⟨.one q, []⟩ := h.symm

theorem add_block (a : Addr) (k : Nat) : (a.add k).block = a.block := by unfold Addr.add; split <;> rfl
theorem add_add (a : Addr) (i j : Nat) : (a.add i).add j = a.add (i + j) := by
  unfold Addr.add
  by_cases hi : i = 0 <;> by_cases hj : j = 0 <;> simp [hi, hj, Nat.add_assoc]

/-- An address at which a cell lies has no spot. -/
theorem spot_none {a : Addr} {v : Value} (h : w.cell? a = some v) : a.spot = none := by
  unfold World.cell? at h
  split at h
  · split at h
    · cases h
    · rename_i hs; cases hsp : a.spot with
      | none => rfl
      | some s => rw [hsp] at hs; simp at hs
  · cases h

theorem rangeIn_ok {k k' : IntKind} {x : Int} (h : rangeIn k' k = true) (hx : k'.min ≤ x ∧ x ≤ k'.max) : k.min ≤ x ∧ x ≤ k.max := by
  simp only [rangeIn, Bool.and_eq_true, decide_eq_true_eq] at h
  omega

theorem strOfNums_eq (xs : List Int) : strOfNums xs = ⟨(bytesOf xs).toArray⟩ := rfl

theorem conv_bytes {src dst e : TypeId} (hs : P.underlying src = some (.slice e)) (he : P.underlying e = some (.int .u8)) (hd : P.underlying dst = some .string)
    {F : Nat → Prop} {xs : List Int} {u : Value} (h : Rp F w (.sl (.int .u8)) xs [u]) : (Go.convert src dst u).run P w = .ok (.string ⟨(bytesOf xs).toArray⟩) w := by
  obtain ⟨A, c, ls, hu, h1, h2, h3, h4⟩ := h.sl_inv
  simp at hu
  subst hu
  rcases Nat.eq_zero_or_pos xs.length with h0 | h0
  · have hx : xs = [] := List.eq_nil_of_length_eq_zero h0
    subst hx
    cases A with
    | none => exact run_convert_bytes_nil w src e hs he 0 c dst hd
    | some ad =>
      rw [run_convert_bytes_string w src dst e _ _ c hs he hd]
      simp [Conv.bytesToString, loadCells, loadCellsFrom, bytesOf]
      rfl
  · obtain ⟨ad, rfl, _, hc0⟩ := h3 0 h0
    have hcell : ∀ i, i < xs.length → w.cell? (ad.add i) = some (.int .u8 (xs.getD i 0)) := by
      intro i hi
      obtain ⟨ad', ha, _, hc⟩ := h3 i hi
      cases ha
      have := (h4 i hi).int_inv.1
      have := hc 0 (.int .u8 xs[i]) (by rw [this]; rfl)
      simpa [Ty.n, List.getD_eq_getElem?_getD, List.getElem?_eq_getElem hi] using this
    have hsp : ad.spot = none := by
      have := spot_none (hcell 0 h0)
      simpa [Addr.add] using this
    obtain ⟨b, off, sp⟩ := ad
    simp only at hsp
    subst hsp
    rw [← strOfNums_eq]
    exact run_convert_bytes_arg w src e hs he b off xs.length c xs rfl (fun i hi => by rw [← Addr.add_mid]; exact hcell i hi) dst hd

theorem cvt_ok (hc : CxOk cx P) (hr : Rep X A H μ w) {src dst : Nat} {x : Q} {u : Value} (hx : QR (Fr X w H μ) w (Sf A H) μ x u) (h : (cvtO cx src dst x).Sel H r) : OpVal X P n A H μ w (Go.convert src dst u) r := by
  unfold cvtO at h
  split at h
  · exact h.elim
  rename_i si hsi
  obtain ⟨ds, hds, _, hde⟩ := (hc src si hsi).und
  split at h
  · rename_i k k' a hty
    obtain ⟨rfl, h1⟩ := int_of hx
    have hd := hc.tyInt hty
    have hrun : (Go.convert src dst (.int k' a)).run P w = .ok (.int k (k.wrap a)) w := by
      simp [Go.convert, run_underlying hds, run_underlying hd, Conv.intToInt]
    cases hri : rangeIn k' k with
    | true =>
      rw [hri] at h
      rw [retc h]
      have h2 := rangeIn_ok hri h1
      rw [wrap_in h2] at hrun
      exact .pure hr hrun (pr_int h2)
    | false =>
      rw [hri] at h
      rw [retc h]
      exact .pure hr hrun (pr_int (wrap_range _ _))
  · rename_i a hty
    obtain ⟨rfl, h1⟩ := str_of hx
    have hd := hc.tyStr hty
    rw [retc h]
    refine .pure hr (v := .string ⟨List.toArray a⟩) ?_ (pr_str h1)
    simp [Go.convert, run_underlying hds, run_underlying hd]
  · rename_i c _ hty
    split at h
    · rename_i hst
      cases hb : bytesTy cx si with
      | false => rw [hb] at h; exact h.elim
      | true =>
        rw [hb] at h
        have h : (pk1 (.sl (.int .u8)) c [] fun (a : List Int) _ => outc (.v .str (bytesOf a))).Sel H r := h
        obtain ⟨y, fz, h2, _, hy⟩ := pk1_ok hr (t := .sl (.int .u8)) rfl hx h
        rw [retc h2]
        unfold bytesTy at hb
        split at hb
        · rename_i e hdee
          split at hb
          · rename_i hte
            rw [hdee] at hde
            cases hde
            obtain ⟨ds', hu', _, hde'⟩ := (hc src si hsi).und
            refine .pure hr (conv_bytes hds (hc.tyInt hte) (hc.tyStr hty) hy) (pr_str ?_)
            obtain ⟨Aa, cc, ls, _, h3, h4, _⟩ := hy.sl_inv
            have h5 : (bytesOf y).length = List.length y := List.length_map _
            omega
          · cases hb
        · cases hb
    · exact h.elim
  · exact h.elim

theorem sl_of {F : Nat → Prop} {S : Nat → Sh} {t : Ty} {xs : List t.D} {u : Value} (h : QR F w S μ (.ce (.v (.sl t) xs)) u) : ∃ (Aa : Option Addr) (c : Nat), u = .slice Aa xs.length c ∧ xs.length ≤ c ∧ c ≤ maxLen := by
  obtain ⟨Aa, c, ls, hu, h1, h2, _⟩ := h.2.2.sl_inv
  exact ⟨Aa, c, by simpa using hu, h1, h2⟩

theorem pr_len {F : Nat → Prop} {S : Nat → Sh} {k : Nat} (h : k ≤ maxLen) : PR F w S μ (.one (.ce (.v (.int .i64) (k : Int)))) (.int .i64 (k : Int)) :=
  pr_int ⟨Int.le_trans (by decide : IntKind.min .i64 ≤ 0) (Int.natCast_nonneg k), by simp only [maxLen] at h; simp [IntKind.max, IntKind.signed, IntKind.bits]; omega⟩

theorem os_of (hr : Rep X A H μ w) {id e : Nat} {t : Ty} {xs : List t.D} {u : Value} (he : H id = .row e t xs) (h : CR (Fr X w H μ) w (Sf A H) μ (.os id) u) :
    u = μ id ∧ ∃ (Aa : Option Addr) (c : Nat), μ id = .slice Aa xs.length c ∧ xs.length ≤ c ∧ c ≤ maxLen := by
  have hb := hr.born id (by rw [he]; simp)
  obtain ⟨_, h⟩ := h
  simp only [CR0, Sf, hb, he, Entry.sh, cond_true] at h
  have he' := hr.ent id
  rw [he] at he'
  obtain ⟨_, vs, ho, _⟩ := he'
  refine ⟨h, ?_⟩
  rcases ho.2 with ⟨hv, hn⟩ | ⟨g, cap, cur, hv, _, hg, hnc, hcm, _⟩
  · exact ⟨none, 0, by rw [hv, hn], by omega, by simp [maxLen]⟩
  · exact ⟨_, cap, hv, hnc, hcm⟩

theorem refs_of (hr : Rep X A H μ w) {id e id2 k : Nat} {u : Value} (he : H id = .refs e id2 k) (h : CR (Fr X w H μ) w (Sf A H) μ (.os id) u) :
    u = μ id ∧ ∃ (Aa : Option Addr) (c : Nat), μ id = .slice Aa k c ∧ k ≤ c ∧ c ≤ maxLen := by
  have hb := hr.born id (by rw [he]; simp)
  obtain ⟨_, h⟩ := h
  simp only [CR0, Sf, hb, he, Entry.sh, cond_true] at h
  have he' := hr.ent id
  rw [he] at he'
  obtain ⟨_, vs, ho, _⟩ := he'
  refine ⟨h, ?_⟩
  rcases ho.2 with ⟨hv, hn⟩ | ⟨g, cap, cur, hv, _, hg, hnc, hcm, _⟩
  · exact ⟨none, 0, by rw [hv, hn], by omega, by simp [maxLen]⟩
  · exact ⟨_, cap, hv, hnc, hcm⟩

theorem sb_of (hr : Rep X A H μ w) {id k bt : Nat} {cs : List C} (hi : H id = .box bt cs) {u : Value} (hx : CR (Fr X w H μ) w (Sf A H) μ (.sb id k) u) : ∃ b, μ id = .pointer (some ⟨b, 0, none⟩) ∧ u = .slice (some ⟨b, 0, none⟩) k k := by
  have h2 := hx.2
  simp only [CR0, Sf, hr.born id (by rw [hi]; simp), hi, Entry.sh, cond_true] at h2
  exact h2

theorem cap_ok (hc : CxOk cx P) (hr : Rep X A H μ w) {t : Nat} {x : Q} {u : Value} {ty : TypeId} (hx : QR (Fr X w H μ) w (Sf A H) μ x u) (h : (capOp cx t x).Sel H r) : OpVal X P n A H μ w (Builtin.cap_ #[t] ty #[u]) r := by
  unfold capOp at h
  split at h
  · rename_i e hde
    obtain ⟨_, hx⟩ := hx
    simp only [CR0] at hx
    subst hx
    rw [retc h]
    exact .pure hr (v := .int .i64 0) (by simp [Builtin.cap_, run_underlying (hc.sl hde), goInt]) (pr_len (k := 0) (by simp [maxLen]))
  · exact h.elim

theorem len_ok (hc : CxOk cx P) (hr : Rep X A H μ w) {t : Nat} {x : Q} {u : Value} {ty : TypeId} (hx : QR (Fr X w H μ) w (Sf A H) μ x u) (h : (lenOp cx t x).Sel H r) : OpVal X P n A H μ w (Builtin.len_ #[t] ty #[u]) r := by
  unfold lenOp at h
  split at h
  · rename_i l hty
    obtain ⟨rfl, h1⟩ := str_of hx
    rw [retc h]
    exact .pure hr (v := .int .i64 (List.length l : Int)) (by unfold Builtin.len_; simp [run_underlying (hc.tyStr hty), goInt]; rfl) (pr_len h1)
  · rename_i e _ l hde
    obtain ⟨Aa, c, rfl, h1, h2⟩ := sl_of hx
    rw [retc h]
    exact .pure hr (v := .int .i64 (List.length l : Int)) (by simp [Builtin.len_, run_underlying (hc.sl hde), goInt]) (pr_len (by omega))
  · rename_i e _ hde
    obtain ⟨_, hx⟩ := hx
    simp only [CR0] at hx
    subst hx
    rw [retc h]
    exact .pure hr (v := .int .i64 0) (by simp [Builtin.len_, run_underlying (hc.sl hde), goInt]) (pr_len (k := 0) (by simp [maxLen]))
  · rename_i e _ id hde
    simp only [Tree.Sel] at h
    cases hi : H id with
    | row e' t' xs =>
      rw [hi] at h
      obtain ⟨rfl, Aa, c, hm, h1, h2⟩ := os_of hr hi hx
      rw [hm]
      rw [retc h]
      exact .pure hr (v := .int .i64 (xs.length : Int)) (by simp [Builtin.len_, run_underlying (hc.sl hde), goInt]) (pr_len (by omega))
    | dead => rw [hi] at h; exact h.elim
    | refs e' id2 k =>
      rw [hi] at h
      obtain ⟨rfl, Aa, c, hm, h1, h2⟩ := refs_of hr hi hx
      rw [hm]
      rw [retc h]
      exact .pure hr (v := .int .i64 (k : Int)) (by simp [Builtin.len_, run_underlying (hc.sl hde), goInt]) (pr_len (by omega))
    | bun _ _ _ => rw [hi] at h; exact h.elim
    | box _ _ => rw [hi] at h; exact h.elim
    | abox _ _ _ => rw [hi] at h; exact h.elim
  · rename_i e _ id k hde
    simp only [Tree.Sel] at h
    cases hi : H id with
    | box bt cs =>
      rw [hi] at h
      simp only at h
      cases hk : Nat.ble k 1000000 with
      | false => rw [hk] at h; exact h.elim
      | true =>
        rw [hk] at h
        obtain ⟨b, _, rfl⟩ := sb_of hr hi hx
        rw [retc h]
        have hk := Nat.le_of_ble_eq_true hk
        exact .pure hr (v := .int .i64 (k : Int)) (by simp [Builtin.len_, run_underlying (hc.sl hde), goInt]) (pr_len (by simp only [maxLen]; omega))
    | dead => rw [hi] at h; exact h.elim
    | row _ _ _ => rw [hi] at h; exact h.elim
    | refs _ _ _ => rw [hi] at h; exact h.elim
    | bun _ _ _ => rw [hi] at h; exact h.elim
    | abox _ _ _ => rw [hi] at h; exact h.elim
  · rename_i k e hde _
    cases hk : Nat.ble k 1000000 with
    | false => rw [hk] at h; exact h.elim
    | true =>
      rw [hk] at h
      rw [retc h]
      have hk := Nat.le_of_ble_eq_true hk
      exact .pure hr (v := .int .i64 (k : Int)) (by simp [Builtin.len_, run_underlying (hc.ar hde), goInt]) (pr_len (by simp only [maxLen]; omega))
  · exact h.elim

theorem nth_get {α : Type} {l : List α} {i : Int} {d : α} (h0 : 0 ≤ i) (h1 : i < l.length) : nth l i d = l[i.toNat]'(by omega) := by
  have : i.toNat < l.length := by omega
  simp [nth, List.getD_eq_getElem?_getD, List.getElem?_eq_getElem this]

theorem idxS (hr : Rep X A H μ w) {t : Nat} {s : Str} {k : IntKind} {i : Int} (hu : P.underlying t = some .string) (h0 : 0 ≤ i) (h2 : i < s.length) :
    OpVal X P n A H μ w (Instr.index t (.string ⟨s.toArray⟩) (.int k i)) ⟨.one (.ce (.v (.int .u8) ((nth s i (0 : UInt8)).toNat : Int))), []⟩ := by
  have hlt : i.toNat < s.length := by omega
  have hg : nth s i (0 : UInt8) = s[i.toNat] := nth_get h0 h2
  rw [hg]
  refine .pure hr (v := .int .u8 (s[i.toNat]).toNat) ?_ (pr_int ⟨Int.le_trans (by decide : IntKind.min .u8 ≤ 0) (Int.natCast_nonneg _), by have := (s[i.toNat]).toNat_lt; simp [IntKind.max, IntKind.signed, IntKind.bits]; omega⟩)
  have hb : (⟨s.toArray⟩ : ByteArray)[i.toNat]? = some s[i.toNat] := by
    have hl' : i.toNat < (⟨s.toArray⟩ : ByteArray).size := by simpa [ByteArray.size] using hlt
    rw [getElem?_pos (c := (⟨s.toArray⟩ : ByteArray)) (i := i.toNat) (h := hl')]
    rfl
  simp [Instr.index, asIntOf, run_underlying hu, h0, hb]

theorem index_ok (hc : CxOk cx P) (hr : Rep X A H μ w) {t : Nat} {x i : Q} {u v : Value} (hx : QR (Fr X w H μ) w (Sf A H) μ x u) (hi : QR (Fr X w H μ) w (Sf A H) μ i v) (h : (indexO cx t x i).Sel H r) :
    OpVal X P n A H μ w (Instr.index t u v) r := by
  unfold indexO at h
  split at h
  · rename_i s k i hty
    obtain ⟨rfl, h1⟩ := str_of hx
    obtain ⟨rfl, _⟩ := int_of hi
    obtain ⟨⟨h0, h2⟩, h⟩ := h
    rw [retc h]
    exact idxS hr (hc.tyStr hty) h0 h2
  · exact h.elim

theorem size_of (hc : CxOk cx P) {e : Nat} {u : Ty} (h : szOk cx e u = true) : (Go.sizeOf e).run P w = .ok u.n w := by
  unfold szOk at h
  split at h
  · rename_i ti hi
    have := Nat.eq_of_beq_eq_true h
    have hs := (hc e ti hi).size
    cases hq : P.info? e with
    | none => rw [hq] at hs; cases hs
    | some i => rw [hq] at hs; simp at hs; simp [Go.sizeOf, typeInfo, hq, hs, this]
  · cases h

theorem bound_run {v : Value} {k : IntKind} {a : Int} {y : Nat} {code : BoundsCode} (hv : v = .int k a) (h0 : 0 ≤ a) (h1 : a ≤ y) : (Instr.sliceBound v y code).run P w = .ok a.toNat w := by
  subst hv
  simp [Instr.sliceBound, asIntOf, h0, h1]

def BndOk (a : Act) (d : Int) (o : Option Operand) (z : Int) : Prop := (o = none ∧ z = d) ∨ ∃ x k, o = some x ∧ a.eval x = .int k z

theorem bnd_ok {s : Nat → PV} {a : Act} (hs : ∀ k, PR (Fr X w H μ) w (Sf A H) μ (s k) (a.tmps.getD k undef)) {d z : Int} {o : Option Operand} (h : bnd s d o = some z) : BndOk a d o z := by
  unfold bnd at h
  split at h
  · cases h; exact .inl ⟨rfl, rfl⟩
  · rename_i x
    split at h
    · rename_i k m he
      cases h
      have := opd_ok hs x
      rw [he] at this
      exact .inr ⟨x, k, rfl, (int_of this).1⟩
    · cases h

theorem bounds_run {a : Act} {lo hi : Option Operand} {len cap : Nat} {x y : Int} {b : Bool} (hx : BndOk a 0 lo x) (hy : BndOk a len hi y) (h : Sb x y len) (hcap : len ≤ cap) :
    (Instr.sliceBounds b len cap (lo.map a.eval) (hi.map a.eval) none).run P w = .ok (x.toNat, y.toNat, cap) w := by
  obtain ⟨h0, h1, h2⟩ := h
  rcases hx with ⟨rfl, rfl⟩ | ⟨ox, k, rfl, ex⟩ <;> rcases hy with ⟨rfl, rfl⟩ | ⟨oy, k', rfl, ey⟩
  · simp [Instr.sliceBounds]
  · have := bound_run (P := P) (w := w) (y := cap) (code := if b then .sliceAcap else .sliceAlen) ey (by omega) (by omega)
    simp only [Instr.sliceBounds, Option.map_some, Option.map_none, Sem.run_bind, Sem.run_pure, Result.andThen_ok, this]
    rfl
  · have := bound_run (P := P) (w := w) (y := len) (code := .sliceB) ex (by omega) (by omega)
    simp [Instr.sliceBounds, this]
  · have h3 := bound_run (P := P) (w := w) (y := cap) (code := if b then .sliceAcap else .sliceAlen) ey (by omega) (by omega)
    have h4 := bound_run (P := P) (w := w) (y := y.toNat) (code := .sliceB) ex (by omega) (by omega)
    simp only [Instr.sliceBounds, Option.map_some, Sem.run_bind, Sem.run_pure, Result.andThen_ok, h3]
    simp [h4]

theorem extract_list (l : Str) (a b : Nat) : (⟨l.toArray⟩ : ByteArray).extract a b = ⟨((l.take b).drop a).toArray⟩ := by
  apply ByteArray.ext
  apply Array.ext'
  simp [ByteArray.data_extract, List.drop_take]

theorem rp_sub {F : Nat → Prop} {t : Ty} {xs : List t.D} {Aa : Option Addr} {c : Nat} (h : Rp F w (.sl t) xs [.slice Aa xs.length c]) {a b : Nat} (h1 : a ≤ b) (h2 : b ≤ xs.length) :
    Rp F w (.sl t) ((xs.take b).drop a) [.slice (if c = a then Aa else Aa.map (·.add (a * t.n))) (b - a) (c - a)] := by
  obtain ⟨A', c', ls, hu, hc1, hc2, hcell, hel⟩ := h.sl_inv
  simp only [List.cons.injEq, Value.slice.injEq, and_true, true_and] at hu
  obtain ⟨rfl, rfl⟩ := hu
  have hl : ((xs.take b).drop a).length = b - a := by simp; omega
  rw [← hl]
  refine .sl t _ _ _ (fun j => ls (a + j)) (by rw [hl]; omega) (by omega) (fun j hj => ?_) (fun j hj => ?_)
  · rw [hl] at hj
    obtain ⟨ad, rfl, hf, hcc⟩ := hcell (a + j) (by omega)
    rw [if_neg (by omega)]
    refine ⟨ad.add (a * t.n), rfl, by rw [add_block]; exact hf, fun i v hv => ?_⟩
    rw [add_add]
    have := hcc i v hv
    rwa [Nat.add_mul, Nat.add_assoc] at this
  · have hj' := hj
    rw [hl] at hj'
    have := hel (a + j) (by omega)
    simpa using this

theorem sliceV_ok (hc : CxOk cx P) (hr : Rep X A H μ w) {s : Nat → PV} {a : Act} (hs : ∀ k, PR (Fr X w H μ) w (Sf A H) μ (s k) (a.tmps.getD k undef)) {t e' : Nat} {u : Ty} {l : List u.D} {v : Value} {lo hi : Option Operand}
    (hde : cx.de t = some (.sl e')) (hz : szOk cx e' u = true) (hx : QR (Fr X w H μ) w (Sf A H) μ (.ce (.v (.sl u) l)) v) (h : (sliceV (bnd s 0 lo) (bnd s (List.length l) hi) u l).Sel H r) :
    OpVal X P n A H μ w (Instr.sliceAt t v (lo.map a.eval) (hi.map a.eval) none) r := by
  unfold sliceV at h
  split at h
  · rename_i x y e1 e2
    obtain ⟨hb, h⟩ := h
    rw [retc h]
    have hx1 := bnd_ok (a := a) hs e1
    have hx2 := bnd_ok (a := a) hs e2
    have hrp := hx.2.2
    obtain ⟨Aa, c, rfl, h1, h2⟩ := sl_of hx
    have hbr := bounds_run (P := P) (w := w) (b := true) hx1 hx2 hb h1
    have hsz := size_of (w := w) hc hz
    have hb' := hb
    obtain ⟨h3, h4, h5⟩ := hb'
    refine .pure hr (v := .slice (if c = x.toNat then Aa else Aa.map (·.add (x.toNat * u.n))) (y.toNat - x.toNat) (c - x.toNat)) ?_ ⟨rfl, rfl, rp_sub hrp (by omega) (by omega)⟩
    have hu := hc.sl hde
    simp only [Instr.sliceAt, Instr.slice, Sem.run_bind, Sem.run_pure, Result.andThen_ok, run_underlying hu, hbr, hsz]
  · exact h.elim

theorem sliceS_ok (hc : CxOk cx P) (hr : Rep X A H μ w) {s : Nat → PV} {a : Act} (hs : ∀ k, PR (Fr X w H μ) w (Sf A H) μ (s k) (a.tmps.getD k undef)) {t : Nat} {l : Str} {v : Value} {lo hi : Option Operand}
    (hty : cx.ty t = some .str) (hx : QR (Fr X w H μ) w (Sf A H) μ (.ce (.v .str l)) v) (h : (sliceS (bnd s 0 lo) (bnd s (List.length l) hi) l).Sel H r) :
    OpVal X P n A H μ w (Instr.sliceAt t v (lo.map a.eval) (hi.map a.eval) none) r := by
  unfold sliceS at h
  split at h
  · rename_i x y e1 e2
    obtain ⟨hb, h⟩ := h
    rw [retc h]
    have hx1 := bnd_ok (a := a) hs e1
    have hx2 := bnd_ok (a := a) hs e2
    obtain ⟨rfl, h1⟩ := str_of hx
    have hbr := bounds_run (P := P) (w := w) (b := false) hx1 hx2 hb (Nat.le_refl _)
    refine .pure hr (v := .string ⟨(sub l x y).toArray⟩) ?_ (pr_str ?_)
    · have hu := hc.tyStr hty
      have hsz : (⟨l.toArray⟩ : ByteArray).size = l.length := rfl
      simp only [Instr.sliceAt, Instr.slice, Sem.run_bind, Sem.run_pure, Result.andThen_ok, run_underlying hu, Option.isSome_none, Bool.false_eq_true, if_false, hsz, hbr, extract_list]
      rfl
    · simp only [sub, List.length_drop, List.length_take]
      omega
  · exact h.elim
end Vi

set_option autoImplicit false
namespace Vi
open Go

variable {X : Nat → Prop} {P : Program} {cx : Cx} {n : Nat} {A : Nat → Bool} {H : Nat → Entry} {μ : Nat → Value} {w : World} {r : Out}

theorem isAgg_run {t : Nat} {ti : TI} (h : TiOk P t ti) : (isAgg t).run P w = .ok ti.ag w := by
  obtain ⟨d, hu, hrow, _⟩ := h.und
  unfold isAgg
  rw [Sem.run_bind, run_underlying hu w]
  rw [← hrow]
  cases d <;> rfl

theorem size_run {t : Nat} {ti : TI} (h : TiOk P t ti) : (Go.sizeOf t).run P w = .ok ti.n w := by
  have hs := h.size
  cases hq : P.info? t with
  | none => rw [hq] at hs; cases hs
  | some i => rw [hq] at hs; simp at hs; simp [Go.sizeOf, typeInfo, hq, hs]

/-- The value of a type out of its cells. -/
def valOf (ti : TI) (l : List Value) : Value := if ti.ag then .agg l.toArray else l.headD undef

theorem part_run {t : Nat} {ti : TI} (h : TiOk P t ti) {l : List Value} {o : Nat} (hl : o + ti.n ≤ l.length) (h1 : ti.ag = false → ti.n = 1) :
    (part t l.toArray o).run P w = .ok (valOf ti ((l.drop o).take ti.n)) w := by
  unfold part valOf
  rw [Sem.run_bind, isAgg_run h]
  simp only [Result.andThen_ok]
  cases ha : ti.ag with
  | true =>
    simp only [if_true, Sem.run_bind, size_run h, Result.andThen_ok]
    rw [show l.toArray.extract o (o + ti.n) = ((l.drop o).take ti.n).toArray from by apply Array.ext'; simp]
    rfl
  | false =>
    have hn := h1 ha
    simp only [Bool.false_eq_true, if_false]
    have ho : o < l.length := by omega
    rw [hn]
    have : (l.drop o).take 1 = [l[o]] := by
      rw [List.drop_eq_getElem_cons ho]; rfl
    rw [this]
    simp [ho]

theorem valOf_vr {F : Nat → Prop} {ti : TI} {u : Ty} {y : u.D} {l : List Value} (ha : u.agg = ti.ag) (h : Rp F w u y l) (h1 : ti.ag = false → ti.n = 1) (hn : u.n = ti.n) : VR F w u y (valOf ti l) := by
  unfold valOf
  cases hag : ti.ag with
  | true => exact .inr ⟨ha.trans hag, l, rfl, h⟩
  | false =>
    have hl := h.len
    rw [hn, h1 hag] at hl
    obtain ⟨v, rfl⟩ := List.length_eq_one_iff.1 hl
    exact .inl ⟨ha.trans hag, h⟩

theorem one_n {u : Ty} (h : u.agg = false) : u.n = 1 := by cases u <;> simp [Ty.agg] at h <;> rfl

theorem loadQ_ok {F : Nat → Prop} {S : Nat → Sh} {ti : TI} {cs : List C} {l : List Value} (h : CsR F w S μ cs l) (h1 : ti.ag = false → ti.n = 1) (hl : l.length = ti.n) : PR F w S μ (.one (loadQ ti cs)) (valOf ti l) := by
  unfold loadQ valOf
  cases hag : ti.ag with
  | true => exact ⟨l, rfl, h⟩
  | false =>
    rw [h1 hag] at hl
    obtain ⟨v, rfl⟩ := List.length_eq_one_iff.1 hl
    cases h with
    | cons c _ cs _ hc hcs =>
      cases hcs
      exact hc

theorem fieldO_ok (hc : CxOk cx P) (hr : Rep X A H μ w) {t j : Nat} {x : Q} {u : Value} (hx : QR (Fr X w H μ) w (Sf A H) μ x u) (h : (fieldO cx t x j).Sel H r) : OpVal X P n A H μ w (Instr.field t u j) r := by
  unfold fieldO at h
  split at h
  · rename_i o ti uty x hf
    obtain ⟨fs, f, hu, hfj, rfl, hti⟩ := hc.field hf
    have htk := hc _ _ hti
    cases hl : lens uty x f.offset ti.n ti.ag with
    | none => rw [hl] at h; exact h.elim
    | some z =>
      obtain ⟨w', y, s⟩ := z
      rw [hl] at h
      obtain ⟨ha, hn, hle, hg, _⟩ := lens_ok hl
      obtain ⟨_, l, rfl, hrp⟩ := hx
      have hlen := hrp.len
      rw [retq h]
      refine .pure hr (v := valOf ti ((l.drop f.offset).take ti.n)) ?_ (asQ_ok (valOf_vr ha (hg _ _ _ hrp) htk.one hn))
      simp only [Instr.field, Sem.run_bind, run_underlying hu, Result.andThen_ok, hfj, asAgg, Sem.run_pure]
      exact part_run htk (by omega) htk.one
  · rename_i o ti cs hf
    obtain ⟨fs, f, hu, hfj, rfl, hti⟩ := hc.field hf
    have htk := hc _ _ hti
    cases hb : Nat.ble (f.offset + ti.n) cs.length with
    | false => rw [hb] at h; exact h.elim
    | true =>
      rw [hb] at h
      have hb := Nat.le_of_ble_eq_true hb
      obtain ⟨l, rfl, hcs⟩ := hx
      have hlen := hcs.len
      rw [retq h]
      refine .pure hr (v := valOf ti ((l.drop f.offset).take ti.n)) ?_ (loadQ_ok ((hcs.drop _).take _) htk.one (by simp; omega))
      simp only [Instr.field, Sem.run_bind, run_underlying hu, Result.andThen_ok, hfj, asAgg, Sem.run_pure]
      exact part_run htk (by omega) htk.one
  · exact h.elim

theorem fieldPlace_run {f : Field} {ti : TI} (h : TiOk P f.type ti) (hn : ti.n ≠ 0) (a : Addr) : (fieldPlace a f).run P w = .ok (a.add f.offset) w := by
  unfold fieldPlace
  rw [Sem.run_bind, size_run h]
  simp [hn]

theorem live_A (hr : Rep X A H μ w) {id : Nat} {e : Entry} (he : H id = e) (hd : e ≠ .dead) : A id = true := hr.born id (by rw [he]; exact hd)

theorem ptr_at (hr : Rep X A H μ w) {id off : Nat} {u : Value} (hx : CR (Fr X w H μ) w (Sf A H) μ (.ptr id off) u) (hb : (H id).isBox = true) :
    ∃ b, μ id = .pointer (some ⟨b, 0, none⟩) ∧ u = .pointer (some ⟨b, off, none⟩) ∧ ∀ off', PtrR (Sf A H) μ id off' (.pointer (some ⟨b, off', none⟩)) := by
  cases hi : H id with
  | box t cs =>
    obtain ⟨b, h1, h2⟩ := ptr_live hr hx.2 hi (.inl ⟨_, _, rfl⟩)
    refine ⟨b, h1, h2, fun off' => ?_⟩
    simp only [PtrR, Sf, live_A hr hi (by simp), hi, Entry.sh, cond_true]
    exact ⟨b, h1, rfl⟩
  | abox t e xs =>
    obtain ⟨b, h1, h2⟩ := ptr_live hr hx.2 hi (.inr ⟨_, _, _, rfl⟩)
    refine ⟨b, h1, h2, fun off' => ?_⟩
    simp only [PtrR, Sf, live_A hr hi (by simp), hi, Entry.sh, cond_true]
    exact ⟨b, h1, rfl⟩
  | dead => rw [hi] at hb; cases hb
  | row _ _ _ => rw [hi] at hb; cases hb
  | refs _ _ _ => rw [hi] at hb; cases hb
  | bun _ _ _ => rw [hi] at hb; cases hb

theorem fieldAddr_ok (hc : CxOk cx P) (hr : Rep X A H μ w) {t j : Nat} {x : Q} {u : Value} (hx : QR (Fr X w H μ) w (Sf A H) μ x u) (h : (fieldAddrO cx t x j).Sel H r) : OpVal X P n A H μ w (Instr.fieldAt t u j) r := by
  unfold fieldAddrO at h
  split at h
  · exact h.elim
  rename_i o ti hf
  obtain ⟨fs, f, hu, hfj, rfl, hti⟩ := hc.field hf
  have htk := hc _ _ hti
  cases hz : Nat.beq ti.n 0 with
  | true => rw [hz] at h; exact h.elim
  | false =>
  rw [hz] at h
  have hn0 : ti.n ≠ 0 := fun e => by rw [e] at hz; cases hz
  simp only [cond_false] at h
  have run : ∀ a : Addr, (Instr.fieldAt t (.pointer (some a)) j).run P w = .ok (.pointer (some (a.add f.offset))) w := by
    intro a
    simp [Instr.fieldAt, Sem.run_bind, run_underlying hu, hfj, Instr.sureAddr, fieldPlace_run htk hn0]
  split at h
  · rename_i uty x
    cases hl : lens uty x f.offset ti.n ti.ag with
    | none => rw [hl] at h; exact h.elim
    | some z =>
      obtain ⟨w', y, s⟩ := z
      rw [hl] at h
      obtain ⟨ha, hn, hle, hg, _⟩ := lens_ok hl
      obtain ⟨_, ad, l, rfl, hfr, hrp, hcell⟩ := hx
      rw [retc h]
      refine .pure hr (run ad) ⟨rfl, ad.add f.offset, (l.drop f.offset).take ti.n, rfl, by rw [add_block]; exact hfr, hg _ _ _ hrp, fun i v hv => ?_⟩
      rw [add_add]
      refine hcell _ _ ?_
      rw [List.getElem?_take] at hv
      split at hv
      · rwa [List.getElem?_drop] at hv
      · cases hv
  · rename_i id off
    simp only [Tree.Sel] at h
    cases hb : (H id).isBox with
    | false => rw [hb] at h; exact h.elim
    | true =>
      rw [hb] at h
      obtain ⟨b, hm, rfl, hp⟩ := ptr_at hr hx hb
      rw [retc h]
      have := run ⟨b, off, none⟩
      rw [Addr.add_mid] at this
      exact .pure hr this ⟨rfl, hp _⟩
  · rename_i id i off
    simp only [Tree.Sel] at h
    cases hb : (H id).isRow with
    | false => rw [hb] at h; exact h.elim
    | true =>
      rw [hb] at h
      rw [retc h]
      obtain ⟨_, hx⟩ := hx
      cases hi : H id with
      | row e t' xs =>
        simp only [CR0, Sf, live_A hr hi (by simp), hi, Entry.sh, cond_true] at hx
        obtain ⟨h0, h1, b, c, hm, rfl⟩ := hx
        have := run ⟨b, i.toNat * t'.n + off, none⟩
        rw [Addr.add_mid] at this
        refine .pure hr this ⟨rfl, ?_⟩
        simp only [CR0, Sf, live_A hr hi (by simp), hi, Entry.sh, cond_true]
        exact ⟨h0, h1, b, c, hm, by rw [Nat.add_assoc]⟩
      | abox t' e xs =>
        simp only [CR0, Sf, live_A hr hi (by simp), hi, Entry.sh, cond_true] at hx
        obtain ⟨h0, b, hm, rfl⟩ := hx
        have := run ⟨b, i.toNat * e.n + off, none⟩
        rw [Addr.add_mid] at this
        refine .pure hr this ⟨rfl, ?_⟩
        simp only [CR0, Sf, live_A hr hi (by simp), hi, Entry.sh, cond_true]
        exact ⟨h0, b, hm, by rw [Nat.add_assoc]⟩
      | dead => rw [hi] at hb; cases hb
      | refs _ _ _ => rw [hi] at hb; cases hb
      | bun _ _ _ => rw [hi] at hb; cases hb
      | box _ _ => rw [hi] at hb; cases hb
  · exact h.elim

theorem loadVar_run {t : Nat} {ti : TI} (h : TiOk P t ti) {a : Addr} {l : List Value} (hl : l.length = ti.n) (hc : ∀ j v, l[j]? = some v → w.cell? (a.add j) = some v) : (loadVar t a).run P w = .ok (valOf ti l) w := by
  unfold loadVar valOf
  rw [Sem.run_bind, isAgg_run h]
  simp only [Result.andThen_ok]
  cases ha : ti.ag with
  | true =>
    simp only [if_true, Sem.run_bind, size_run h, Result.andThen_ok]
    rw [← hl]
    have := run_loadCells_list (P := P) w a l hc
    simp [this]
  | false =>
    rw [h.one ha] at hl
    obtain ⟨v, rfl⟩ := List.length_eq_one_iff.1 hl
    have := hc 0 v rfl
    rw [show a.add 0 = a from rfl] at this
    simp [load, Sem.run, this]

theorem cell_of_heap {b k : Nat} {arr : List Value} {e : TypeId} {fz : Nat × Nat} (h : w.heap[b]? = some (.cells arr.toArray e fz)) : w.cell? ⟨b, k, none⟩ = arr[k]? := by
  rw [cell_of_row w b k arr.toArray e fz h]; simp

theorem cut_get {l : List Value} {o n j : Nat} {v : Value} (h : ((l.drop o).take n)[j]? = some v) : l[o + j]? = some v := by
  rw [List.getElem?_take] at h
  split at h
  · rwa [List.getElem?_drop] at h
  · cases h

/-- A row of rows, and its rows, in memory. -/
theorem refs_rows (hr : Rep X A H μ w) {id e id2 k : Nat} (he : H id = .refs e id2 k) : Sf A H id2 ≠ .unborn ∧ ∃ hs : List Value, w.ownsRow 0 e 1 (μ id) k hs ∧ (∀ v ∈ hs, v.oneCell' = true) ∧
    ∀ t l, Sf A H id2 = .bun t l → l.length = k ∧ μ id2 = .tuple hs.toArray := by
  have h := hr.ent id
  rw [he] at h
  exact h

theorem bun_A (hr : Rep X A H μ w) {id e : Nat} {t : Ty} {xss : List (List t.D)} (he : H id = .bun e t xss) : Sf A H id = .bun t (xss.map List.length) := by
  simp only [Sf, live_A hr he (by simp), he, Entry.sh, cond_true]

theorem nth_get? {α : Type} {l : List α} {i : Int} {d : α} (h0 : 0 ≤ i) (h1 : i.toNat < l.length) : l[i.toNat]? = some (nth l i d) := by
  unfold nth
  rw [List.getD_eq_getElem?_getD, List.getElem?_eq_getElem h1]; rfl

/-- An element of a row of a row of rows. -/
theorem oai_at (hr : Rep X A H μ w) {id e : Nat} {t : Ty} {xss : List (List t.D)} (he : H id = .bun e t xss) {i j : Int} {off : Nat} {u : Value} (hx : CR0 (Fr X w H μ) w (Sf A H) μ (.oai id i j off) u) :
    0 < t.n ∧ 0 ≤ i ∧ i.toNat < xss.length ∧ 0 ≤ j ∧ j < (nth xss i []).length ∧ ∃ (hs : List Value) (b m c : Nat) (vs : List Value), μ id = .tuple hs.toArray ∧ hs.length = xss.length ∧
      hs[i.toNat]? = some (.slice (some ⟨b, 0, none⟩) m c) ∧ u = .pointer (some ⟨b, j.toNat * t.n + off, none⟩) ∧
      w.ownsRow 0 e t.n (.slice (some ⟨b, 0, none⟩) m c) (nth xss i []).length vs ∧ Els (Fr X w H μ) w t (nth xss i []) vs ∧ ∀ v ∈ vs, v.oneCell' = true := by
  have h := hr.ent id
  rw [he] at h
  obtain ⟨hpos, hs, hm, hl, hrow, _⟩ := h
  simp only [CR0] at hx
  rw [bun_A hr he] at hx
  obtain ⟨h0, h1, ⟨m', hm', hj⟩, hs', b, m, c, e1, e2, e3⟩ := hx
  rw [hm] at e1
  have : hs = hs' := by simpa using e1
  subst this
  rw [List.getElem?_map, Option.map_eq_some_iff] at hm'
  obtain ⟨xs, hxs, rfl⟩ := hm'
  have hi : i.toNat < xss.length := by
    rcases Nat.lt_or_ge i.toNat xss.length with h | h
    · exact h
    · rw [List.getElem?_eq_none h] at hxs; cases hxs
  have hn := nth_get? (d := []) h0 hi
  rw [hxs] at hn
  have : xs = nth xss i [] := Option.some.inj hn
  subst this
  obtain ⟨vs, p1, p2, p3⟩ := hrow _ _ _ e2 hxs
  exact ⟨hpos, h0, hi, h1, hj, hs, b, m, c, vs, hm, hl, e2, e3, p1, p2, p3⟩

/-- A row of a row of rows. -/
theorem osi_at (hr : Rep X A H μ w) {id e : Nat} {t : Ty} {xss : List (List t.D)} (he : H id = .bun e t xss) {i : Int} {u : Value} (hx : CR0 (Fr X w H μ) w (Sf A H) μ (.osi id i) u) :
    0 < t.n ∧ 0 ≤ i ∧ i.toNat < xss.length ∧ ∃ (hs : List Value) (vs : List Value), μ id = .tuple hs.toArray ∧ hs.length = xss.length ∧ hs[i.toNat]? = some u ∧
      w.ownsRow 0 e t.n u (nth xss i []).length vs ∧ Els (Fr X w H μ) w t (nth xss i []) vs ∧ ∀ v ∈ vs, v.oneCell' = true := by
  have h := hr.ent id
  rw [he] at h
  obtain ⟨hpos, hs, hm, hl, hrow, _⟩ := h
  simp only [CR0] at hx
  rw [bun_A hr he] at hx
  obtain ⟨h0, h1, hs', e1, e2⟩ := hx
  rw [hm] at e1
  have : hs = hs' := by simpa using e1
  subst this
  rw [List.length_map] at h1
  obtain ⟨vs, p1, p2, p3⟩ := hrow _ _ _ e2 (nth_get? (d := []) h0 h1)
  exact ⟨hpos, h0, h1, hs, vs, hm, hl, e2, p1, p2, p3⟩

theorem load_ok (hc : CxOk cx P) (hr : Rep X A H μ w) {t : Nat} {x : Q} {u : Value} (hx : QR (Fr X w H μ) w (Sf A H) μ x u) (h : (loadO cx t x).Sel H r) : OpVal X P n A H μ w (Instr.loadAt t u) r := by
  unfold loadO at h
  split at h
  · exact h.elim
  rename_i ti hti
  have htk := hc _ _ hti
  have run : ∀ a : Addr, (Instr.loadAt t (.pointer (some a))).run P w = (loadVar t a).run P w := by
    intro a
    simp [Instr.loadAt, Sem.run_bind, Instr.sureAddr]
  split at h
  · rename_i uty x
    cases hl : lens uty x 0 ti.n ti.ag with
    | none => rw [hl] at h; exact h.elim
    | some z =>
      obtain ⟨w', y, s⟩ := z
      rw [hl] at h
      obtain ⟨ha, hn, hle, hg, _⟩ := lens_ok hl
      obtain ⟨_, ad, l, rfl, hfr, hrp, hcell⟩ := hx
      rw [retq h]
      have hlen := hrp.len
      refine .pure hr ((run ad).trans (loadVar_run htk (l := (l.drop 0).take ti.n) (by simp; omega) (fun j v hv => hcell _ _ (by have := cut_get hv; simpa using this)))) (asQ_ok (valOf_vr ha (hg _ _ _ hrp) htk.one hn))
  · rename_i id off
    simp only [Tree.Sel] at h
    cases hi : H id with
    | box bt cs =>
      rw [hi] at h
      simp only [loadP] at h
      cases hb : Nat.ble (off + ti.n) cs.length with
      | false => rw [hb] at h; exact h.elim
      | true =>
        rw [hb] at h
        have hb := Nat.le_of_ble_eq_true hb
        obtain ⟨b, hm, rfl, _⟩ := ptr_at hr hx (by rw [hi]; rfl)
        have he := hr.ent id
        rw [hi] at he
        obtain ⟨b', arr, hm', hh, hcs⟩ := he
        rw [hm] at hm'
        cases hm'
        have hlen := hcs.len
        rw [retq h]
        refine .pure hr ((run _).trans (loadVar_run htk (l := (arr.drop off).take ti.n) (by simp; omega) (fun j v hv => ?_))) (loadQ_ok ((hcs.drop _).take _) htk.one (by simp; omega))
        rw [Addr.add_mid, cell_of_heap hh]
        exact cut_get hv
    | abox bt e xs =>
      rw [hi] at h
      simp only [loadP] at h
      cases hb : (Nat.beq off 0 && ti.ag) with
      | false => rw [hb] at h; exact h.elim
      | true =>
        rw [hb] at h
        simp only [Bool.and_eq_true] at hb
        have ho := Nat.eq_of_beq_eq_true hb.1
        subst ho
        simp only [cond_true] at h
        split at h
        · rename_i k e' hty
          obtain ⟨hk, h⟩ := h
          unfold Ln at hk
          · skip
            cases hcst : cast? (.sl e) (.sl e') xs with
            | none => rw [hcst] at h; exact h.elim
            | some ys =>
              rw [hcst] at h
              have hee : e = e' := by
                unfold cast? at hcst
                split at hcst
                · rename_i h'; have := Ty.eq_sound h'; cases this; rfl
                · cases hcst
              subst hee
              have hys : ys = xs := by
                unfold cast? at hcst
                split at hcst
                · cases hcst; rfl
                · cases hcst
              subst hys
              obtain ⟨b, hm, rfl, _⟩ := ptr_at hr hx (by rw [hi]; rfl)
              have he := hr.ent id
              rw [hi] at he
              obtain ⟨hpos, b', arr, hm', hh, hlen, hels, _⟩ := he
              rw [hm] at hm'
              cases hm'
              rw [retq h]
              obtain ⟨i, z, d, _, _, _, _, _, _, _, _, _, ht⟩ := htk.info
              obtain ⟨hun, hua, _⟩ := ht _ hty
              simp only [Ty.n] at hun
              refine .pure hr ((run _).trans (loadVar_run htk (l := arr) (by rw [hlen, ← hk]; exact hun) (fun j v hv => ?_))) ?_
              · rw [Addr.add_mid, cell_of_heap hh, Nat.zero_add]; exact hv
              · unfold valOf
                rw [hb.2]
                exact ⟨rfl, arr, rfl, .arr k e ys arr hk.symm (by rw [hlen, ← hk]) hels⟩
        · exact h.elim
    | dead => rw [hi] at h; exact h.elim
    | refs _ _ _ => rw [hi] at h; exact h.elim
    | bun _ _ _ => rw [hi] at h; exact h.elim
    | row _ _ _ => rw [hi] at h; exact h.elim
  · rename_i id i off
    simp only [Tree.Sel] at h
    obtain ⟨_, hx⟩ := hx
    cases hi : H id with
    | row e t' xs =>
      rw [hi] at h
      simp only [loadE] at h
      cases hl : lens t' (nth xs i t'.zero) off ti.n ti.ag with
      | none => rw [hl] at h; exact h.elim
      | some z =>
        obtain ⟨w', y, s⟩ := z
        rw [hl] at h
        obtain ⟨ha, hn, hle, hg, _⟩ := lens_ok hl
        simp only [CR0, Sf, live_A hr hi (by simp), hi, Entry.sh, cond_true] at hx
        obtain ⟨h0, h1, b, c, hm, rfl⟩ := hx
        have he := hr.ent id
        rw [hi] at he
        obtain ⟨hpos, vs, ho, hels, _⟩ := he
        have hlt : i.toNat < xs.length := by omega
        have hrp := hels i.toNat hlt
        rw [← nth_get (d := t'.zero) h0 h1] at hrp
        have hlen := hrp.len
        rw [retq h]
        refine .pure hr ((run _).trans (loadVar_run htk (l := ((((vs.drop (i.toNat * t'.n)).take t'.n)).drop off).take ti.n) (by simp at hlen ⊢; omega) (fun j v hv => ?_))) (asQ_ok (valOf_vr ha (hg _ _ _ hrp) htk.one hn))
        have h2 := drop_take_get (cut_get hv)
        have h3 := ho.cells (g := b) (by rw [hm]; rfl) _ _ h2
        rw [Addr.add_mid] at h3 ⊢
        rwa [Nat.zero_add, ← Nat.add_assoc] at h3
    | abox bt e xs =>
      rw [hi] at h
      obtain ⟨⟨h0, h1⟩, h⟩ := h
      cases hl : lens e (nth xs i e.zero) off ti.n ti.ag with
      | none => rw [hl] at h; exact h.elim
      | some z =>
        obtain ⟨w', y, s⟩ := z
        rw [hl] at h
        obtain ⟨ha, hn, hle, hg, _⟩ := lens_ok hl
        simp only [CR0, Sf, live_A hr hi (by simp), hi, Entry.sh, cond_true] at hx
        obtain ⟨_, b, hm, rfl⟩ := hx
        have he := hr.ent id
        rw [hi] at he
        obtain ⟨hpos, b', arr, hm', hh, hlen0, hels, _⟩ := he
        rw [hm] at hm'
        cases hm'
        have hlt : i.toNat < xs.length := by omega
        have hrp := hels i.toNat hlt
        rw [← nth_get (d := e.zero) h0 h1] at hrp
        have hlen := hrp.len
        rw [retq h]
        refine .pure hr ((run _).trans (loadVar_run htk (l := ((((arr.drop (i.toNat * e.n)).take e.n)).drop off).take ti.n) (by simp at hlen ⊢; omega) (fun j v hv => ?_))) (asQ_ok (valOf_vr ha (hg _ _ _ hrp) htk.one hn))
        have h2 := drop_take_get (cut_get hv)
        rw [Addr.add_mid, cell_of_heap hh, Nat.add_assoc]
        exact h2
    | dead => rw [hi] at h; exact h.elim
    | refs e id2 k =>
      rw [hi] at h
      simp only [loadE] at h
      cases hb : (Nat.beq off 0 && !ti.ag) with
      | false => rw [hb] at h; exact h.elim
      | true =>
        rw [hb] at h
        simp only [Bool.and_eq_true, Bool.not_eq_true'] at hb
        have ho := Nat.eq_of_beq_eq_true hb.1
        subst ho
        simp only [CR0, Sf, live_A hr hi (by simp), hi, Entry.sh, cond_true] at hx
        obtain ⟨h0, h1, b, c, hm, rfl⟩ := hx
        obtain ⟨hne, hs, hown, hone, hbun⟩ := refs_rows hr hi
        have hlen : hs.length = k := by have := hown.1; omega
        have hget : hs[i.toNat]? = some hs[i.toNat] := List.getElem?_eq_getElem (by omega)
        simp only [cond_true, Tree.Sel] at h
        cases hi2 : H id2 with
        | bun e2 t2 xss =>
        rw [hi2] at h
        have hs2 := bun_A hr hi2
        rw [retc h]
        refine .pure hr (v := hs[i.toNat]'(by omega)) ((run _).trans ?_) ⟨hone _ (List.getElem_mem _), ?_⟩
        · have := loadVar_run (P := P) (w := w) (a := ⟨b, i.toNat * 1 + 0, none⟩) htk (l := [hs[i.toNat]'(by omega)]) (by rw [htk.one hb.2]; rfl) (fun j v hv => by
            have hj : j = 0 := by cases j; rfl; simp at hv
            subst hj
            simp at hv
            subst hv
            have := hown.cells (g := b) (by rw [hm]; rfl) i.toNat _ hget
            rw [Addr.add_mid, Nat.zero_add] at this
            rw [Addr.add_mid]
            simpa using this)
          rw [this]
          unfold valOf
          rw [hb.2]; rfl
        · simp only [CR0]
          rw [hs2]
          obtain ⟨k1, k2⟩ := hbun _ _ hs2
          exact ⟨h0, by omega, hs, k2, hget⟩
        | dead => rw [hi2] at h; exact h.elim
        | refs _ _ _ => rw [hi2] at h; exact h.elim
        | row _ _ _ => rw [hi2] at h; exact h.elim
        | box _ _ => rw [hi2] at h; exact h.elim
        | abox _ _ _ => rw [hi2] at h; exact h.elim
    | bun _ _ _ => rw [hi] at h; exact h.elim
    | box _ _ => rw [hi] at h; exact h.elim
  · rename_i id i j off
    simp only [Tree.Sel] at h
    obtain ⟨_, hx⟩ := hx
    cases hi : H id with
    | bun e t' xss =>
      rw [hi] at h
      simp only [loadB] at h
      cases hl : lens t' (nth (nth xss i []) j t'.zero) off ti.n ti.ag with
      | none => rw [hl] at h; exact h.elim
      | some z =>
        obtain ⟨w', y, s⟩ := z
        rw [hl] at h
        obtain ⟨ha, hn, hle, hg, _⟩ := lens_ok hl
        obtain ⟨hpos, h0, h1, h2, h3, hs, b, m, c, vs, hm, hl2, e2, rfl, hown, hels, _⟩ := oai_at hr hi hx
        have hlt : j.toNat < (nth xss i []).length := by omega
        have hrp := hels j.toNat hlt
        rw [← nth_get (d := t'.zero) h2 h3] at hrp
        have hlen := hrp.len
        rw [retq h]
        refine .pure hr ((run _).trans (loadVar_run htk (l := ((((vs.drop (j.toNat * t'.n)).take t'.n)).drop off).take ti.n) (by simp at hlen ⊢; omega) (fun j' v hv => ?_))) (asQ_ok (valOf_vr ha (hg _ _ _ hrp) htk.one hn))
        have h2 := drop_take_get (cut_get hv)
        have h3 := hown.cells (g := b) rfl _ _ h2
        rw [Addr.add_mid] at h3 ⊢
        rwa [Nat.zero_add, ← Nat.add_assoc] at h3
    | dead => rw [hi] at h; exact h.elim
    | refs _ _ _ => rw [hi] at h; exact h.elim
    | row _ _ _ => rw [hi] at h; exact h.elim
    | box _ _ => rw [hi] at h; exact h.elim
    | abox _ _ _ => rw [hi] at h; exact h.elim
  · exact h.elim
end Vi

set_option autoImplicit false
namespace Vi
open Go

variable {X : Nat → Prop} {P : Program} {cx : Cx} {n : Nat} {A : Nat → Bool} {H : Nat → Entry} {μ : Nat → Value} {w : World} {r : Out}

theorem ix_nat {i : Int} {k : Nat} (h : Ix i k) : 0 ≤ i ∧ i.toNat < k := by
  obtain ⟨h0, h1⟩ := h
  omega

theorem sbAt_ok {r : Out} {id m : Nat} {i : Int} : ∀ {k j : Nat}, (sbAt id m i j k).Sel H r → (j : Int) ≤ i → i < (j : Int) + (k : Nat) → r = ⟨.one (.ce (.ptr id (i.toNat * m))), []⟩
  | 0, j, h, _, _ => h.elim
  | 1, j, h, h1, h2 => by
    have h3 := retc (H := H) (show (outc (.ptr id (j * m))).Sel H r from h)
    rw [h3, show i.toNat = j by omega]
  | k + 2, j, h, h1, h2 => by
    unfold sbAt at h
    simp only [Tree.Sel] at h
    cases hb : decide (i = (j : Int)) with
    | true =>
      rw [hb] at h
      have hij := of_decide_eq_true hb
      have h3 := retc (H := H) (show (outc (.ptr id (j * m))).Sel H r from h)
      rw [h3, show i.toNat = j by omega]
    | false =>
      rw [hb] at h
      have hij := of_decide_eq_false hb
      exact sbAt_ok (k := k + 1) (j := j + 1) h (by omega) (by omega)

theorem indexAddr_ok (hc : CxOk cx P) (hr : Rep X A H μ w) {t : Nat} {x i : Q} {u v : Value} (hx : QR (Fr X w H μ) w (Sf A H) μ x u) (hi : QR (Fr X w H μ) w (Sf A H) μ i v) (h : (indexAddrO cx t x i).Sel H r) :
    OpVal X P n A H μ w (Instr.indexAt t u v) r := by
  unfold indexAddrO at h
  split at h
  · rename_i e uty xs k i hde
    cases hz : szOk cx e uty with
    | false => rw [hz] at h; exact h.elim
    | true =>
      rw [hz] at h
      obtain ⟨hix, h⟩ := h
      obtain ⟨rfl, _⟩ := int_of hi
      rw [retc h]
      obtain ⟨Aa, c, ls, hu, h1, h2, h3, h4⟩ := hx.2.2.sl_inv
      simp at hu
      subst hu
      obtain ⟨h0, hlt⟩ := ix_nat hix
      obtain ⟨ad, rfl, hf, hcell⟩ := h3 _ hlt
      have hg : nth xs i uty.zero = List.get xs ⟨Int.toNat i, hlt⟩ := nth_get h0 hix.2
      refine .pure hr (v := .pointer (some (ad.add (Int.toNat i * uty.n)))) ?_ ⟨rfl, ad.add (Int.toNat i * uty.n), ls (Int.toNat i), rfl, by rw [add_block]; exact hf, ?_, fun j v hv => ?_⟩
      · have hb := hix; unfold Ix at hb
        simp [Instr.indexAt, asIntOf, run_underlying (hc.sl hde), size_of hc hz, hb.1, hb.2]
      · rw [hg]; exact h4 _ hlt
      · rw [add_add]; exact hcell j v hv
  · rename_i e id k i hde
    simp only [Tree.Sel] at h
    cases hid : H id with
    | row e' uty xs =>
      rw [hid] at h
      simp only [idxRow] at h
      cases hz : ((Nat.beq e e' || Nat.beq (e + eM) e') && szOk cx e uty) with
      | false => rw [hz] at h; exact h.elim
      | true =>
        rw [hz] at h
        simp only [Bool.and_eq_true] at hz
        obtain ⟨hix, h⟩ := h
        obtain ⟨rfl, _⟩ := int_of hi
        rw [retc h]
        obtain ⟨rfl, Aa, c, hm, h1, h2⟩ := os_of hr hid hx
        obtain ⟨h0, hlt⟩ := ix_nat hix
        have he := hr.ent id
        rw [hid] at he
        obtain ⟨hpos, vs, ho, hels, _⟩ := he
        rcases ho.2 with ⟨hv, hn⟩ | ⟨g, cap, cur, hv, _, hg, hnc, hcm, _⟩
        · omega
        · rw [hv]
          have hb := hix; unfold Ix at hb
          refine .pure hr (v := .pointer (some ⟨g, Int.toNat i * uty.n, none⟩)) ?_ ⟨rfl, ?_⟩
          · have hadd : (⟨g, 0, none⟩ : Addr).add (Int.toNat i * uty.n) = ⟨g, Int.toNat i * uty.n, none⟩ := by rw [Addr.add_mid, Nat.zero_add]
            simp [Instr.indexAt, asIntOf, run_underlying (hc.sl hde), size_of hc hz.2, hb.1, hb.2, hadd]
          · simp only [CR0, Sf, live_A hr hid (by simp), hid, Entry.sh, cond_true]
            exact ⟨h0, hb.2, g, cap, hv, rfl⟩
    | dead => rw [hid] at h; exact h.elim
    | refs e' id2 k =>
      rw [hid] at h
      simp only [idxRow] at h
      cases hz : (Nat.beq e e' && szOk cx e .bool) with
      | false => rw [hz] at h; exact h.elim
      | true =>
        rw [hz] at h
        simp only [Bool.and_eq_true] at hz
        obtain ⟨hix, h⟩ := h
        obtain ⟨rfl, _⟩ := int_of hi
        rw [retc h]
        obtain ⟨rfl, Aa, c, hm, h1, h2⟩ := refs_of hr hid hx
        obtain ⟨h0, hlt⟩ := ix_nat hix
        obtain ⟨_, vs, ho, _⟩ := refs_rows hr hid
        rcases ho.2 with ⟨hv, hn⟩ | ⟨g, cap, cur, hv, _, hg, hnc, hcm, _⟩
        · omega
        · rw [hv]
          have hb := hix; unfold Ix at hb
          refine .pure hr (v := .pointer (some ⟨g, Int.toNat i * 1, none⟩)) ?_ ⟨rfl, ?_⟩
          · have hadd : (⟨g, 0, none⟩ : Addr).add (Int.toNat i * 1) = ⟨g, Int.toNat i * 1, none⟩ := by rw [Addr.add_mid, Nat.zero_add]
            have hsz : (Go.sizeOf e).run P w = .ok 1 w := size_of hc hz.2
            simp only [Nat.mul_one] at hadd
            simp [Instr.indexAt, asIntOf, run_underlying (hc.sl hde), hsz, hb.1, hb.2, hadd]
          · simp only [CR0, Sf, live_A hr hid (by simp), hid, Entry.sh, cond_true]
            exact ⟨h0, hb.2, g, cap, hv, rfl⟩
    | bun _ _ _ => rw [hid] at h; exact h.elim
    | box _ _ => rw [hid] at h; exact h.elim
    | abox _ _ _ => rw [hid] at h; exact h.elim
  · rename_i e id i0 k j hde
    simp only [Tree.Sel] at h
    cases hid : H id with
    | bun e' uty xss =>
      rw [hid] at h
      simp only [idxBun] at h
      cases hz : (Nat.beq e e' && szOk cx e uty) with
      | false => rw [hz] at h; exact h.elim
      | true =>
        rw [hz] at h
        simp only [Bool.and_eq_true] at hz
        obtain ⟨hix, h⟩ := h
        obtain ⟨rfl, _⟩ := int_of hi
        rw [retc h]
        obtain ⟨_, hx⟩ := hx
        obtain ⟨hpos, h0, h1, hs, vs, hm, hl, e2, ho, hels, _⟩ := osi_at hr hid hx
        obtain ⟨h2, hlt⟩ := ix_nat hix
        rcases ho.2 with ⟨hv, hn⟩ | ⟨g, cap, cur, hv, _, hg, hnc, hcm, _⟩
        · rw [hn] at hlt; omega
        · rw [hv]
          have hb := hix; unfold Ix at hb
          refine .pure hr (v := .pointer (some ⟨g, Int.toNat j * uty.n, none⟩)) ?_ ⟨rfl, ?_⟩
          · have hadd : (⟨g, 0, none⟩ : Addr).add (Int.toNat j * uty.n) = ⟨g, Int.toNat j * uty.n, none⟩ := by rw [Addr.add_mid, Nat.zero_add]
            simp [Instr.indexAt, asIntOf, run_underlying (hc.sl hde), size_of hc hz.2, hb.1, hb.2, hadd]
          · simp only [CR0]
            rw [bun_A hr hid]
            refine ⟨h0, h2, ⟨(nth xss i0 []).length, ?_, hb.2⟩, hs, g, _, cap, hm, by rw [e2, hv], rfl⟩
            rw [List.getElem?_map, nth_get? (d := []) h0 h1]; rfl
    | dead => rw [hid] at h; exact h.elim
    | refs _ _ _ => rw [hid] at h; exact h.elim
    | row _ _ _ => rw [hid] at h; exact h.elim
    | box _ _ => rw [hid] at h; exact h.elim
    | abox _ _ _ => rw [hid] at h; exact h.elim
  · rename_i e id k ki i hde
    simp only [Tree.Sel] at h
    cases hid : H id with
    | box bt cs =>
      rw [hid] at h
      simp only [idxSb] at h
      cases hti : cx.ti e with
      | none => rw [hti] at h; exact h.elim
      | some ti =>
        rw [hti] at h
        simp only [Tree.Sel] at h
        obtain ⟨hix, h⟩ := h
        obtain ⟨rfl, _⟩ := int_of hi
        obtain ⟨b, hm, rfl⟩ := sb_of hr hid hx
        have hb := hix; unfold Ix at hb
        rw [sbAt_ok h (by simp only [Int.ofNat_zero]; exact hb.1) (by simp only [Int.ofNat_zero, Int.zero_add]; exact hb.2)]
        have htk := hc _ _ hti
        refine .pure hr (v := .pointer (some ⟨b, Int.toNat i * ti.n, none⟩)) ?_ ⟨rfl, ?_⟩
        · have hadd : (⟨b, 0, none⟩ : Addr).add (Int.toNat i * ti.n) = ⟨b, Int.toNat i * ti.n, none⟩ := by rw [Addr.add_mid, Nat.zero_add]
          simp [Instr.indexAt, asIntOf, run_underlying (hc.sl hde), size_run htk, hb.1, hb.2, hadd]
        · simp only [CR0, PtrR, Sf, live_A hr hid (by simp), hid, Entry.sh, cond_true]
          exact ⟨b, hm, rfl⟩
    | dead => rw [hid] at h; simp only [idxSb] at h; split at h <;> first | exact h.elim | (rename_i q; cases q)
    | row _ _ _ => rw [hid] at h; simp only [idxSb] at h; split at h <;> first | exact h.elim | (rename_i q; cases q)
    | refs _ _ _ => rw [hid] at h; simp only [idxSb] at h; split at h <;> first | exact h.elim | (rename_i q; cases q)
    | bun _ _ _ => rw [hid] at h; simp only [idxSb] at h; split at h <;> first | exact h.elim | (rename_i q; cases q)
    | abox _ _ _ => rw [hid] at h; simp only [idxSb] at h; split at h <;> first | exact h.elim | (rename_i q; cases q)
  · rename_i k e id off ki i hde
    simp only [Tree.Sel] at h
    have hu := hc.ar hde
    cases hid : H id with
    | abox bt uty xs =>
      rw [hid] at h
      simp only [idxPtr] at h
      cases hz : (Nat.beq off 0 && szOk cx e uty) with
      | false => rw [hz] at h; exact h.elim
      | true =>
        rw [hz] at h
        simp only [Bool.and_eq_true] at hz
        have ho := Nat.eq_of_beq_eq_true hz.1
        subst ho
        obtain ⟨hk, hix, h⟩ := h
        obtain ⟨rfl, _⟩ := int_of hi
        rw [retc h]
        obtain ⟨b, hm, rfl, _⟩ := ptr_at hr hx (by rw [hid]; rfl)
        have hb := hix; unfold Ix at hb
        refine .pure hr (v := .pointer (some ⟨b, Int.toNat i * uty.n, none⟩)) ?_ ⟨rfl, ?_⟩
        · have hadd : (⟨b, 0, none⟩ : Addr).add (Int.toNat i * uty.n) = ⟨b, Int.toNat i * uty.n, none⟩ := by rw [Addr.add_mid, Nat.zero_add]
          simp [Instr.indexAt, asIntOf, run_underlying hu, size_of hc hz.2, hb.1, hb.2, hadd, Instr.sureAddr]
        · simp only [CR0, Sf, live_A hr hid (by simp), hid, Entry.sh, cond_true]
          exact ⟨hb.1, b, hm, rfl⟩
    | box bt cs =>
      rw [hid] at h
      simp only [idxPtr] at h
      split at h
      · rename_i ti hti
        cases hz : Nat.beq ti.n 0 with
        | true => rw [hz] at h; exact h.elim
        | false =>
          rw [hz] at h
          obtain ⟨hix, h⟩ := h
          obtain ⟨rfl, _⟩ := int_of hi
          rw [retc h]
          obtain ⟨b, hm, rfl, hp⟩ := ptr_at hr hx (by rw [hid]; rfl)
          have hb := hix; unfold Ix at hb
          have htk := hc _ _ hti
          refine .pure hr (v := .pointer (some ⟨b, off + natOf i * ti.n, none⟩)) ?_ ⟨rfl, hp _⟩
          have hadd : (⟨b, off, none⟩ : Addr).add (Int.toNat i * ti.n) = ⟨b, off + Int.toNat i * ti.n, none⟩ := Addr.add_mid _ _ _
          simp [Instr.indexAt, asIntOf, run_underlying hu, size_run htk, hb.1, hb.2, hadd, Instr.sureAddr, natOf]
      · exact h.elim
    | dead => rw [hid] at h; exact h.elim
    | refs _ _ _ => rw [hid] at h; exact h.elim
    | bun _ _ _ => rw [hid] at h; exact h.elim
    | row _ _ _ => rw [hid] at h; exact h.elim
  · rename_i k e k' uty xs ki i hde
    have hu := hc.ar hde
    cases hz : (szOk cx e uty && Nat.beq k k') with
    | false => rw [hz] at h; exact h.elim
    | true =>
      rw [hz] at h
      simp only [Bool.and_eq_true] at hz
      have hk := Nat.eq_of_beq_eq_true hz.2
      subst hk
      obtain ⟨hix, h⟩ := h
      obtain ⟨rfl, _⟩ := int_of hi
      rw [retc h]
      obtain ⟨_, ad, l, rfl, hfr, hrp, hcell⟩ := hx
      obtain ⟨h1, h2, h3⟩ := hrp.arr_inv
      obtain ⟨h0, hlt⟩ := ix_nat hix
      rw [← h1] at hlt
      have hg : nth xs i uty.zero = List.get xs ⟨Int.toNat i, hlt⟩ := nth_get h0 (by rw [h1]; exact hix.2)
      refine .pure hr (v := .pointer (some (ad.add (Int.toNat i * uty.n)))) ?_ ⟨rfl, ad.add (Int.toNat i * uty.n), (l.drop (Int.toNat i * uty.n)).take uty.n, rfl, by rw [add_block]; exact hfr, ?_, fun j v hv => ?_⟩
      · have hb := hix; unfold Ix at hb
        simp [Instr.indexAt, asIntOf, run_underlying hu, size_of hc hz.1, hb.1, hb.2, Instr.sureAddr]
      · rw [hg]; exact h3 _ hlt
      · rw [add_add]; exact hcell _ _ (drop_take_get hv)
  · exact h.elim
end Vi

set_option autoImplicit false
namespace Vi
open Go

variable {X : Nat → Prop} {P : Program} {cx : Cx} {n : Nat} {A A' : Nat → Bool} {H H' : Nat → Entry} {μ μ' : Nat → Value} {w w' : World} {r : Out}

theorem ownsRow_has {base e size m : Nat} {v : Value} {xs : List Value} (h : w.ownsRow base e size v m xs) (b : Nat) : v.has b ↔ v.ownBlock = some b := by
  rcases h.2 with ⟨rfl, _⟩ | ⟨g, cap, cur, rfl, _⟩ <;> simp [Value.has, Value.has1, Value.ownBlock]

theorem ownsRow_same {base e size m : Nat} {v : Value} {xs : List Value} (h : w.ownsRow base e size v m xs) (hb : ∀ b, v.has b → w'.heap[b]? = w.heap[b]?) : w'.ownsRow base e size v m xs := by
  refine ⟨h.1, ?_⟩
  rcases h.2 with hn | ⟨g, cap, cur, rfl, h1, hg, rest⟩
  · exact .inl hn
  · exact .inr ⟨g, cap, cur, rfl, h1, (hb g rfl).trans hg, rest⟩

theorem Els.mono {F F' : Nat → Prop} {t : Ty} {xs : List t.D} {vs : List Value} (h : Els F w t xs vs) (hF : ∀ b, F b → F' b) (hw : ∀ b, F b → w'.heap[b]? = w.heap[b]?) : Els F' w' t xs vs :=
  fun j hj => (h j hj).mono hF hw

theorem ER.mono {F F' : Nat → Prop} {S S' : Nat → Sh} {id : Nat} {e : Entry} (h : ER F w S μ id e) (hF : ∀ b, F b → F' b) (hw : ∀ b, F b → w'.heap[b]? = w.heap[b]?) (hS : ShLe S S') (hm : MuLe S S' μ μ')
    (hi : μ' id = μ id) (hb : ∀ b, (μ id).has b → w'.heap[b]? = w.heap[b]?) : ER F' w' S' μ' id e := by
  cases e with
  | dead => trivial
  | box t cs =>
    obtain ⟨b, arr, h1, h2, h3⟩ := h
    exact ⟨b, arr, hi.trans h1, (hb b (by rw [h1]; rfl)).trans h2, h3.mono hF hw hS hm⟩
  | row e t xs =>
    obtain ⟨h0, vs, h1, h2, h3⟩ := h
    refine ⟨h0, vs, ?_, h2.mono hF hw, h3⟩
    rw [hi]
    exact rowAt_same h1 hb
  | abox t e xs =>
    obtain ⟨h0, b, arr, h1, h2, h3, h4, h5⟩ := h
    exact ⟨h0, b, arr, hi.trans h1, (hb b (by rw [h1]; rfl)).trans h2, h3, h4.mono hF hw, h5⟩
  | refs e id2 n =>
    obtain ⟨h0, hs, h1, h2, h3⟩ := h
    refine ⟨?_, hs, by rw [hi]; exact ownsRow_same h1 hb, h2, fun t l he => ?_⟩
    · rcases hS id2 with e | e | e
      · exact absurd e h0
      · rw [e]; exact h0
      · rw [e]; simp
    · have e1 : S id2 = .bun t l := by
        rcases hS id2 with e | e | e
        · exact absurd e h0
        · rw [← e]; exact he
        · rw [e] at he; cases he
      obtain ⟨k1, k2⟩ := h3 t l e1
      rcases hm id2 with e | e | e
      · exact absurd e h0
      · rw [e] at he; cases he
      · exact ⟨k1, e.trans k2⟩
  | bun e t xss =>
    obtain ⟨h0, hs, h1, h2, h3, h4⟩ := h
    refine ⟨h0, hs, hi.trans h1, h2, fun j h xs k1 k2 => ?_, h4⟩
    obtain ⟨vs, p1, p2, p3⟩ := h3 j h xs k1 k2
    refine ⟨vs, ownsRow_same p1 (fun b hb' => hb b ?_), p2.mono hF hw, p3⟩
    rw [h1]
    refine ⟨h, by simpa using List.mem_of_getElem? k1, ?_⟩
    have := (ownsRow_has p1 b).1 hb'
    rcases p1.2 with ⟨rfl, _⟩ | ⟨g, cap, cur, rfl, _⟩
    · simp [Value.ownBlock] at this
    · simpa [Value.ownBlock, Value.has1] using this

theorem Rep.step (hr : Rep X A H μ w) (hx : Ext X n A H μ w A' H' μ' w')
    (hent : ∀ id, H' id ≠ .dead → (H' id = H id ∧ μ' id = μ id ∧ ∀ b, (μ id).has b → w'.heap[b]? = w.heap[b]?) ∨ ER (Fr X w' H' μ') w' (Sf A' H') μ' id (H' id))
    (hsep : ∀ i j b, i ≠ j → H' i ≠ .dead → H' j ≠ .dead → (μ' i).has b → ¬ (μ' j).has b) (hborn : ∀ id, H' id ≠ .dead → A' id = true) : Rep X A' H' μ' w' := by
  refine ⟨fun id => ?_, hsep, hborn, fun id b hd hb hX => ?_, fun b hb => Nat.lt_of_lt_of_le (hr.hlt b hb) hx.size⟩
  case refine_2 =>
    rcases hx.own id b hd hb with ⟨i, h1, h2⟩ | h1
    · exact hr.hid i b h1 h2 hX
    · have := hr.hlt b hX; omega
  by_cases hd : H' id = .dead
  · rw [hd]; trivial
  · rcases hent id hd with ⟨h1, h2, h3⟩ | h
    · rw [h1]
      exact (hr.ent id).mono (fun _ hb => hx.fr hb) hx.blk hx.sh hx.mu h2 h3
    · exact h

theorem find_dead (e : Entry) (i : Nat) : ∀ (L : List Nat), find e (deadL L) i = bif memb i L then .dead else e
  | [] => rfl
  | k :: L => by
    have := find_dead e i L
    simp only [deadL, List.map_cons, find, memb] at *
    cases hb : Nat.beq i k with
    | true => rfl
    | false => simpa using this

theorem updH_new (e : Entry) (L : List Nat) (id : Nat) : updH ((n, e) :: deadL L) H id = bif Nat.beq id n then e else killH L H id := by
  simp only [updH, find, find_dead, killH]

def bornA (A : Nat → Bool) (n : Nat) (id : Nat) : Bool := A id || Nat.beq id n
def setM (μ : Nat → Value) (n : Nat) (v : Value) (id : Nat) : Value := bif Nat.beq id n then v else μ id

theorem beq_false {i j : Nat} (h : i ≠ j) : Nat.beq i j = false := by
  cases hb : Nat.beq i j with
  | false => rfl
  | true => exact absurd (Nat.eq_of_beq_eq_true hb) h

theorem setM_ne {v : Value} {id : Nat} (h : id ≠ n) : setM μ n v id = μ id := by simp [setM, beq_false h]
theorem setM_eq {v : Value} : setM μ n v n = v := by simp [setM]

/-- A new entry 'n', and some that die. -/
theorem ext_new (hr : Rep X A H μ w) (hA : A n = false) {e : Entry} {L : List Nat} {v : Value}
    (os : w'.os = w.os) (tape : w'.tape = w.tape) (output : w'.output = w.output) (size : w.heap.size ≤ w'.heap.size)
    (blk : ∀ b, Fr (fun _ => False) w H μ b → w'.heap[b]? = w.heap[b]?) (own : ∀ b, v.has b → (∃ i, H i ≠ .dead ∧ (μ i).has b) ∨ w.heap.size ≤ b) :
    Ext X n A H μ w (bornA A n) (updH ((n, e) :: deadL L) H) (setM μ n v) w' := by
  have hne : ∀ id, A id = true → id ≠ n := fun id h e => by rw [e, hA] at h; cases h
  refine ⟨os, tape, output, size, blk, fun id b hd hb => ?_, fun id => ?_, fun id hAi => setM_ne (hne id hAi), fun id h => by simp [bornA, h], fun id h => ?_⟩
  · rw [updH_new] at hd
    by_cases hi : id = n
    · subst hi; rw [setM_eq] at hb; exact own b hb
    · rw [beq_false hi] at hd
      rw [setM_ne hi] at hb
      exact .inl ⟨id, (killH_live hd).2.1, hb⟩
  · cases hAi : A id with
    | false => exact .inl (by simp [Sf, hAi])
    | true =>
      have hi := hne id hAi
      simp only [Sf, bornA, hAi, Bool.true_or, cond_true, updH_new, beq_false hi, cond_false, killH]
      cases memb id L with
      | true => exact .inr (.inr rfl)
      | false => exact .inr (.inl rfl)
  · simp only [bornA, Bool.or_eq_true] at h
    rcases h with h | h
    · exact .inl h
    · rw [Nat.eq_of_beq_eq_true h]; exact .inr ⟨Nat.le_refl _, by simp [stride]⟩

theorem live_new {e : Entry} {L : List Nat} {id : Nat} (h : updH ((n, e) :: deadL L) H id ≠ .dead) : id = n ∨ (id ≠ n ∧ id ∉ L ∧ H id ≠ .dead ∧ updH ((n, e) :: deadL L) H id = H id) := by
  rw [updH_new] at h
  by_cases hi : id = n
  · exact .inl hi
  · rw [beq_false hi] at h
    obtain ⟨h1, h2, h3⟩ := killH_live h
    refine .inr ⟨hi, h1, h2, ?_⟩
    rw [updH_new, beq_false hi]
    exact h3

/-- A new entry in a block that was just made. -/
theorem rep_alloc (hr : Rep X A H μ w) (hA : A n = false) {e : Entry} {L : List Nat} {v : Value} (o : Obj) (hv : ∀ b, v.has b → b = w.heap.size)
    (os : w'.os = w.os) (tape : w'.tape = w.tape) (output : w'.output = w.output) (hh : w'.heap = w.heap.push o)
    (he : ER (Fr X w' (updH ((n, e) :: deadL L) H) (setM μ n v)) w' (Sf (bornA A n) (updH ((n, e) :: deadL L) H)) (setM μ n v) n e) :
    Rep X (bornA A n) (updH ((n, e) :: deadL L) H) (setM μ n v) w' ∧ Ext X n A H μ w (bornA A n) (updH ((n, e) :: deadL L) H) (setM μ n v) w' := by
  have old : ∀ b, b < w.heap.size → w'.heap[b]? = w.heap[b]? := fun b hb => by rw [hh, Array.getElem?_push, if_neg (by omega)]
  have hx : Ext X n A H μ w (bornA A n) (updH ((n, e) :: deadL L) H) (setM μ n v) w' :=
    ext_new hr hA os tape output (by rw [hh]; simp) (fun b hb => old b hb.1.1) (fun b hb => .inr (by rw [hv b hb]; exact Nat.le_refl _))
  have lt : ∀ i b, H i ≠ .dead → (μ i).has b → b < w.heap.size := fun i b hd hb => (hr.ent i).lt hd hb
  refine ⟨hr.step hx (fun id hd => ?_) (fun i j b hij hi hj hbi hbj => ?_) (fun id hd => ?_), hx⟩
  · rcases live_new hd with rfl | ⟨h1, h2, h3, h4⟩
    · right
      rw [updH_new, Nat.beq_refl]
      exact he
    · exact .inl ⟨h4, setM_ne h1, fun b hb => old b (lt id b h3 hb)⟩
  · rcases live_new hi with rfl | ⟨h1, h2, h3, h4⟩ <;> rcases live_new hj with rfl | ⟨k1, k2, k3, k4⟩
    · exact hij rfl
    · rw [setM_eq] at hbi
      rw [setM_ne k1] at hbj
      have := hv b hbi
      have := lt j b k3 hbj
      omega
    · rw [setM_eq] at hbj
      rw [setM_ne h1] at hbi
      have := hv b hbj
      have := lt i b h3 hbi
      omega
    · rw [setM_ne h1] at hbi
      rw [setM_ne k1] at hbj
      exact hr.sep i j b hij h3 k3 hbi hbj
  · rcases live_new hd with rfl | ⟨h1, h2, h3, h4⟩
    · simp [bornA]
    · simp [bornA, hr.born id h3]
end Vi

set_option autoImplicit false
namespace Vi
open Go

variable {X : Nat → Prop} {P : Program} {cx : Cx} {n : Nat} {A A' : Nat → Bool} {H H' : Nat → Entry} {μ μ' : Nat → Value} {w w' : World} {r : Out}

def pasteV {α : Type} (l : List α) (k : Nat) (m : List α) : List α := l.take k ++ m ++ l.drop (k + m.length)

theorem pasteV_get {α : Type} {l m : List α} {k : Nat} (h : k + m.length ≤ l.length) (j : Nat) : (pasteV l k m)[j]? = if j < k then l[j]? else if j < k + m.length then m[j - k]? else l[j]? := by
  unfold pasteV
  have hk : (l.take k).length = k := by simp; omega
  by_cases h1 : j < k
  · rw [if_pos h1, List.append_assoc, List.getElem?_append_left (by omega), List.getElem?_take, if_pos h1]
  · rw [if_neg h1]
    by_cases h2 : j < k + m.length
    · rw [if_pos h2, List.append_assoc, List.getElem?_append_right (by omega), List.getElem?_append_left (by omega), hk]
    · rw [if_neg h2, List.getElem?_append_right (by simp; omega), List.getElem?_drop]
      congr 1
      simp
      omega

theorem pasteV_len {α : Type} {l m : List α} {k : Nat} (h : k + m.length ≤ l.length) : (pasteV l k m).length = l.length := by
  unfold pasteV; simp; omega

/-- A stretch that is not touched. -/
theorem pasteV_apart {α : Type} {l m : List α} {k a c : Nat} (h : k + m.length ≤ l.length) (hd : a + c ≤ k ∨ k + m.length ≤ a) : ((pasteV l k m).drop a).take c = (l.drop a).take c := by
  apply List.ext_getElem?
  intro j
  rw [List.getElem?_take, List.getElem?_take]
  by_cases hj : j < c
  · rw [if_pos hj, if_pos hj, List.getElem?_drop, List.getElem?_drop, pasteV_get h]
    rcases hd with hd | hd
    · rw [if_pos (by omega)]
    · rw [if_neg (by omega), if_neg (by omega)]
  · rw [if_neg hj, if_neg hj]

/-- The stretch in which it lies. -/
theorem pasteV_in {α : Type} {l m : List α} {a c o : Nat} (h : a + c ≤ l.length) (ho : o + m.length ≤ c) : ((pasteV l (a + o) m).drop a).take c = pasteV ((l.drop a).take c) o m := by
  apply List.ext_getElem?
  intro j
  have hl : ((l.drop a).take c).length = c := by simp; omega
  rw [pasteV_get (by rw [hl]; exact ho), List.getElem?_take]
  by_cases hj : j < c
  · rw [if_pos hj, List.getElem?_drop, pasteV_get (by omega), List.getElem?_take, if_pos hj, List.getElem?_drop]
    by_cases h1 : j < o
    · rw [if_pos (by omega), if_pos h1]
    · rw [if_neg (by omega), if_neg h1]
      by_cases h2 : j < o + m.length
      · rw [if_pos (by omega), if_pos h2]; congr 1; omega
      · rw [if_neg (by omega), if_neg h2]
  · rw [if_neg hj, if_neg (by omega), if_neg (by omega), List.getElem?_take, if_neg hj]

theorem pasteV_take {α : Type} {l m : List α} {k c : Nat} (h : k + m.length ≤ c) (hc : c ≤ l.length) : (pasteV l k m).take c = pasteV (l.take c) k m := by
  have := pasteV_in (l := l) (m := m) (a := 0) (c := c) (o := k) (by omega) h
  simpa using this

theorem setCells_heap {b : Nat} {e : TypeId} {fz : Nat × Nat} : ∀ (vs : List Value) (o : Nat) (arr : List Value) (w : World), w.heap[b]? = some (.cells arr.toArray e fz) → o + vs.length ≤ arr.length →
    (w.setCells b o vs).heap[b]? = some (.cells (pasteV arr o vs).toArray e fz) ∧ (∀ k, k ≠ b → (w.setCells b o vs).heap[k]? = w.heap[k]?) ∧ (w.setCells b o vs).heap.size = w.heap.size ∧
      (w.setCells b o vs).os = w.os ∧ (w.setCells b o vs).tape = w.tape ∧ (w.setCells b o vs).output = w.output
  | [], o, arr, w, h, _ => ⟨by simpa [World.setCells, pasteV] using h, fun _ _ => rfl, rfl, rfl, rfl, rfl⟩
  | v :: vs, o, arr, w, h, hl => by
    simp only [List.length_cons] at hl
    have h1 : (w.setCell ⟨b, o, none⟩ v).heap[b]? = some (.cells (arr.set o v).toArray e fz) := by
      simp [World.setCell, Array.getElem?_modify, h]
    obtain ⟨k1, k2, k3, k4, k5, k6⟩ := setCells_heap vs (o + 1) (arr.set o v) (w.setCell ⟨b, o, none⟩ v) h1 (by simp; omega)
    have hp : pasteV (arr.set o v) (o + 1) vs = pasteV arr o (v :: vs) := by
      apply List.ext_getElem?
      intro j
      rw [pasteV_get (by simp; omega), pasteV_get (by simp; omega), List.length_cons]
      by_cases h2 : j < o
      · rw [if_pos (by omega), if_pos h2, List.getElem?_set_ne (by omega)]
      · rw [if_neg h2]
        by_cases h3 : j = o
        · subst h3; rw [if_pos (by omega), if_pos (by omega), List.getElem?_set_self (by omega)]; simp
        · rw [if_neg (by omega)]
          by_cases h4 : j < o + 1 + vs.length
          · rw [if_pos h4, if_pos (by omega)]
            obtain ⟨d, hd⟩ : ∃ d, j - o = d + 1 := ⟨j - o - 1, by omega⟩
            rw [hd, show j - (o + 1) = d from by omega]; rfl
          · rw [if_neg h4, if_neg (by omega), List.getElem?_set_ne (by omega)]
    refine ⟨by rw [← hp]; exact k1, fun k hk => (k2 k hk).trans (Go.RowKit.Below.heap_setCell _ _ _ _ hk), k3.trans (by simp [World.setCell]), k4, k5, k6⟩

theorem storeVar_run {t : Nat} {ti : TI} (h : TiOk P t ti) {b o : Nat} {e : TypeId} {arr : List Value} {fz : Nat × Nat} {v : Value} (hh : w.heap[b]? = some (.cells arr.toArray e fz)) (hv : v.cells.toList.length = ti.n) (hl : o + ti.n ≤ arr.length)
    (h1 : ∀ u ∈ v.cells.toList, u.oneCell' = true) (hfz : ∀ k, k < arr.length → (decide (fz.1 ≤ k) && decide (k < fz.2)) = false := by simp) : (storeVar t ⟨b, o, none⟩ v).run P w = .ok () (w.setCells b o v.cells.toList) := by
  have hsz : v.cells.size = ti.n := by simpa using hv
  have hc : ∀ j, j < v.cells.toList.length → (w.cell? ⟨b, o + 0 + j, none⟩).isSome = true := fun j hj => by
    rw [cell_of_heap hh]
    rw [hv] at hj
    rw [List.getElem?_eq_getElem (by omega)]
    rfl
  have hf : ∀ j, j < v.cells.toList.length → w.frozen? ⟨b, o + 0 + j, none⟩ = false := fun j hj => by
    have h5 := hfz (o + 0 + j) (by omega)
    simpa [World.frozen?, hh] using h5
  have := run_storeCells_cells (P := P) b o v.cells.toList 0 w hc hf h1
  unfold storeVar
  rw [Sem.run_bind, size_run h]
  simp only [Result.andThen_ok, hsz, ne_eq, not_true_eq_false, if_false]
  simpa using this

theorem storeAt_run {t : Nat} {ti : TI} (h : TiOk P t ti) {b o : Nat} {e : TypeId} {arr : List Value} {fz : Nat × Nat} {v : Value} (hh : w.heap[b]? = some (.cells arr.toArray e fz)) (hv : v.cells.toList.length = ti.n) (hl : o + ti.n ≤ arr.length)
    (h1 : ∀ u ∈ v.cells.toList, u.oneCell' = true) (hfz : ∀ k, k < arr.length → (decide (fz.1 ≤ k) && decide (k < fz.2)) = false := by simp) : (Instr.storeAt t (.pointer (some ⟨b, o, none⟩)) v).run P w = .ok () (w.setCells b o v.cells.toList) := by
  simp [Instr.storeAt, Instr.sureAddr, Sem.run_bind, storeVar_run h hh hv hl h1 hfz]

/-- An operation without a value. -/
def OpUnit (X : Nat → Prop) (P : Program) (n : Nat) (A : Nat → Bool) (H : Nat → Entry) (μ : Nat → Value) (w : World) (e : Sem Unit) (r : Out) : Prop :=
  r.d = .one .un ∧ ∃ w' A' μ', e.run P w = .ok () w' ∧ Rep X A' (updH r.u H) μ' w' ∧ Ext X n A H μ w A' (updH r.u H) μ' w'

/-- An entry that is written in place, and some that die. -/
theorem rep_upd (hr : Rep X A H μ w) {id : Nat} {e : Entry} {L : List Nat} (hL : id ∉ L) (hd : H id ≠ .dead) (hsh : e.sh = (H id).sh) {b : Nat} (hb : (μ id).has b)
    (os : w'.os = w.os) (tape : w'.tape = w.tape) (output : w'.output = w.output) (size : w'.heap.size = w.heap.size) (hh : ∀ k, k ≠ b → w'.heap[k]? = w.heap[k]?)
    (he : (∀ k, Fr X w (killH L H) μ k → Fr X w' (updH ((id, e) :: deadL L) H) μ k ∧ w'.heap[k]? = w.heap[k]?) → ShLe (Sf A H) (Sf A (updH ((id, e) :: deadL L) H)) → ER (Fr X w' (updH ((id, e) :: deadL L) H) μ) w' (Sf A (updH ((id, e) :: deadL L) H)) μ id e) :
    Rep X A (updH ((id, e) :: deadL L) H) μ w' ∧ Ext X n A H μ w A (updH ((id, e) :: deadL L) H) μ w' := by
  have hlive : ∀ i, updH ((id, e) :: deadL L) H i ≠ .dead → i = id ∨ (i ≠ id ∧ i ∉ L ∧ H i ≠ .dead ∧ updH ((id, e) :: deadL L) H i = H i) := fun i h => live_new h
  have hlive2 : ∀ i, updH ((id, e) :: deadL L) H i ≠ .dead → H i ≠ .dead := fun i h => by
    rcases hlive i h with rfl | h
    · exact hd
    · exact h.2.2.1
  have hkill : ∀ i, updH ((id, e) :: deadL L) H i ≠ .dead → killH L H i ≠ .dead := fun i h => by
    have hi : i ∉ L ∧ H i ≠ .dead := by
      rcases hlive i h with rfl | h
      · exact ⟨hL, hd⟩
      · exact ⟨h.2.1, h.2.2.1⟩
    unfold killH
    cases hm : memb i L with
    | true => exact absurd (memb_iff.1 hm) hi.1
    | false => exact hi.2
  have hfb' : ∀ k, Fr (fun _ => False) w (killH L H) μ k → k ≠ b := fun k hk e => by
    refine hk.2 id ?_ (e ▸ hb)
    unfold killH
    cases hm : memb id L with
    | true => exact absurd (memb_iff.1 hm) hL
    | false => exact hd
  have hfb : ∀ k, Fr X w (killH L H) μ k → k ≠ b := fun k hk => hfb' k ⟨⟨hk.1.1, fun h => h⟩, hk.2⟩
  have hx : Ext X n A H μ w A (updH ((id, e) :: deadL L) H) μ w' := by
    refine ⟨os, tape, output, by omega, fun k hk => hh k (hfb' k (Fr.kill' hk)), fun i k h1 h2 => .inl ⟨i, hlive2 i h1, h2⟩, fun i => ?_, fun _ _ => rfl, fun _ h => h, fun _ h => .inl h⟩
    cases hAi : A i with
    | false => exact .inl (by simp [Sf, hAi])
    | true =>
      simp only [Sf, hAi, cond_true]
      by_cases hi : i = id
      · subst hi
        refine .inr (.inl ?_)
        rw [updH_new, Nat.beq_refl]
        exact hsh
      · rw [updH_new, beq_false hi]
        simp only [cond_false, killH]
        cases memb i L with
        | true => exact .inr (.inr rfl)
        | false => exact .inr (.inl rfl)
  refine ⟨hr.step hx (fun i hi => ?_) (fun i j k hij hi hj => hr.sep i j k hij (hlive2 i hi) (hlive2 j hj)) (fun i hi => hr.born i (hlive2 i hi)), hx⟩
  rcases hlive i hi with rfl | ⟨h1, h2, h3, h4⟩
  · right
    rw [updH_new, Nat.beq_refl]
    exact he (fun k hk => ⟨⟨⟨by rw [size]; exact hk.1.1, hk.1.2⟩, fun j hj => hk.2 j (hkill j hj)⟩, hh k (hfb k hk)⟩) hx.sh
  · exact .inl ⟨h4, rfl, fun k hk => hh k (fun e => hr.sep i id k h1 h3 hd hk (e ▸ hb))⟩

theorem CsR.one {F : Nat → Prop} {S : Nat → Sh} {cs : List C} {us : List Value} (h : CsR F w S μ cs us) : ∀ u ∈ us, u.oneCell' = true := by
  induction h with
  | nil => simp
  | cons c u cs us h _ ih => intro v hv; cases hv with
    | head => exact h.1
    | tail _ hv => exact ih v hv

theorem Rp.oneCells {F : Nat → Prop} {t : Ty} {x : t.D} {l : List Value} (h : Rp F w t x l) : ∀ u ∈ l, u.oneCell' = true := (unpack_ok (S := fun _ => .dead) (μ := fun _ => undef) h).one

theorem VR.cells {F : Nat → Prop} {t : Ty} {x : t.D} {u : Value} (h : VR F w t x u) : Rp F w t x u.cells.toList := by
  rcases h with ⟨ha, h⟩ | ⟨ha, l, rfl, h⟩
  · rw [cells_one (h.cell ha)]; exact h
  · exact h

theorem paste_eq (l : List C) (o : Nat) (m : List C) : paste l o m = pasteV l o m := rfl

theorem CsR.paste {F : Nat → Prop} {S : Nat → Sh} {cs ds : List C} {us vs : List Value} {o : Nat} (h : CsR F w S μ cs us) (k : CsR F w S μ ds vs) : CsR F w S μ (pasteV cs o ds) (pasteV us o vs) := by
  unfold pasteV
  rw [k.len]
  exact ((h.take _).app k).app (h.drop _)

/-- Elements, a part of one of which is written. -/
theorem Els.set {F : Nat → Prop} {t u : Ty} {xs : List t.D} {vs l' : List Value} {i off m : Nat} {y z : u.D} {s : u.D → t.D} {ag : Bool} (h : Els F w t xs vs) (hi : i < xs.length) (hl : vs.length = xs.length * t.n)
    (ho : LensOk (xs[i]) y s off m ag) (hz : Rp F w u z l') : Els F w t (xs.set i (s z)) (pasteV vs (i * t.n + off) l') := by
  obtain ⟨h1, h2, h3, h4, h5⟩ := ho
  have hll : l'.length = m := by rw [← h2]; exact hz.len
  have hin : i * t.n + t.n ≤ vs.length := by rw [hl, ← Nat.succ_mul]; exact Nat.mul_le_mul_right _ hi
  intro j hj
  simp only [List.length_set] at hj
  by_cases hij : i = j
  · subst hij
    rw [pasteV_in hin (by omega)]
    have := h5 F w _ (h i hi) z l' hz
    simp only [List.getElem_set_self]
    unfold pasteV
    rwa [hll]
  · rw [List.getElem_set_ne hij]
    rw [pasteV_apart (by omega) ?_]
    · exact h j hj
    · rcases Nat.lt_or_ge j i with h6 | h6
      · left
        have : (j + 1) * t.n ≤ i * t.n := Nat.mul_le_mul_right _ h6
        rw [Nat.succ_mul] at this
        omega
      · right
        have : (i + 1) * t.n ≤ j * t.n := Nat.mul_le_mul_right _ (by omega)
        rw [Nat.succ_mul] at this
        omega

theorem ownsRow_len {base e size m : Nat} {v : Value} {vs : List Value} (h : w.ownsRow base e size v m vs) : vs.length = m * size := h.1

theorem storeE_ok (hc : CxOk cx P) (hr : Rep X A H μ w) {t id : Nat} {ti : TI} {i : Int} {off : Nat} {y : Q} {u v : Value} (hti : cx.ti t = some ti) (hx : CR (Fr X w H μ) w (Sf A H) μ (.oa id i off) u) (hy : QR (Fr X w H μ) w (Sf A H) μ y v)
    (h : (storeE ti id i off y (H id)).Sel H r) : OpUnit X P n A H μ w (Instr.storeAt t u v) r := by
  have htk := hc _ _ hti
  cases hi : H id with
  | row re uty xs =>
    rw [hi] at h
    simp only [storeE] at h
    obtain ⟨_, hx⟩ := hx
    simp only [CR0, Sf, live_A hr hi (by simp), hi, Entry.sh, cond_true] at hx
    obtain ⟨h0, h1, b, c, hm, rfl⟩ := hx
    cases hl : lens uty (nth xs i uty.zero) off ti.n ti.ag with
    | none => rw [hl] at h; exact h.elim
    | some z =>
      obtain ⟨w', y', s⟩ := z
      rw [hl] at h
      have hlo := lens_ok hl
      obtain ⟨z, fz, h2, _, hz⟩ := pkQ_ok hr hy h
      cases hmf : memb id fz with
      | true => rw [hmf] at h2; exact h2.elim
      | false =>
        rw [hmf] at h2
        simp only [cond_false, Tree.Sel] at h2
        subst h2
        have hnf : id ∉ fz := fun hf => by rw [memb_iff.2 hf] at hmf; cases hmf
        have he := hr.ent id
        rw [hi] at he
        obtain ⟨hpos, vs, ho, hels, hone⟩ := he
        have hlt : i.toNat < xs.length := by omega
        rw [nth_get h0 h1] at hlo
        have hlo' := hlo
        obtain ⟨ha, hn, hle, _, _⟩ := hlo'
        have hzc := hz.cells
        have hzl := hzc.len
        rw [hn] at hzl
        have hvl := ho.1
        have hin : i.toNat * uty.n + uty.n ≤ vs.length := by rw [hvl, ← Nat.succ_mul]; exact Nat.mul_le_mul_right _ hlt
        rcases ho.2 with ⟨hv, hn0⟩ | ⟨g, cap, cur, hv, hb0, hg, hnc, hcm, hcs, htake⟩
        · omega
        · rw [hm] at hv
          simp only [Value.slice.injEq, Option.some.injEq, Addr.mk.injEq, and_true, true_and] at hv
          obtain ⟨rfl, rfl⟩ := hv
          have hg' : w.heap[b]? = some (.cells cur.toList.toArray (eT re) (eF re cur.size)) := by simpa using hg
          have hcl : vs.length ≤ cur.toList.length := by rw [← htake]; simp; omega
          have hst := storeAt_run (w := w) htk (b := b) (o := i.toNat * uty.n + off) (v := v) hg' hzl (by omega) hzc.oneCells (fun k hk => eF_free _ _ _ (by simpa using hk))
          obtain ⟨k1, k2, k3, k4, k5, k6⟩ := setCells_heap v.cells.toList (i.toNat * uty.n + off) cur.toList w hg' (by omega)
          have := rep_upd (n := n) (w' := w.setCells b (i.toNat * uty.n + off) v.cells.toList) hr (e := .row re uty (xs.set i.toNat (s z))) hnf (by rw [hi]; simp) (by simp [hi, Entry.sh]) (b := b) (by rw [hm]; rfl) k4 k5 k6 k3 k2
            (fun hF hS => by
              refine ⟨hpos, pasteV vs (i.toNat * uty.n + off) v.cells.toList, ⟨by rw [pasteV_len (by omega)]; simpa using hvl, .inr ⟨b, c, (pasteV cur.toList (i.toNat * uty.n + off) v.cells.toList).toArray, by rw [hm]; simp, Nat.zero_le _, by rw [k1]; simp only [List.size_toArray]; rw [pasteV_len (by omega)]; simp, by simpa using hnc, hcm, ?_, ?_⟩⟩, ?_, ?_⟩
              · simp only [List.size_toArray]; rw [pasteV_len (by omega)]; simpa using hcs
              · simp only [List.length_set]
                rw [pasteV_take (by omega) (by rw [← hvl]; exact hcl), htake]
              · refine Els.set (hels.mono (fun k hk => (hF k (Fr.kill' hk)).1) (fun k hk => (hF k (Fr.kill' hk)).2)) hlt hvl hlo (hzc.mono (fun k hk => (hF k hk).1) (fun k hk => (hF k hk).2))
              · intro x hx
                simp only [pasteV, List.mem_append] at hx
                rcases hx with (hx | hx) | hx
                · exact hone x (List.mem_of_mem_take hx)
                · exact hzc.oneCells x hx
                · exact hone x (List.mem_of_mem_drop hx))
          exact ⟨rfl, _, A, μ, hst, this.1, this.2⟩
  | abox bt uty xs =>
    rw [hi] at h
    obtain ⟨⟨h0, h1⟩, h⟩ := h
    obtain ⟨_, hx⟩ := hx
    simp only [CR0, Sf, live_A hr hi (by simp), hi, Entry.sh, cond_true] at hx
    obtain ⟨_, b, hm, rfl⟩ := hx
    cases hl : lens uty (nth xs i uty.zero) off ti.n ti.ag with
    | none => rw [hl] at h; exact h.elim
    | some z =>
      obtain ⟨w', y', s⟩ := z
      rw [hl] at h
      have hlo := lens_ok hl
      obtain ⟨z, fz, h2, _, hz⟩ := pkQ_ok hr hy h
      cases hmf : memb id fz with
      | true => rw [hmf] at h2; exact h2.elim
      | false =>
        rw [hmf] at h2
        simp only [cond_false, Tree.Sel] at h2
        subst h2
        have hnf : id ∉ fz := fun hf => by rw [memb_iff.2 hf] at hmf; cases hmf
        have he := hr.ent id
        rw [hi] at he
        obtain ⟨hpos, b', arr, hm', hh, hvl, hels, hone⟩ := he
        rw [hm] at hm'
        cases hm'
        have hlt : i.toNat < xs.length := by omega
        rw [nth_get h0 h1] at hlo
        have hlo' := hlo
        obtain ⟨ha, hn, hle, _, _⟩ := hlo'
        have hzc := hz.cells
        have hzl := hzc.len
        rw [hn] at hzl
        have hin : i.toNat * uty.n + uty.n ≤ arr.length := by rw [hvl, ← Nat.succ_mul]; exact Nat.mul_le_mul_right _ hlt
        have hst := storeAt_run (w := w) htk (b := b) (o := i.toNat * uty.n + off) (v := v) hh hzl (by omega) hzc.oneCells
        obtain ⟨k1, k2, k3, k4, k5, k6⟩ := setCells_heap v.cells.toList (i.toNat * uty.n + off) arr w hh (by omega)
        have := rep_upd (n := n) (w' := w.setCells b (i.toNat * uty.n + off) v.cells.toList) hr (e := .abox bt uty (xs.set i.toNat (s z))) hnf (by rw [hi]; simp) (by simp [hi, Entry.sh]) (b := b) (by rw [hm]; rfl) k4 k5 k6 k3 k2
          (fun hF hS => by
            refine ⟨hpos, b, pasteV arr (i.toNat * uty.n + off) v.cells.toList, hm, k1, by rw [pasteV_len (by omega)]; simpa using hvl, ?_, ?_⟩
            · refine Els.set (hels.mono (fun k hk => (hF k (Fr.kill' hk)).1) (fun k hk => (hF k (Fr.kill' hk)).2)) hlt hvl hlo (hzc.mono (fun k hk => (hF k hk).1) (fun k hk => (hF k hk).2))
            · intro x hx
              simp only [pasteV, List.mem_append] at hx
              rcases hx with (hx | hx) | hx
              · exact hone x (List.mem_of_mem_take hx)
              · exact hzc.oneCells x hx
              · exact hone x (List.mem_of_mem_drop hx))
        exact ⟨rfl, _, A, μ, hst, this.1, this.2⟩
  | dead => rw [hi] at h; exact h.elim
  | refs _ _ _ => rw [hi] at h; exact h.elim
  | bun _ _ _ => rw [hi] at h; exact h.elim
  | box _ _ => rw [hi] at h; exact h.elim

theorem storeP_ok (hc : CxOk cx P) (hr : Rep X A H μ w) {t id : Nat} {ti : TI} {off : Nat} {y : Q} {u v : Value} (hti : cx.ti t = some ti) (hx : CR (Fr X w H μ) w (Sf A H) μ (.ptr id off) u) (hy : QR (Fr X w H μ) w (Sf A H) μ y v)
    (h : (storeP ti id off y (H id)).Sel H r) : OpUnit X P n A H μ w (Instr.storeAt t u v) r := by
  have htk := hc _ _ hti
  cases hi : H id with
  | box bt cs =>
    rw [hi] at h
    simp only [storeP] at h
    cases hb : (Nat.ble (off + ti.n) cs.length && Nat.beq y.cells.length ti.n && !Nat.beq ti.n 0) with
    | false => rw [hb] at h; exact h.elim
    | true =>
      rw [hb] at h
      simp only [cond_true, Tree.Sel] at h
      subst h
      simp only [Bool.and_eq_true] at hb
      have hle := Nat.le_of_ble_eq_true hb.1.1
      have hyl := Nat.eq_of_beq_eq_true hb.1.2
      have hyn : y ≠ .un := fun e => by
        rw [e] at hyl
        simp only [Q.cells, List.length_nil] at hyl
        have := hb.2
        rw [← hyl] at this
        cases this
      obtain ⟨b, hm, rfl, _⟩ := ptr_at hr hx (by rw [hi]; rfl)
      have he := hr.ent id
      rw [hi] at he
      obtain ⟨b', arr, hm', hh, hcs⟩ := he
      rw [hm] at hm'
      cases hm'
      have hyc := cells_ok hy hyn
      have hlen := hcs.len
      have hvl : v.cells.toList.length = ti.n := by rw [← hyc.len]; exact hyl
      have hst := storeAt_run (w := w) htk (b := b) (o := off) (v := v) hh hvl (by omega) hyc.one
      obtain ⟨k1, k2, k3, k4, k5, k6⟩ := setCells_heap v.cells.toList off arr w hh (by omega)
      have := rep_upd (n := n) (w' := w.setCells b off v.cells.toList) hr (e := .box bt (paste cs off y.cells)) (L := []) (by simp) (by rw [hi]; simp) (by simp [hi, Entry.sh]) (b := b) (by rw [hm]; rfl) k4 k5 k6 k3 k2
        (fun hF hS => by
          refine ⟨b, pasteV arr off v.cells.toList, hm, k1, ?_⟩
          rw [paste_eq]
          exact (hcs.paste hyc).mono (fun k hk => (hF k hk).1) (fun k hk => (hF k hk).2) hS (fun _ => .inr (.inr rfl)))
      exact ⟨rfl, _, A, μ, hst, this.1, this.2⟩
  | abox bt e xs =>
    rw [hi] at h
    simp only [storeP] at h
    cases hb : (Nat.beq off 0 && ti.ag) with
    | false => rw [hb] at h; exact h.elim
    | true =>
      rw [hb] at h
      simp only [cond_true] at h
      simp only [Bool.and_eq_true] at hb
      have ho := Nat.eq_of_beq_eq_true hb.1
      subst ho
      split at h
      · rename_i k e' hty
        obtain ⟨hk, h⟩ := h
        unfold Ln at hk
        · skip
          obtain ⟨ys, fz, h2, _, hz⟩ := pkQ_ok hr hy h
          cases hcst : cast? (.arr k e') (.arr k e) ys with
          | none => rw [hcst] at h2; exact h2.elim
          | some zs =>
            rw [hcst] at h2
            simp only at h2
            cases hmf : memb id fz with
            | true => rw [hmf] at h2; exact h2.elim
            | false =>
              rw [hmf] at h2
              simp only [cond_false, Tree.Sel] at h2
              subst h2
              have hnf : id ∉ fz := fun hf => by rw [memb_iff.2 hf] at hmf; cases hmf
              have hzc := cast_ok hcst hz.cells
              obtain ⟨hz1, hz2, hz3⟩ := hzc.arr_inv
              obtain ⟨b, hm, rfl, _⟩ := ptr_at hr hx (by rw [hi]; rfl)
              have he := hr.ent id
              rw [hi] at he
              obtain ⟨hpos, b', arr, hm', hh, hlen, hels, hone⟩ := he
              rw [hm] at hm'
              cases hm'
              obtain ⟨i, z, d, _, _, _, _, _, _, _, _, _, ht⟩ := htk.info
              obtain ⟨hun, hua, _⟩ := ht _ hty
              have hn1 : v.cells.toList.length = ti.n := by
                have := hz.cells.len
                rw [this, hun]
              have hn2 : ti.n = arr.length := by rw [← hn1, hz2, hlen, hk]
              have hst := storeAt_run (w := w) htk (b := b) (o := 0) (v := v) hh hn1 (by omega) hzc.oneCells
              obtain ⟨k1, k2, k3, k4, k5, k6⟩ := setCells_heap v.cells.toList 0 arr w hh (by omega)
              have hp : pasteV arr 0 v.cells.toList = v.cells.toList := by
                unfold pasteV
                rw [List.take_zero, List.nil_append, List.drop_of_length_le (by omega), List.append_nil]
              rw [hp] at k1
              have := rep_upd (n := n) (w' := w.setCells b 0 v.cells.toList) hr (e := .abox bt e zs) hnf (by rw [hi]; simp) (by simp [hi, Entry.sh]) (b := b) (by rw [hm]; rfl) k4 k5 k6 k3 k2
                (fun hF hS => ⟨hpos, b, v.cells.toList, hm, k1, by rw [hz2, hz1], fun j hj => (hz3 j hj).mono (fun k hk => (hF k hk).1) (fun k hk => (hF k hk).2), hzc.oneCells⟩)
              exact ⟨rfl, _, A, μ, hst, this.1, this.2⟩
      · exact h.elim
  | dead => rw [hi] at h; exact h.elim
  | refs _ _ _ => rw [hi] at h; exact h.elim
  | bun _ _ _ => rw [hi] at h; exact h.elim
  | row _ _ _ => rw [hi] at h; exact h.elim

/-! ### Rows of rows -/

theorem updH2 (id m : Nat) (e1 e2 : Entry) (L : List Nat) (k : Nat) : updH ((id, e1) :: (m, e2) :: deadL L) H k = bif Nat.beq k id then e1 else bif Nat.beq k m then e2 else killH L H k := by
  simp only [updH, find, find_dead, killH]

theorem live2 {id m : Nat} {e1 e2 : Entry} {L : List Nat} {k : Nat} (h : updH ((id, e1) :: (m, e2) :: deadL L) H k ≠ .dead) :
    k = id ∨ (k ≠ id ∧ k = m) ∨ (k ≠ id ∧ k ≠ m ∧ k ∉ L ∧ H k ≠ .dead ∧ updH ((id, e1) :: (m, e2) :: deadL L) H k = H k) := by
  rw [updH2] at h
  by_cases h1 : k = id
  · exact .inl h1
  rw [beq_false h1, cond_false] at h
  by_cases h2 : k = m
  · exact .inr (.inl ⟨h1, h2⟩)
  rw [beq_false h2, cond_false] at h
  obtain ⟨k1, k2, k3⟩ := killH_live h
  refine .inr (.inr ⟨h1, h2, k1, k2, ?_⟩)
  rw [updH2, beq_false h1, cond_false, beq_false h2, cond_false]
  exact k3

theorem set_get? {α : Type} {l : List α} {i j : Nat} {x y : α} (h : (l.set i x)[j]? = some y) : (i = j ∧ j < l.length ∧ y = x) ∨ (i ≠ j ∧ l[j]? = some y) := by
  rw [List.getElem?_set] at h
  split at h
  · rename_i e
    subst e
    split at h
    · exact .inl ⟨rfl, by assumption, (Option.some.inj h).symm⟩
    · cases h
  · exact .inr ⟨by assumption, h⟩

theorem lens_set {α : Type} {xss : List (List α)} {i : Nat} {xs : List α} (h : i < xss.length) (hl : xs.length = xss[i].length) : (xss.set i xs).map List.length = xss.map List.length := by
  apply List.ext_getElem?
  intro j
  rw [List.getElem?_map, List.getElem?_map, List.getElem?_set]
  by_cases e : i = j
  · subst e
    simp [h, hl]
  · simp [e]

theorem nth_eq {α : Type} {l : List α} {i : Int} {d : α} (h0 : 0 ≤ i) (h1 : i.toNat < l.length) : nth l i d = l[i.toNat] := by
  have := nth_get? (d := d) h0 h1
  rw [List.getElem?_eq_getElem h1] at this
  exact (Option.some.inj this).symm

theorem storeB_ok (hc : CxOk cx P) (hr : Rep X A H μ w) {t id : Nat} {ti : TI} {i j : Int} {off : Nat} {y : Q} {u v : Value} (hti : cx.ti t = some ti) (hx : CR (Fr X w H μ) w (Sf A H) μ (.oai id i j off) u) (hy : QR (Fr X w H μ) w (Sf A H) μ y v)
    (h : (storeB ti id i j off y (H id)).Sel H r) : OpUnit X P n A H μ w (Instr.storeAt t u v) r := by
  have htk := hc _ _ hti
  cases hi : H id with
  | bun re uty xss =>
    rw [hi] at h
    simp only [storeB] at h
    obtain ⟨_, hx⟩ := hx
    obtain ⟨hpos, h0, h1, h2, h3, hs, b, m, c, vs, hm, hl2, e2, rfl, ho, hels, hone⟩ := oai_at hr hi hx
    cases hl : lens uty (nth (nth xss i []) j uty.zero) off ti.n ti.ag with
    | none => rw [hl] at h; exact h.elim
    | some z =>
      obtain ⟨w', y', s⟩ := z
      rw [hl] at h
      have hlo := lens_ok hl
      obtain ⟨z, fz, h4, _, hz⟩ := pkQ_ok hr hy h
      cases hmf : memb id fz with
      | true => rw [hmf] at h4; exact h4.elim
      | false =>
        rw [hmf] at h4
        simp only [cond_false, Tree.Sel] at h4
        subst h4
        have hnf : id ∉ fz := fun hf => by rw [memb_iff.2 hf] at hmf; cases hmf
        have hlt : j.toNat < (nth xss i []).length := by omega
        rw [nth_get h2 h3] at hlo
        have hlo' := hlo
        obtain ⟨ha, hn, hle, _, _⟩ := hlo'
        have hzc := hz.cells
        have hzl := hzc.len
        rw [hn] at hzl
        have hvl := ho.1
        have hin : j.toNat * uty.n + uty.n ≤ vs.length := by rw [hvl, ← Nat.succ_mul]; exact Nat.mul_le_mul_right _ hlt
        have hrows := hr.ent id
        rw [hi] at hrows
        obtain ⟨_, hs', hm', _, hrow, hdis⟩ := hrows
        rw [hm] at hm'
        have : hs = hs' := by simpa using hm'
        subst this
        generalize hxs : nth xss i [] = xs at *
        rcases ho.2 with ⟨hv, hn0⟩ | ⟨g, cap, cur, hv, hb0, hg, hnc, hcm, hcs, htake⟩
        · cases hv
        · simp only [Value.slice.injEq, Option.some.injEq, Addr.mk.injEq, and_true, true_and] at hv
          obtain ⟨rfl, rfl, rfl⟩ := hv
          have hg' : w.heap[b]? = some (.cells cur.toList.toArray re (0, 0)) := by simpa using hg
          have hcl : vs.length ≤ cur.toList.length := by rw [← htake]; simp; omega
          have hst := storeAt_run (w := w) htk (b := b) (o := j.toNat * uty.n + off) (v := v) hg' hzl (by omega) hzc.oneCells
          obtain ⟨k1, k2, k3, k4, k5, k6⟩ := setCells_heap v.cells.toList (j.toNat * uty.n + off) cur.toList w hg' (by omega)
          have hlens : (xss.set i.toNat (xs.set j.toNat (s z))).map List.length = xss.map List.length := lens_set h1 (by rw [List.length_set, ← hxs, nth_eq h0 h1])
          have := rep_upd (n := n) (w' := w.setCells b (j.toNat * uty.n + off) v.cells.toList) hr (e := .bun re uty (xss.set i.toNat (xs.set j.toNat (s z)))) hnf (by rw [hi]; simp) (by simp only [hi, Entry.sh, hlens]) (b := b)
            (by rw [hm]; exact ⟨.slice (some ⟨b, 0, none⟩) _ c, by simpa using List.mem_of_getElem? e2, (rfl : b = b)⟩) k4 k5 k6 k3 k2
            (fun hF hS => by
              refine ⟨hpos, hs, hm, by simp [hl2], fun j' h' xs' p1 p2 => ?_, hdis⟩
              rcases set_get? p2 with ⟨q1, q2, q3⟩ | ⟨q1, q2⟩
              · subst q1; subst q3
                rw [e2] at p1
                have := Option.some.inj p1
                subst this
                refine ⟨pasteV vs (j.toNat * uty.n + off) v.cells.toList, ⟨by rw [pasteV_len (by omega)]; simpa using hvl, .inr ⟨b, c, (pasteV cur.toList (j.toNat * uty.n + off) v.cells.toList).toArray, by simp, Nat.zero_le _, k1, by simpa using hnc, hcm, ?_, ?_⟩⟩, ?_, ?_⟩
                · simp only [List.size_toArray]; rw [pasteV_len (by omega)]; simpa using hcs
                · simp only [List.length_set]
                  rw [pasteV_take (by omega) (by rw [← hvl]; exact hcl), htake]
                · refine Els.set (hels.mono (fun k hk => (hF k (Fr.kill' hk)).1) (fun k hk => (hF k (Fr.kill' hk)).2)) hlt hvl hlo (hzc.mono (fun k hk => (hF k hk).1) (fun k hk => (hF k hk).2))
                · intro x hx
                  simp only [pasteV, List.mem_append] at hx
                  rcases hx with (hx | hx) | hx
                  · exact hone x (List.mem_of_mem_take hx)
                  · exact hzc.oneCells x hx
                  · exact hone x (List.mem_of_mem_drop hx)
              · obtain ⟨vs', r1, r2, r3⟩ := hrow j' h' xs' p1 q2
                refine ⟨vs', ownsRow_same r1 (fun k hk => k2 k fun e => ?_), r2.mono (fun k hk => (hF k (Fr.kill' hk)).1) (fun k hk => (hF k (Fr.kill' hk)).2), r3⟩
                subst e
                have h1' : h'.has1 k := by
                  have := (ownsRow_has r1 k).1 hk
                  rcases r1.2 with ⟨rfl, _⟩ | ⟨g, cap, cur, rfl, _⟩
                  · simp [Value.ownBlock] at this
                  · simpa [Value.ownBlock, Value.has1] using this
                exact hdis _ _ _ _ k q1 e2 p1 rfl h1')
          exact ⟨rfl, _, A, μ, hst, this.1, this.2⟩
  | dead => rw [hi] at h; exact h.elim
  | refs _ _ _ => rw [hi] at h; exact h.elim
  | row _ _ _ => rw [hi] at h; exact h.elim
  | box _ _ => rw [hi] at h; exact h.elim
  | abox _ _ _ => rw [hi] at h; exact h.elim

theorem storeR_ok (hc : CxOk cx P) (hr : Rep X A H μ w) (hAn : A n = false) {t id : Nat} {ti : TI} {i : Int} {off : Nat} {y : Q} {u v : Value} (hti : cx.ti t = some ti) (hx : CR (Fr X w H μ) w (Sf A H) μ (.oa id i off) u) (hy : QR (Fr X w H μ) w (Sf A H) μ y v)
    (h : (storeR ti n id i off y (H id)).Sel H r) : OpUnit X P n A H μ w (Instr.storeAt t u v) r := by
  have htk := hc _ _ hti
  unfold storeR at h
  split at h
  · rename_i e' id2 k rr hi
    cases hb : (Nat.beq off 0 && !ti.ag) with
    | false => rw [hb] at h; exact h.elim
    | true =>
    rw [hb] at h
    simp only [Bool.and_eq_true, Bool.not_eq_true'] at hb
    have ho := Nat.eq_of_beq_eq_true hb.1
    subst ho
    simp only [cond_true, Tree.Sel] at h
    cases hir : H rr with
    | row re uty ys =>
      rw [hir] at h
      simp only [Tree.Sel] at h
      cases hi2 : H id2 with
      | bun be uty' xss =>
        rw [hi2] at h
        simp only at h
        cases hbe : (Nat.beq re be && Nat.blt re eM) with
        | false => rw [hbe] at h; exact h.elim
        | true =>
          rw [hbe, cond_true] at h
          simp only [Bool.and_eq_true] at hbe
          obtain ⟨hbe, hlt0⟩ := hbe
          have := Nat.eq_of_beq_eq_true hbe
          subst this
          split at h
          · rename_i zs hzs
            obtain ⟨hu, hzz⟩ := sl_sh hzs
            subst hu
            cases hzz
            simp only [Tree.Sel] at h
            subst h
            obtain ⟨_, hx⟩ := hx
            simp only [CR0, Sf, live_A hr hi (by simp), hi, Entry.sh, cond_true] at hx
            obtain ⟨h0, h1, b, c, hm, rfl⟩ := hx
            obtain ⟨rfl, Aa, cr, hmr, hc1, hc2⟩ := os_of hr hir hy
            obtain ⟨hne2, hs, hown, hone, hbun⟩ := refs_rows hr hi
            obtain ⟨hll, hmt⟩ := hbun _ _ (bun_A hr hi2)
            rw [List.length_map] at hll
            have hrows := hr.ent id2
            rw [hi2] at hrows
            obtain ⟨hpos, hs', hm', hl2, hrow, hdis⟩ := hrows
            rw [hmt] at hm'
            have : hs = hs' := by simpa using hm'
            subst this
            have hrow' := hr.ent rr
            rw [hir] at hrow'
            obtain ⟨_, vr, hor, helr, honer⟩ := hrow'
            have hor := rowAt_own hlt0 hor
            have hAid := hr.born id (by rw [hi]; simp)
            have hAr := hr.born rr (by rw [hir]; simp)
            have hA2 := hr.born id2 (by rw [hi2]; simp)
            have nid : n ≠ id := fun e => by rw [← e, hAn] at hAid; cases hAid
            have nr : n ≠ rr := fun e => by rw [← e, hAn] at hAr; cases hAr
            have n2 : n ≠ id2 := fun e => by rw [← e, hAn] at hA2; cases hA2
            have idr : id ≠ rr := fun e => by rw [e, hir] at hi; cases hi
            have id2' : id ≠ id2 := fun e => by rw [e, hi2] at hi; cases hi
            have r2' : rr ≠ id2 := fun e => by rw [e, hi2] at hir; cases hir
            have hone1 : (μ rr).oneCell' = true := by rw [hmr]; rfl
            have hilt : i.toNat < hs.length := by omega
            have hbid : (μ id).has b := by rw [hm]; rfl
            have hvc : (μ rr).cells.toList = [μ rr] := by rw [cells_one hone1]
            rcases hown.2 with ⟨hv, hn0⟩ | ⟨g, cap, cur, hv, hb0, hg, hnc, hcm, hcs, htake⟩
            · omega
            · rw [hm] at hv
              simp only [Value.slice.injEq, Option.some.injEq, Addr.mk.injEq, and_true, true_and] at hv
              obtain ⟨rfl, rfl⟩ := hv
              have hg' : w.heap[b]? = some (.cells cur.toList.toArray e' (0, 0)) := by simpa using hg
              have hcsl : cur.toList.length = c * 1 := by simpa using hcs
              have hst := storeAt_run (w := w) htk (b := b) (o := i.toNat * 1 + 0) (v := μ rr) hg' (by rw [hvc, htk.one hb.2]; rfl) (by rw [htk.one hb.2]; omega) (by rw [hvc]; simpa using hone1)
              obtain ⟨k1, k2, k3, k4, k5, k6⟩ := setCells_heap (μ rr).cells.toList (i.toNat * 1 + 0) cur.toList w hg' (by rw [hvc]; simp only [List.length_singleton]; omega)
              rw [hvc] at hst k1 k2 k3 k4 k5 k6
              generalize hw' : w.setCells b (i.toNat * 1 + 0) [μ rr] = w' at *
              have notb : ∀ j bb, j ≠ id → H j ≠ .dead → (μ j).has bb → bb ≠ b := fun j bb hj hd hb' e => hr.sep j id bb hj hd (by rw [hi]; simp) hb' (e ▸ hbid)
              have oldm : ∀ (q : Nat) (hq : Value) (bb : Nat), (hs.set i.toNat (μ rr))[q]? = some hq → hq.has1 bb → (∃ j, (j = rr ∨ j = id2) ∧ (μ j).has bb) := fun q hq bb hq1 hq2 => by
                rcases set_get? hq1 with ⟨p1, p2, p3⟩ | ⟨p1, p2⟩
                · refine ⟨rr, .inl rfl, ?_⟩
                  rw [p3] at hq2
                  rw [hmr] at hq2 ⊢
                  exact hq2
                · refine ⟨id2, .inr rfl, ?_⟩
                  rw [hmt]
                  exact ⟨hq, by simpa using List.mem_of_getElem? p2, hq2⟩
              have tupm : ∀ bb, (Value.tuple (hs.set i.toNat (μ rr)).toArray).has bb → ∃ j, (j = rr ∨ j = id2) ∧ (μ j).has bb := fun bb hbb => by
                obtain ⟨q, hq1, hq2⟩ := hbb
                obtain ⟨p, hp, rfl⟩ := List.getElem_of_mem hq1
                simp only [List.size_toArray] at hp
                exact oldm p _ bb (List.getElem?_eq_getElem (by simpa using hp)) (by simpa using hq2)
              have lv : ∀ j, (j = rr ∨ j = id2) → H j ≠ .dead ∧ j ≠ id := fun j hj => by
                rcases hj with rfl | rfl
                · exact ⟨by rw [hir]; simp, fun e => idr e.symm⟩
                · exact ⟨by rw [hi2]; simp, fun e => id2' e.symm⟩
              have hxx : Ext X n A H μ w (bornA A n) (updH ((id, .refs e' n k) :: (n, .bun re uty (xss.set i.toNat ys)) :: deadL [id2, rr]) H) (setM μ n (.tuple (hs.set i.toNat (μ rr)).toArray)) w' := by
                refine ⟨k4, k5, k6, by omega, fun bb hbb => k2 bb fun e => ?_, fun q bb hq1 hq2 => ?_, fun q => ?_, fun q hq => setM_ne (fun e => by rw [e, hAn] at hq; cases hq), fun q hq => by simp [bornA, hq], fun q hq => ?_⟩
                · exact hbb.2 id (by rw [hi]; simp) (e ▸ hbid)
                · rcases live2 hq1 with rfl | ⟨_, rfl⟩ | ⟨_, q3, _, q5, _⟩
                  · rw [setM_ne nid.symm] at hq2
                    exact .inl ⟨q, by rw [hi]; simp, hq2⟩
                  · rw [setM_eq] at hq2
                    obtain ⟨j, hj, hj2⟩ := tupm bb hq2
                    exact .inl ⟨j, (lv j hj).1, hj2⟩
                  · rw [setM_ne q3] at hq2
                    exact .inl ⟨q, q5, hq2⟩
                · cases hAq : A q with
                  | false => exact .inl (by simp [Sf, hAq])
                  | true =>
                    have hqn : q ≠ n := fun e => by rw [e, hAn] at hAq; cases hAq
                    simp only [Sf, hAq, bornA, Bool.true_or, cond_true, updH2]
                    by_cases hqi : q = id
                    · subst hqi
                      rw [Nat.beq_refl, cond_true, hi]
                      exact .inr (.inl rfl)
                    · rw [beq_false hqi, cond_false, beq_false hqn, cond_false]
                      unfold killH
                      cases memb q [id2, rr] with
                      | true => exact .inr (.inr rfl)
                      | false => exact .inr (.inl rfl)
                · simp only [bornA, Bool.or_eq_true] at hq
                  rcases hq with hq | hq
                  · exact .inl hq
                  · rw [Nat.eq_of_beq_eq_true hq]; exact .inr ⟨Nat.le_refl _, by simp [stride]⟩
              have hSn : Sf (bornA A n) (updH ((id, .refs e' n k) :: (n, .bun re uty (xss.set i.toNat ys)) :: deadL [id2, rr]) H) n = .bun uty ((xss.set i.toNat ys).map List.length) := by
                simp only [Sf, bornA, Nat.beq_refl, Bool.or_true, cond_true, updH2]
                rw [beq_false nid, cond_false]
                rfl
              have frm : ∀ bb, Fr X w H μ bb → Fr X w' (updH ((id, .refs e' n k) :: (n, .bun re uty (xss.set i.toNat ys)) :: deadL [id2, rr]) H) (setM μ n (.tuple (hs.set i.toNat (μ rr)).toArray)) bb := fun bb hbb => hxx.fr hbb
              have heapm : ∀ bb, Fr X w H μ bb → w'.heap[bb]? = w.heap[bb]? := fun bb hbb => hxx.blk bb hbb
              have rowone : ∀ {bb : Nat} {hq : Value} {vq : List Value} {m : Nat}, w.ownsRow 0 re uty.n hq m vq → hq.has bb → hq.has1 bb := fun {bb hq vq m} r1 hk => by
                have := (ownsRow_has r1 bb).1 hk
                rcases r1.2 with ⟨rfl, _⟩ | ⟨g, cap, cur, rfl, _⟩
                · simp [Value.ownBlock] at this
                · simpa [Value.ownBlock, Value.has1] using this
              refine ⟨rfl, w', bornA A n, setM μ n (.tuple (hs.set i.toNat (μ rr)).toArray), hst, hr.step hxx (fun q hq => ?_) (fun p q bb hpq hp hq hbp => ?_) (fun q hq => ?_), hxx⟩
              · rcases live2 hq with rfl | ⟨q1, rfl⟩ | ⟨q1, q2, q3, q4, q5⟩
                · right
                  rw [updH2, Nat.beq_refl, cond_true]
                  refine ⟨by rw [hSn]; simp, hs.set i.toNat (μ rr), ?_, fun x hx => ?_, fun t' l' he => ?_⟩
                  · rw [setM_ne nid.symm]
                    refine ⟨by rw [List.length_set]; exact hown.1, .inr ⟨b, c, (pasteV cur.toList (i.toNat * 1 + 0) [μ rr]).toArray, hm, Nat.zero_le _, k1, hnc, hcm, ?_, ?_⟩⟩
                    · simp only [List.size_toArray]; rw [pasteV_len (by simp only [List.length_singleton]; omega)]; exact hcsl
                    · rw [pasteV_take (by simp only [List.length_singleton]; omega) (by omega), htake]
                      apply List.ext_getElem?
                      intro p
                      simp only [Nat.mul_one, Nat.add_zero, pasteV, List.length_singleton]
                      rw [List.getElem?_set]
                      by_cases hp : i.toNat = p
                      · subst hp
                        rw [if_pos rfl, if_pos hilt, List.append_assoc, List.getElem?_append_right (by simp; omega)]
                        simp [List.length_take, Nat.min_eq_left (Nat.le_of_lt hilt)]
                      · rw [if_neg hp]
                        rcases Nat.lt_or_ge p i.toNat with h7 | h7
                        · rw [List.append_assoc, List.getElem?_append_left (by simp; omega), List.getElem?_take, if_pos h7]
                        · rw [List.getElem?_append_right (by simp; omega)]
                          simp only [List.length_append, List.length_take, List.length_singleton, Nat.min_eq_left (Nat.le_of_lt hilt)]
                          rw [List.getElem?_drop]
                          congr 1
                          omega
                  · rcases List.mem_or_eq_of_mem_set hx with hx | hx
                    · exact hone x hx
                    · rw [hx]; exact hone1
                  · rw [hSn] at he
                    cases he
                    exact ⟨by simp; omega, setM_eq⟩
                · right
                  rw [updH2, beq_false q1, cond_false, Nat.beq_refl, cond_true]
                  refine ⟨hpos, hs.set i.toNat (μ rr), setM_eq, by simp [hl2], fun j h' xs' p1 p2 => ?_, fun p q h1' h2' bb hpq hp1 hq1 hb1 hb2 => ?_⟩
                  · rcases set_get? p1 with ⟨a1, a2, a3⟩ | ⟨a1, a2⟩
                    · subst a1; subst a3
                      rcases set_get? p2 with ⟨_, _, c3⟩ | ⟨c1, _⟩
                      · subst c3
                        exact ⟨vr, ownsRow_same hor (fun bb hbb => k2 bb (notb rr bb idr.symm (by rw [hir]; simp) hbb)), helr.mono frm heapm, honer⟩
                      · exact absurd rfl c1
                    · rcases set_get? p2 with ⟨c1, _, _⟩ | ⟨_, c2⟩
                      · exact absurd c1 a1
                      · obtain ⟨vs', r1, r2, r3⟩ := hrow j h' xs' a2 c2
                        refine ⟨vs', ownsRow_same r1 (fun bb hbb => k2 bb (notb id2 bb id2'.symm (by rw [hi2]; simp) ?_)), r2.mono frm heapm, r3⟩
                        rw [hmt]
                        exact ⟨h', by simpa using List.mem_of_getElem? a2, rowone r1 hbb⟩
                  · have inold : ∀ {q : Nat} {hq : Value}, hs[q]? = some hq → hq.has1 bb → (μ id2).has bb := fun {q hq} h1 h2 => by
                      rw [hmt]; exact ⟨hq, by simpa using List.mem_of_getElem? h1, h2⟩
                    have inr : ∀ {hq : Value}, hq = μ rr → hq.has1 bb → (μ rr).has bb := fun {hq} h1 h2 => by
                      rw [h1, hmr] at h2; rw [hmr]; exact h2
                    rcases set_get? hp1 with ⟨a1, a2, a3⟩ | ⟨a1, a2⟩ <;> rcases set_get? hq1 with ⟨b1, b2, b3⟩ | ⟨b1, b2⟩
                    · exact hpq (a1.symm.trans b1)
                    · exact hr.sep rr id2 bb r2' (by rw [hir]; simp) (by rw [hi2]; simp) (inr a3 hb1) (inold b2 hb2)
                    · exact hr.sep rr id2 bb r2' (by rw [hir]; simp) (by rw [hi2]; simp) (inr b3 hb2) (inold a2 hb1)
                    · exact hdis p q h1' h2' bb hpq a2 b2 hb1 hb2
                · exact .inl ⟨q5, setM_ne q2, fun bb hbb => k2 bb (notb q bb q1 q4 hbb)⟩
              · intro hbq
                have own1 : ∀ p, updH ((id, .refs e' n k) :: (n, .bun re uty (xss.set i.toNat ys)) :: deadL [id2, rr]) H p ≠ .dead → (setM μ n (.tuple (hs.set i.toNat (μ rr)).toArray) p).has bb → ∃ j, H j ≠ .dead ∧ (μ j).has bb ∧ ((p = n ∧ (j = rr ∨ j = id2)) ∨ (p ≠ n ∧ j = p ∧ j ≠ rr ∧ j ≠ id2)) := fun p hp hb1 => by
                  rcases live2 hp with rfl | ⟨_, rfl⟩ | ⟨_, q3, q4, q5, _⟩
                  · rw [setM_ne nid.symm] at hb1
                    exact ⟨p, by rw [hi]; simp, hb1, .inr ⟨nid.symm, rfl, idr, id2'⟩⟩
                  · rw [setM_eq] at hb1
                    obtain ⟨j, hj, hj2⟩ := tupm bb hb1
                    exact ⟨j, (lv j hj).1, hj2, .inl ⟨rfl, hj⟩⟩
                  · rw [setM_ne q3] at hb1
                    exact ⟨p, q5, hb1, .inr ⟨q3, rfl, fun e => q4 (by rw [e]; simp), fun e => q4 (by rw [e]; simp)⟩⟩
                obtain ⟨j1, d1, o1, c1⟩ := own1 p hp hbp
                obtain ⟨j2, d2, o2, c2⟩ := own1 q hq hbq
                by_cases hj : j1 = j2
                · subst hj
                  rcases c1 with ⟨a1, a2⟩ | ⟨a1, a2, a3, a4⟩ <;> rcases c2 with ⟨b1, b2⟩ | ⟨b1, b2, b3, b4⟩
                  · exact hpq (a1.trans b1.symm)
                  · rcases a2 with e | e
                    · exact b3 e
                    · exact b4 e
                  · rcases b2 with e | e
                    · exact a3 e
                    · exact a4 e
                  · exact hpq (a2.symm.trans b2)
                · exact hr.sep j1 j2 bb hj d1 d2 o1 o2
              · rcases live2 hq with rfl | ⟨_, rfl⟩ | ⟨_, _, _, q5, _⟩
                · simp [bornA, hAid]
                · simp [bornA]
                · simp [bornA, hr.born q q5]
          · exact h.elim
      | dead => rw [hi2] at h; exact h.elim
      | refs _ _ _ => rw [hi2] at h; exact h.elim
      | row _ _ _ => rw [hi2] at h; exact h.elim
      | box _ _ => rw [hi2] at h; exact h.elim
      | abox _ _ _ => rw [hi2] at h; exact h.elim
    | dead => rw [hir] at h; exact h.elim
    | refs _ _ _ => rw [hir] at h; exact h.elim
    | bun _ _ _ => rw [hir] at h; exact h.elim
    | box _ _ => rw [hir] at h; exact h.elim
    | abox _ _ _ => rw [hir] at h; exact h.elim
  · exact h.elim

theorem store_ok (hc : CxOk cx P) (hr : Rep X A H μ w) (hAn : A n = false) {t : Nat} {x y : Q} {u v : Value} (hx : QR (Fr X w H μ) w (Sf A H) μ x u) (hy : QR (Fr X w H μ) w (Sf A H) μ y v) (h : (storeO cx n t x y).Sel H r) : OpUnit X P n A H μ w (Instr.storeAt t u v) r := by
  unfold storeO at h
  split at h
  · exact h.elim
  rename_i ti hti
  split at h
  · exact storeP_ok hc hr hti hx hy h
  · rename_i id i off
    simp only [Tree.Sel] at h
    cases hb : (H id).isRefs with
    | true => rw [hb] at h; exact storeR_ok hc hr hAn hti hx hy h
    | false => rw [hb] at h; exact storeE_ok hc hr hti hx hy h
  · exact storeB_ok hc hr hti hx hy h
  · exact h.elim
end Vi
