/- The abstract reading, on: operations, code, functions, loops, arguments, laws. Plain definitions and theorems. -/
import Derived.Test.YtmciagbogdlcoaaGreatDoorViTwo
import Derived.LoopN
import Derived.Orders
import Derived.Test.YtmciagbogdlcoaaGreatDoorViOne
import Derived.Laws.StructEq
import Derived.ChangeKeysEq
import Derived.ProofKit
set_option linter.unnecessarySimpa false
set_option linter.unusedVariables false
set_option linter.unusedSectionVars false
set_option linter.unusedSimpArgs false
set_option autoImplicit false
set_option linter.unusedSectionVars false
namespace Vi
open Go

variable {X : Nat → Prop} {n : Nat} {A : Nat → Bool} {H : Nat → Entry} {μ : Nat → Value} {w : World} {P : Program} {cx : Cx} {r : Out}

/-- A function that lays the own address of a box into its first cell. -/
def CpyOk (P : Program) (f T : Nat) : Prop := (∃ fn, P.funcs[f]? = some fn ∧ fn.body.isNone = false ∧ (fn.name == "runtime.NumGoroutine") = false) ∧
  ∀ (w : World) (b : Nat) (v0 v1 : Value), w.heap[b]? = some (.cells #[v0, v1] T (0, 0)) → (v0 = .pointer none ∨ v0 = .pointer (some ⟨b, 0, none⟩)) →
    Returns P f #[.pointer (some ⟨b, 0, none⟩)] w fun u w' => u = .tuple #[] ∧ (w' = w.setCell ⟨b, 0, none⟩ (.pointer (some ⟨b, 0, none⟩)) ∨ (w' = w ∧ v0 = .pointer (some ⟨b, 0, none⟩)))

/-- .. for boxes of some types. -/
def CpysOk (P : Program) (f : Nat) (l : List Nat) : Prop := (∃ fn, P.funcs[f]? = some fn ∧ fn.body.isNone = false ∧ (fn.name == "runtime.NumGoroutine") = false) ∧ ∀ T, memb T l = true → CpyOk P f T

/-- Types that are compared whole; types of bytes; functions that are known. -/
def EqOk (cx : Cx) (P : Program) : Prop := (∀ t ty, cx.eqt t = some ty → P.eqGuardType P.depth t = false ∧
  ∀ (F : Nat → Prop) (w : World) (a b : ty.D) (l m : List Value), Rp F w ty a l → Rp F w ty b m → (Op.equalIn (9999 + 1) t (.agg l.toArray) (.agg m.toArray)).run P w = .ok (eqD ty a b) w) ∧
  U8Ok cx P ∧ ∀ f T, cx.cpy f = some T → CpysOk P f T

theorem bin_agg (op : BinOp) (t : Nat) (X Y : Operand) (a b : Array Value) (h : P.eqGuardType P.depth t = false) :
    (do eqGuard op t X Y (.agg a) (.agg b); binOp op t (.agg a) (.agg b) : Sem Value).run P w = (binOp op t (.agg a) (.agg b)).run P w := by
  have : (eqGuard op t X Y (.agg a) (.agg b)).run P w = .ok () w := by
    cases op <;> first
      | rfl
      | (unfold eqGuard
         simp [Sem.run_bind, h])
  simp [Sem.run_bind, this]

theorem eqIn_bool (d : Nat) {t : TypeId} (hu : P.underlying t = some .bool) (a b : Bool) : (Op.equalIn (d + 1) t (.bool a) (.bool b)).run P w = .ok (eqB a b) w := by
  simp [Op.equalIn, run_underlying hu, eqB]

theorem bin_ok (hc : CxOk cx P) (he : EqOk cx P) (hr : Rep X A H μ w) {op : BinOp} {t : Nat} {M N : Operand} {x y : Q} {u v : Value} (hx : QR (Fr X w H μ) w (Sf A H) μ x u) (hy : QR (Fr X w H μ) w (Sf A H) μ y v)
    (h : (binO cx op t x y).Sel H r) : OpVal X P n A H μ w (do eqGuard op t M N u v; binOp op t u v : Sem Value) r := by
  unfold binO at h
  split at h
  · obtain ⟨rfl, h1⟩ := int_of hx
    obtain ⟨rfl, h2⟩ := int_of hy
    exact (shiftOp_ok hr (.inl rfl) h1 h).congr (bin_val _ _ _ _ _ _ (fun _ _ h => by cases h) (fun h => by cases h))
  · obtain ⟨rfl, h1⟩ := int_of hx
    obtain ⟨rfl, h2⟩ := int_of hy
    exact (shiftOp_ok hr (.inr rfl) h1 h).congr (bin_val _ _ _ _ _ _ (fun _ _ h => by cases h) (fun h => by cases h))
  · rename_i k a k' b _ _
    obtain ⟨rfl, h1⟩ := int_of hx
    obtain ⟨rfl, h2⟩ := int_of hy
    cases hk : kindEq k k' with
    | false => rw [hk] at h; exact h.elim
    | true =>
      rw [hk, cond_true] at h
      have := kindEq_sound hk
      subst this
      exact (intOp_ok hr h1 h2 h).congr (bin_val _ _ _ _ _ _ (fun _ _ h => by cases h) (fun h => by cases h))
  · obtain ⟨rfl, h1⟩ := str_of hx
    obtain ⟨rfl, h2⟩ := str_of hy
    exact (strOp_ok hr h).congr (bin_val _ _ _ _ _ _ (fun _ _ h => by cases h) (fun h => by cases h))
  · have := bool_of hx; subst this
    have := bool_of hy; subst this
    split at h
    · rename_i ht
      have hu := hc.tyBool ht
      refine OpVal.congr ?_ (bin_val _ _ _ _ _ _ (fun _ _ h => by cases h) (fun h => by cases h))
      refine eqOut_ok hr h ?_ ?_ <;> rintro rfl
      · exact binEql _ _ _ _ rfl (eqIn_bool _ hu _ _)
      · exact binNeq _ _ _ _ rfl (eqIn_bool _ hu _ _)
    · exact h.elim
  · obtain ⟨_, rfl⟩ := hx
    obtain ⟨_, rfl⟩ := hy
    exact (ptrNil_ok hc hr h).congr (bin_val _ _ _ _ _ _ (fun _ _ h => by cases h) (fun h => by cases h))
  · obtain ⟨_, rfl⟩ := hx
    exact (ptrEq_ok hc hr hy.2 h).1.congr (bin_val _ _ _ _ _ _ (fun _ _ h => by cases h) (fun h => by cases h))
  · obtain ⟨_, rfl⟩ := hy
    exact (ptrEq_ok hc hr hx.2 h).2.congr (bin_val _ _ _ _ _ _ (fun _ _ _ h => by cases h) (fun _ h => by cases h))
  · split at h
    · rename_i ty hty
      cases ha : ty.agg with
      | false => rw [ha] at h; exact h.elim
      | true =>
        rw [ha, cond_true] at h
        obtain ⟨a, fz, h1, _, ha1⟩ := pkQ_ok hr hx h
        obtain ⟨b, fz', h2, _, hb1⟩ := pkQ_ok hr hy h1
        rcases ha1 with ⟨hf, _⟩ | ⟨_, l, rfl, hl⟩
        · rw [ha] at hf; cases hf
        rcases hb1 with ⟨hf, _⟩ | ⟨_, m, rfl, hm⟩
        · rw [ha] at hf; cases hf
        obtain ⟨e1, e2⟩ := he.1 t ty hty
        have hl' : Rp (fun b => b < w.heap.size) w ty a l := hl.mono (fun b hb => hb.1.1) (fun _ _ => rfl)
        have hm' : Rp (fun b => b < w.heap.size) w ty b m := hm.mono (fun b hb => hb.1.1) (fun _ _ => rfl)
        have e3 := e2 _ w a b l m hl' hm'
        refine OpVal.congr ?_ (bin_agg _ _ _ _ _ _ e1)
        refine eqOut_ok hr h2 ?_ ?_ <;> rintro rfl
        · exact binEql _ _ _ _ rfl e3
        · exact binNeq _ _ _ _ rfl e3
    · exact h.elim

/-! ### Next -/

/-- What an operation must come to. -/
def StepR (X : Nat → Prop) (P : Program) (n : Nat) (A : Nat → Bool) (H : Nat → Entry) (μ : Nat → Value) (w : World) (e : Sem Next) (r : Out) : Prop :=
  (∃ v w', e.run P w = .ok (.value v) w' ∧ CallOk X n A H μ w r v w') ∨ (∃ w', e.run P w = .ok .skip w' ∧ CallOk X n A H μ w r undef w') ∨
    (∃ f us, e.run P w = .ok (.enter f us) w ∧ Returns P f us w (CallOk X n A H μ w r))

theorem StepR.val {e : Sem Value} (h : OpVal X P n A H μ w e r) : StepR X P n A H μ w (do pure (.value (← e))) r := by
  obtain ⟨v, w', A', μ', h1, h2, h3, h4⟩ := h
  exact .inl ⟨v, w', by rw [Sem.run_bind, h1]; rfl, A', μ', h2, h3, h4⟩

theorem StepR.unit {e : Sem Unit} (h : OpUnit X P n A H μ w e r) : StepR X P n A H μ w (do e; pure .skip) r := by
  obtain ⟨hd, w', A', μ', h1, h2, h4⟩ := h
  exact .inr (.inl ⟨w', by rw [Sem.run_bind, h1]; rfl, A', μ', h2, by rw [hd]; trivial, h4⟩)

theorem StepR.congr {e e' : Sem Next} (h : StepR X P n A H μ w e r) (he : e'.run P w = e.run P w) : StepR X P n A H μ w e' r := by
  unfold StepR at *
  rw [he]
  exact h

theorem StepR.here (hr : Rep X A H μ w) {e : Sem Next} {v : Value} {d : PV} (he : e.run P w = .ok (.value v) w) (hd : PR (Fr X w H μ) w (Sf A H) μ d v) : StepR X P n A H μ w e ⟨d, []⟩ :=
  .inl ⟨v, w, he, A, μ, hr, hd, Ext.refl _ _ _ _ _ _⟩

/-- The functions that are called answer as their contracts say. -/
def FsOk (cx : Cx) (P : Program) : Prop := ∀ f c, c ∈ cx.fs f → (∃ fn, P.funcs[f]? = some fn ∧ fn.body.isNone = false ∧ (fn.name == "runtime.NumGoroutine") = false) ∧
  ∀ H v r, (c.body v).Sel H r → SoundAt P f c v r cx.gl

theorem pickC_mem {qs : List Q} {c : Ctr} : ∀ {l : List Ctr}, pickC qs l = some c → c ∈ l
  | [], h => by cases h
  | d :: l, h => by
    unfold pickC at h
    cases hb : d.inp.slots.all (fun x => (qs.getD x.1 .un).fits x.2) with
    | true => rw [hb] at h; cases h; exact List.mem_cons_self ..
    | false => rw [hb] at h; exact List.mem_cons_of_mem _ (pickC_mem h)

theorem callFunc_run {f : Nat} {fn : Func} {us : Array Value} (h1 : P.funcs[f]? = some fn) (h2 : fn.body.isNone = false) (h3 : (fn.name == "runtime.NumGoroutine") = false) : (callFunc f us).run P w = .ok (.enter f us) w := by
  unfold callFunc
  have h2' : fn.body ≠ none := fun e => by rw [e] at h2; cases h2
  have h3' : fn.name ≠ "runtime.NumGoroutine" := fun e => by rw [e] at h3; cases h3
  simp [Sem.run_bind, h1, h2', h3']

theorem QsR.append {F : Nat → Prop} {S : Nat → Sh} {a b : List Q} {u v : List Value} (h : QsR F w S μ a u) (k : QsR F w S μ b v) : QsR F w S μ (a ++ b) (u ++ v) := by
  induction h with
  | nil => exact k
  | cons c u cs us h _ ih => exact .cons c u _ _ h ih

theorem PtrR.cell {S : Nat → Sh} {id off : Nat} {u : Value} (h : PtrR S μ id off u) (h1 : u.oneCell' = true) {F : Nat → Prop} : QR F w S μ (.ce (.ptr id off)) u := ⟨h1, h⟩

theorem mapQ_ok {S : Nat → Sh} {F : Nat → Prop} {q : Operand → Q} {a : Act} (hs : ∀ x : Operand, QR F w S μ (q x) (a.eval x)) : ∀ l : List Operand, QsR F w S μ (l.map fun x => q x) (l.map a.eval)
  | [] => .nil
  | x :: l => .cons _ _ _ _ (hs x) (mapQ_ok hs l)

theorem parts_ok {S : Nat → Sh} {F : Nat → Prop} {q : Operand → Q} {a : Act} (hs : ∀ x : Operand, QR F w S μ (q x) (a.eval x)) : ∀ l : List (Nat × Operand), PartsR F w S μ (l.map fun p => (p.1, q p.2)) (l.map fun p => (p.1, a.eval p.2))
  | [] => .nil
  | (i, x) :: l => .cons _ _ _ _ _ (hs x) (parts_ok hs l)

theorem ptrs_ok {S : Nat → Sh} {F : Nat → Prop} {q : Operand → Q} {a : Act} (hs : ∀ x : Operand, QR F w S μ (q x) (a.eval x)) : ∀ {l : List Operand} {ids : List Nat}, ptrIds (l.map fun x => q x) = some ids → PtrsR S μ ids (l.map a.eval)
  | [], ids, h => by cases h; exact .nil
  | x :: l, ids, h => by
    simp only [List.map_cons] at h
    unfold ptrIds at h
    split at h
    · rename_i he; cases he
    · rename_i id r he
      simp only [List.cons.injEq] at he
      obtain ⟨he1, rfl⟩ := he
      simp only [Option.map_eq_some_iff] at h
      obtain ⟨ids', h1, rfl⟩ := h
      have hx := hs x
      rw [he1] at hx
      exact .cons _ _ _ _ hx.1 hx.2 (ptrs_ok hs h1)
    · cases h

theorem ptrsQ {S : Nat → Sh} {F : Nat → Prop} : ∀ {ids : List Nat} {us : List Value}, PtrsR S μ ids us → QsR F w S μ (ids.map fun i => .ce (.ptr i 0)) us
  | [], us, h => by cases h; exact .nil
  | i :: ids, us, h => by
    cases h with
    | cons _ u _ us h1 h2 h3 => exact .cons _ _ _ _ ⟨h1, h2⟩ (ptrsQ h3)

theorem max_ok (hr : Rep X A H μ w) {ts : Array TypeId} {ty : TypeId} {k k' : IntKind} {a b : Int} (ha : k.min ≤ a ∧ a ≤ k.max) (hb : k'.min ≤ b ∧ b ≤ k'.max) (h : (bif kindEq k k' then outc (.v (.int k) (mx a b)) else .fail : Tree Out).Sel H r) :
    OpVal X P n A H μ w (Builtin.max_ ts ty #[.int k a, .int k' b]) r := by
  cases hk : kindEq k k' with
  | false => rw [hk] at h; exact h.elim
  | true =>
    rw [hk, cond_true] at h
    have := kindEq_sound hk
    subst this
    simp only [outc, Tree.Sel] at h
    subst h
    refine .pure hr (v := .int k (mx a b)) ?_ (pr_int (by unfold mx; omega))
    have : (if b > a then b else a) = mx a b := by unfold mx; split <;> omega
    simp [Builtin.max_, Builtin.max2, this]

theorem min_ok (hr : Rep X A H μ w) {ts : Array TypeId} {ty : TypeId} {k k' : IntKind} {a b : Int} (ha : k.min ≤ a ∧ a ≤ k.max) (hb : k'.min ≤ b ∧ b ≤ k'.max) (h : (bif kindEq k k' then outc (.v (.int k) (mn a b)) else .fail : Tree Out).Sel H r) :
    OpVal X P n A H μ w (Builtin.min_ ts ty #[.int k a, .int k' b]) r := by
  cases hk : kindEq k k' with
  | false => rw [hk] at h; exact h.elim
  | true =>
    rw [hk, cond_true] at h
    have := kindEq_sound hk
    subst this
    simp only [outc, Tree.Sel] at h
    subst h
    refine .pure hr (v := .int k (mn a b)) ?_ (pr_int (by unfold mn; omega))
    have : (if b < a then b else a) = mn a b := by unfold mn; split <;> omega
    simp [Builtin.min_, Builtin.min2, this]

theorem builtin_ok (hc : CxOk cx P) (h8 : U8Ok cx P) (hr : Rep X A H μ w) (hA : A n = false) {b : Builtin} {ts : Array TypeId} {ty : TypeId} {cs : Array Bool} {qs : List Q} {us : Array Value} (hq : QsR (Fr X w H μ) w (Sf A H) μ qs us.toList)
    (h : (builtinO cx n b ts.toList ty qs).Sel H r) : StepR X P n A H μ w (Go.builtin b ts ty cs us) r := by
  unfold builtinO at h
  split at h
  · rename_i t x ht
    have hts : ts = #[t] := by cases ts; simp only at ht; rw [ht]
    subst hts
    cases us with | mk us =>
    simp only at hq
    cases hq with
    | cons _ u _ us h1 h2 =>
    cases h2
    exact StepR.val (len_ok hc hr h1 h)
  · rename_i t x ht
    have hts : ts = #[t] := by cases ts; simp only at ht; rw [ht]
    subst hts
    cases us with | mk us =>
    simp only at hq
    cases hq with
    | cons _ u _ us h1 h2 =>
    cases h2
    exact StepR.val (cap_ok hc hr h1 h)
  · rename_i t t' x y ht
    have hts : ts = #[t, t'] := by cases ts; simp only at ht; rw [ht]
    subst hts
    cases us with | mk us =>
    simp only at hq
    cases hq with
    | cons _ u _ us h1 h2 =>
    cases h2 with
    | cons _ v _ us h2 h3 =>
    cases h3
    exact StepR.val (append_ok hc h8 hr hA h1 h2 h)
  · rename_i t t' x y ht
    have hts : ts = #[t, t'] := by cases ts; simp only at ht; rw [ht]
    subst hts
    cases us with | mk us =>
    simp only at hq
    cases hq with
    | cons _ u _ us h1 h2 =>
    cases h2 with
    | cons _ v _ us h2 h3 =>
    cases h3
    exact StepR.val (copy_ok hc hr h1 h2 h)
  · cases us with | mk us =>
    simp only at hq
    cases hq with
    | cons _ u _ us h1 h2 =>
    cases h2 with
    | cons _ v _ us h2 h3 =>
    cases h3
    obtain ⟨rfl, k1⟩ := int_of h1
    obtain ⟨rfl, k2⟩ := int_of h2
    exact StepR.val (max_ok hr k1 k2 h)
  · cases us with | mk us =>
    simp only at hq
    cases hq with
    | cons _ u _ us h1 h2 =>
    cases h2 with
    | cons _ v _ us h2 h3 =>
    cases h3
    obtain ⟨rfl, k1⟩ := int_of h1
    obtain ⟨rfl, k2⟩ := int_of h2
    exact StepR.val (min_ok hr k1 k2 h)
  · rename_i t id ht
    have hts : ts = #[t] := by cases ts; simp only at ht; rw [ht]
    subst hts
    cases us with | mk us =>
    simp only at hq
    cases hq with
    | cons _ u _ us h1 h2 =>
    cases h2
    exact StepR.val (sd_ok hc hr h1 h)
  · rename_i tp ti id m ht
    have hts : ts = #[tp, ti] := by cases ts; simp only at ht; rw [ht]
    subst hts
    cases us with | mk us =>
    simp only at hq
    cases hq with
    | cons _ u _ us h1 h2 =>
    cases h2 with
    | cons _ v _ us h2 h3 =>
    cases h3
    obtain ⟨rfl, _⟩ := int_of h2
    exact StepR.val (str_ok hc h8 hr h1 h)
  · exact h.elim

theorem cpy_key (hr : Rep X A H μ w) {f T id : Nat} {c0 c1 : C} (hf : CpyOk P f T) (hi : H id = .box T [c0, c1]) {u : Value} (hu : CR (Fr X w H μ) w (Sf A H) μ (.ptr id 0) u)
    (h0 : ∀ v, CR (Fr X w H μ) w (Sf A H) μ c0 v → v = .pointer none ∨ v = μ id) : Returns P f #[u] w (CallOk X n A H μ w ⟨.tup [], (id, .box T [.ptr id 0, c1]) :: deadL []⟩) := by
  obtain ⟨b, hm, rfl, _⟩ := ptr_at hr hu (by rw [hi]; rfl)
  have he := hr.ent id
  rw [hi] at he
  obtain ⟨b', arr, hm', hh, hcs⟩ := he
  rw [hm] at hm'
  cases hm'
  cases hcs with
  | cons _ v0 _ vs k0 kr =>
  cases kr with
  | cons _ v1 _ vs k1 kr =>
  cases kr
  have hv0 := h0 v0 k0
  rw [hm] at hv0
  refine (hf.2 w b v0 v1 hh hv0).mono ?_
  rintro _ w' ⟨rfl, hw⟩
  have hA := hr.born id (by rw [hi]; simp)
  have key : w'.os = w.os ∧ w'.tape = w.tape ∧ w'.output = w.output ∧ w'.heap.size = w.heap.size ∧ (∀ k, k ≠ b → w'.heap[k]? = w.heap[k]?) ∧ w'.heap[b]? = some (.cells #[.pointer (some ⟨b, 0, none⟩), v1] T (0, 0)) := by
    rcases hw with rfl | ⟨rfl, hv⟩
    · have hh' : w.heap[b]? = some (.cells [v0, v1].toArray T (0, 0)) := hh
      obtain ⟨k1, k2, k3, k4, k5, k6⟩ := setCells_heap [.pointer (some ⟨b, 0, none⟩)] 0 [v0, v1] w hh' (by simp)
      exact ⟨k4, k5, k6, k3, k2, k1⟩
    · exact ⟨rfl, rfl, rfl, rfl, fun _ _ => rfl, by rw [hh, hv]⟩
  obtain ⟨p1, p2, p3, p4, p5, p6⟩ := key
  have := rep_upd (n := n) (w' := w') hr (e := .box T [.ptr id 0, c1]) (L := []) (by simp) (by rw [hi]; simp) (by simp [hi, Entry.sh]) (b := b) (by rw [hm]; rfl) p1 p2 p3 p4 p5
    (fun hF hS => by
      refine ⟨b, [.pointer (some ⟨b, 0, none⟩), v1], hm, p6, .cons _ _ _ _ ⟨rfl, ?_⟩ (.cons _ _ _ _ (k1.mono (fun k hk => (hF k hk).1) (fun k hk => (hF k hk).2) hS (fun _ => .inr (.inr rfl))) .nil)⟩
      have hS' : Sf A (updH ((id, Entry.box T [.ptr id 0, c1]) :: deadL []) H) id = .box := by simp [Sf, hA, updH_new, Nat.beq_refl, Entry.sh]
      simp only [CR0, PtrR, hS']
      exact ⟨b, hm, rfl⟩)
  exact ⟨A, μ, this.1, ⟨[], rfl, .nil⟩, this.2⟩

theorem cpy_ok (hr : Rep X A H μ w) {f : Nat} {T : List Nat} {qs : List Q} {us : List Value} (hq : QsR (Fr X w H μ) w (Sf A H) μ qs us) (hf : ∀ t, memb t T = true → CpyOk P f t) (h : (cpyO T qs).Sel H r) : Returns P f us.toArray w (CallOk X n A H μ w r) := by
  unfold cpyO at h
  split at h
  · rename_i id off
    cases hq with
    | cons _ u _ us h1 h2 =>
    cases h2
    cases hb : Nat.beq off 0 with
    | false => rw [hb] at h; exact h.elim
    | true =>
      rw [hb] at h
      have := Nat.eq_of_beq_eq_true hb
      subst this
      simp only [cond_true, Tree.Sel] at h
      split at h
      · rename_i t c hi
        cases ht : memb t T with
        | false => rw [ht] at h; exact h.elim
        | true =>
          rw [ht] at h
          cases h
          exact cpy_key hr (hf t ht) hi h1 fun v hv => .inl hv.2
      · rename_i t i c hi
        cases ht : (memb t T && Nat.beq i id) with
        | false => rw [ht] at h; exact h.elim
        | true =>
          rw [ht] at h
          simp only [Bool.and_eq_true] at ht
          have hm := ht.1
          have := Nat.eq_of_beq_eq_true ht.2
          subst this
          cases h
          have hA := hr.born i (by rw [hi]; simp)
          have hS : Sf A H i = .box := by simp [Sf, hA, hi, Entry.sh]
          exact cpy_key hr (hf t hm) hi h1 fun v hv => by
            have := hv.2
            simp only [CR0, hS] at this
            exact this
      · rename_i t i o c hi
        cases ht : (memb t T && (Nat.beq i id && Nat.beq o 0)) with
        | false => rw [ht] at h; exact h.elim
        | true =>
          rw [ht] at h
          simp only [Bool.and_eq_true] at ht
          have hm := ht.1
          have := Nat.eq_of_beq_eq_true ht.2.1
          subst this
          have := Nat.eq_of_beq_eq_true ht.2.2
          subst this
          cases h
          have hA := hr.born i (by rw [hi]; simp)
          have hS : Sf A H i = .box := by simp [Sf, hA, hi, Entry.sh]
          exact cpy_key hr (hf t hm) hi h1 fun v hv => by
            have := hv.2
            simp only [CR0, PtrR, hS] at this
            obtain ⟨b, k1, k2⟩ := this
            exact .inr (k2.trans k1.symm)
      · exact h.elim
  · exact h.elim

theorem nilOf_ok (hr : Rep X A H μ w) {p : PV} {u : Value} {k : Nat} (hp : PR (Fr X w H μ) w (Sf A H) μ p u) (h : nilOf H p = some k) : ∃ (B : Option Addr) (l c : Nat), u = .slice B l c ∧ (B = none → k = 0) := by
  unfold nilOf at h
  split at h
  · rename_i t xs
    cases h
    obtain ⟨_, _, hp⟩ := hp
    obtain ⟨B, c, ls, he, _, _, h3, _⟩ := hp.sl_inv
    simp only [List.cons.injEq, and_true] at he
    refine ⟨B, _, c, he, fun hB => ?_⟩
    cases hx : List.length xs with
    | zero => rfl
    | succ m =>
      obtain ⟨ad, ha, _⟩ := h3 0 (by rw [hx]; exact Nat.succ_pos m)
      rw [hB] at ha; cases ha
  · rename_i id
    split at h
    · rename_i e t xs hi
      cases h
      have hA := hr.born id (by rw [hi]; simp)
      obtain ⟨_, hp⟩ := hp
      simp only [CR0, Sf, hA, hi, Entry.sh, cond_true] at hp
      subst hp
      have he := hr.ent id
      rw [hi] at he
      obtain ⟨_, vs, ho, _⟩ := he
      rcases ho.2 with ⟨hv, hn⟩ | ⟨g, cap, cur, hv, _⟩
      · exact ⟨none, 0, 0, hv, fun _ => hn⟩
      · exact ⟨some _, _, _, hv, fun h => by cases h⟩
    · cases h
  · cases h
theorem isNils_ok {F : Nat → Prop} {S : Nat → Sh} {p : PV} {u : Value} (hp : PR F w S μ p u) (h : isNils p = true) : u = .slice none 0 0 := by
  unfold isNils at h
  split at h
  · exact hp.2
  · cases h
theorem eqIn_sl (d : Nat) {t e : TypeId} (hu : P.underlying t = some (.slice e)) (B : Option Addr) (l c : Nat) : (Op.equalIn (d + 1) t (.slice B l c) (.slice none 0 0)).run P w = .ok B.isNone w := by
  cases B <;> simp [Op.equalIn, run_underlying hu]

theorem nil_ok (hc : CxOk cx P) (hr : Rep X A H μ w) {s : Nat → PV} {a : Act} (hs : ∀ k, PR (Fr X w H μ) w (Sf A H) μ (s k) (a.tmps.getD k undef)) {o : Oper} {k : Nat} {b : Bool} (h : nilEq cx H o.op s = some (k, b)) :
    (k = 0 ∧ StepR X P n A H μ w (execOp a.eval o) ⟨.one (.ce (.v .bool b)), []⟩) ∨ StepR X P n A H μ w (execOp a.eval o) ⟨.one (.ce (.v .bool (!b))), []⟩ := by
  have ho : ∀ x, PR (Fr X w H μ) w (Sf A H) μ (opd s x) (a.eval x) := opd_ok hs
  unfold execOp
  unfold nilEq at h
  generalize o.op = op at h
  have sl {t : Nat} (h : isSl (cx.de t) = true) : ∃ e, P.underlying t = some (.slice e) := by
    unfold isSl at h
    split at h
    · rename_i e he; exact ⟨e, hc.sl he⟩
    · cases h
  split at h
  · rename_i t x y _
    cases hb : (isNils (opd s y) && isSl (cx.de t)) with
    | false => rw [hb] at h; cases h
    | true =>
      rw [hb, cond_true] at h
      simp only [Bool.and_eq_true] at hb
      obtain ⟨e, hu⟩ := sl hb.2
      obtain ⟨k', hk', e2⟩ := Option.map_eq_some_iff.1 h
      cases e2
      obtain ⟨B, l, c, hx, hB⟩ := nilOf_ok hr (ho x) hk'
      have hy := isNils_ok (ho y) hb.1
      have hrun := bin_val (P := P) (w := w) .eql t x y (a.eval x) (a.eval y) (fun _ _ h => by rw [hx] at h; cases h) (fun h => by rw [hx] at h; cases h)
      have hv := binEql (P := P) (w := w) t (.slice B l c) (.slice none 0 0) B.isNone rfl (eqIn_sl _ hu B l c)
      rw [← hx, ← hy] at hv
      cases B with
      | none => exact .inl ⟨hB rfl, .val (.congr (.pure hr hv (pr_bool _)) hrun)⟩
      | some ad => exact .inr (.val (.congr (.pure hr hv (pr_bool _)) hrun))
  · rename_i t x y _
    cases hb : (isNils (opd s y) && isSl (cx.de t)) with
    | false => rw [hb] at h; cases h
    | true =>
      rw [hb, cond_true] at h
      simp only [Bool.and_eq_true] at hb
      obtain ⟨e, hu⟩ := sl hb.2
      obtain ⟨k', hk', e2⟩ := Option.map_eq_some_iff.1 h
      cases e2
      obtain ⟨B, l, c, hx, hB⟩ := nilOf_ok hr (ho x) hk'
      have hy := isNils_ok (ho y) hb.1
      have hrun := bin_val (P := P) (w := w) .neq t x y (a.eval x) (a.eval y) (fun _ _ h => by rw [hx] at h; cases h) (fun h => by rw [hx] at h; cases h)
      have hv := binNeq (P := P) (w := w) t (.slice B l c) (.slice none 0 0) B.isNone rfl (eqIn_sl _ hu B l c)
      rw [← hx, ← hy] at hv
      cases B with
      | none => exact .inl ⟨hB rfl, .val (.congr (.pure hr hv (pr_bool _)) hrun)⟩
      | some ad => exact .inr (.val (.congr (.pure hr hv (pr_bool _)) hrun))
  · cases h

theorem thaw_sel {o r : Out} {H H' : Nat → Entry} (h : (thaw o).Sel H r) : (thaw o).Sel H' r := by
  unfold thaw at *
  split at h
  · rename_i m k e0 t xs r0 hd hu
    cases hb : Nat.beq m k with
    | false => rw [hb] at h; exact h.elim
    | true => rw [hb] at h; exact h
  · exact h.elim
theorem thaw_ok {e : Sem Value} {o r : Out} (h : OpVal X P n A H μ w e o) (ht : (thaw o).Sel (updH o.u H) r) : OpVal X P n A H μ w e r := by
  obtain ⟨v, w', A', μ', h1, h2, h3, h4⟩ := h
  obtain ⟨d, u⟩ := o
  unfold thaw at ht
  dsimp only at ht h2 h3 h4
  split at ht
  · rename_i m k e0 t xs r0
    cases hb : Nat.beq m k with
    | false => rw [hb] at ht; exact ht.elim
    | true =>
      rw [hb] at ht
      have := Nat.eq_of_beq_eq_true hb
      subst this
      cases ht
      have hk : updH ((m, Entry.row e0 t xs) :: r0) H m = .row e0 t xs := by simp only [updH, find, Nat.beq_refl]; rfl
      obtain ⟨q1, q2⟩ := rep_kill (n := n) h2 [m]
      have he : updH ((m, Entry.dead) :: r0) H = killH [m] (updH ((m, Entry.row e0 t xs) :: r0) H) := by
        funext id
        unfold killH updH
        simp only [find, memb, Bool.or_false]
        cases Nat.beq id m <;> rfl
      have hA := h2.born m (by rw [hk]; simp)
      have hv : v = μ' m := by
        have := h3.2
        simp only [CR0, Sf, hA, hk, Entry.sh, cond_true] at this
        exact this
      refine ⟨v, w', A', μ', h1, by rw [he]; exact q1, ?_, by rw [he]; exact h4.trans q2⟩
      rw [he]
      have hrp := row_value h2 hk [m] (.head _)
      rw [← hv] at hrp
      exact ⟨h3.1, rfl, hrp⟩
  · exact ht.elim

theorem opq_ok (hG : GOk cx.gl X w H μ) {s : Nat → PV} {a : Act} (hs : ∀ k, PR (Fr X w H μ) w (Sf A H) μ (s k) (a.tmps.getD k undef)) (x : Operand) : QR (Fr X w H μ) w (Sf A H) μ (opq cx s x) (a.eval x) := by
  cases x with
  | global g =>
    have h := hG.2
    unfold opq
    simp only
    generalize cx.gl.tabs = l at h
    induction l with
    | nil => trivial
    | cons e l ih =>
      unfold gFind
      cases hb : Nat.beq g e.g with
      | false => exact ih fun e' he' => h e' (List.mem_cons_of_mem _ he')
      | true =>
        obtain ⟨⟨h0, l', h1, h2⟩, h3, h4⟩ := h e (List.mem_cons_self ..)
        have hge := Nat.eq_of_beq_eq_true hb
        subst hge
        refine ⟨rfl, ⟨e.g, 0, none⟩, l', rfl, ⟨⟨h0, h3⟩, h4⟩, h1.mono (fun _ h => h.elim) (fun _ h => h.elim), fun i v hv => ?_⟩
        rw [Addr.add_mid, Nat.zero_add]
        exact h2 i v hv
  | tmp k => exact asQ_of (opd_ok hs (.tmp k))
  | const v => exact asQ_of (opd_ok hs (.const v))
  | func f => exact asQ_of (opd_ok hs (.func f))

theorem step_ok (hc : CxOk cx P) (he : EqOk cx P) (hf : FsOk cx P) (hG : GOk cx.gl X w H μ) (hr : Rep X A H μ w) (hA0 : A 0 = false) (hn0 : 0 < n) (hA : ∀ i, n ≤ i → i < n + stride → A i = false) {s : Nat → PV} {a : Act}
    (hs : ∀ k, PR (Fr X w H μ) w (Sf A H) μ (s k) (a.tmps.getD k undef)) {o : Oper} (h : (stepOp cx o.type o.op s n).Sel H r) : StepR X P n A H μ w (execOp a.eval o) r := by
  have hAn : A n = false := hA n (Nat.le_refl _) (by simp [stride])
  have ho : ∀ x, PR (Fr X w H μ) w (Sf A H) μ (opd s x) (a.eval x) := opd_ok hs
  have hq : ∀ x, QR (Fr X w H μ) w (Sf A H) μ (opq cx s x) (a.eval x) := opq_ok hG hs
  unfold execOp
  unfold stepOp at h
  dsimp only at h ⊢
  generalize o.op = op at h
  split at h
  · cases h; exact .here hr rfl (ho _)
  · cases h; exact .here hr rfl (ho _)
  · rename_i c x y
    split at h
    · rename_i b hb
      have hcq := hq c
      rw [hb] at hcq
      have hv := bool_of hcq
      cases b with
      | true => cases h; exact .here hr (by simp [Sem.run_bind, hv, asBool]) (ho _)
      | false => cases h; exact .here hr (by simp [Sem.run_bind, hv, asBool]) (ho _)
    · exact h.elim
  · exact .val (alloc_ok hc hr hAn h)
  · exact .val (box_ok hc hr hAn (hq _) h)
  · rename_i t ps
    have hp := parts_ok hq ps.toList
    have := build_ok (n := n) hc hr hp h
    have e : (ps.toList.map fun p => (p.1, a.eval p.2)).toArray = ps.map fun (i, x) => (i, a.eval x) := by rw [← Array.toList_map]
    rw [e] at this
    exact .val this
  · rename_i t len ps
    have hp := parts_ok hq ps.toList
    have e : (ps.toList.map fun p => (p.1, a.eval p.2)).toArray = ps.map fun (i, x) => (i, a.eval x) := by rw [← Array.toList_map]
    cases hvl : cx.vlit with
    | false =>
      rw [hvl] at h
      have := buildSlice_ok (n := n) hc hr hAn hp h
      rw [e] at this
      exact .val this
    | true =>
      rw [hvl] at h
      obtain ⟨o1, h1, h2⟩ := Tree.sel_bind h
      have := buildSlice_ok (n := n) hc hr hAn hp h1
      rw [e] at this
      exact .val (thaw_ok this (thaw_sel h2))
  · exact .val (load_ok hc hr (hq _) h)
  · exact .unit (store_ok hc hr hAn (hq _) (hq _) h)
  · rename_i x
    split at h
    · rename_i id off hx
      have hxq := hq x
      rw [hx] at hxq
      simp only [Tree.Sel] at h
      have key : ∀ e, H id = e → e.isBox = true → ∃ b, a.eval x = .pointer (some b) := fun e he hb => by
        cases e with
        | box t cs => obtain ⟨b, _, h2⟩ := ptr_live hr hxq.2 he (.inl ⟨_, _, rfl⟩); exact ⟨_, h2⟩
        | abox t a xs => obtain ⟨b, _, h2⟩ := ptr_live hr hxq.2 he (.inr ⟨_, _, _, rfl⟩); exact ⟨_, h2⟩
        | dead => cases hb
        | row _ _ _ => cases hb
        | refs _ _ _ => cases hb
        | bun _ _ _ => cases hb
      cases hb : (H id).isBox with
      | false => rw [hb] at h; exact h.elim
      | true =>
        rw [hb] at h
        cases h
        obtain ⟨b, hbv⟩ := key _ rfl hb
        refine .here hr (v := a.eval x) ?_ hxq
        simp [hbv]
    · rename_i f fi ca hx
      have hxq := hq x
      rw [hx] at hxq
      cases h
      obtain ⟨_, us, vs, hu, _, _⟩ := id hxq
      refine .here hr (v := a.eval x) ?_ hxq
      simp [hu]
    · exact h.elim
  · exact .val (bin_ok hc he hr (hq _) (hq _) h)
  · exact .val (unOp_ok hr (hq _) h)
  · exact .val (cvtN_ok hc hr hAn (hq _) h)
  · rename_i f fi ca
    split at h
    · rename_i x y hx hy
      cases h
      have h1 := ptrs_ok hq hx
      have h2 := ptrs_ok hq hy
      refine .here hr (v := .func (.func f) (fi.map a.eval) (ca.map a.eval)) ?_ ⟨rfl, _, _, rfl, by simpa using h1, by simpa using h2⟩
      rfl
    · exact h.elim
  · exact .val (makeSlice_ok hc hr hAn (hA (n + 1) (by omega) (by simp [stride])) (hq _) (hq _) h)
  · exact .val (sliceN_ok hc hr hAn hs (hq _) h)
  · exact .val (fieldAddr_ok hc hr (hq _) h)
  · exact .val (fieldO_ok hc hr (hq _) h)
  · exact .val (indexAddr_ok hc hr (hq _) (hq _) h)
  · exact .val (indexN_ok hc hr (hq _) (hq _) h)
  · rename_i t j
    split at h
    · rename_i l hl
      have ht := ho t
      rw [hl] at ht
      obtain ⟨us, hu, hus⟩ := ht
      split at h
      · rename_i q hj
        cases h
        have hv := hus.at j
        have hq' : l.getD j .un = q := by rw [List.getD_eq_getElem?_getD, hj]; rfl
        rw [hq'] at hv
        have hlen : l.length = us.length := hus.len
        have hj' : j < us.length := by
          rw [← hlen]
          exact (List.getElem?_eq_some_iff.1 hj).1
        refine .here hr (v := us.getD j undef) ?_ hv
        simp [hu, Instr.extract, List.getD_eq_getElem?_getD, List.getElem?_eq_getElem hj']
      · exact h.elim
    · exact h.elim
  · rename_i c
    split at h
    · rename_i b hb
      have hp := mapQ_ok hq c.args.toList
      refine StepR.congr (builtin_ok (ts := c.argTypes) (ty := o.type) (cs := c.args.map fun | .const _ => true | _ => false) (us := c.args.map a.eval) hc he.2.1 hr hAn (by simpa using hp) h) ?_
      simp [resolve, hb, invoke]
      rfl
    · rename_i f hb
      split at h
      · rename_i g fi ca hx
        have hxq := hq f
        rw [hx] at hxq
        obtain ⟨_, us, vs, hu, k1, k2⟩ := hxq
        have hp := mapQ_ok hq c.args.toList
        have hall := (QsR.append (QsR.append (ptrsQ k1) hp) (ptrsQ k2))
        split at h
        · rename_i T hcp
          have hcy := he.2.2 g T hcp
          obtain ⟨fn, f1, f2, f3⟩ := hcy.1
          have := cpy_ok (n := n) hr hall hcy.2 h
          refine .inr (.inr ⟨g, us ++ c.args.map a.eval ++ vs, ?_, ?_⟩)
          · simp [resolve, hb, invoke, hu, Deferred.ofValue, Sem.run_bind, callFunc_run f1 f2 f3]
          · refine cast (congrArg (fun z => Returns P g z w (CallOk X n A H μ w r)) ?_) this
            simp [← Array.toList_inj]
        unfold callFn at h
        split at h
        · rename_i ct hp
          obtain ⟨⟨fn, f1, f2, f3⟩, hso⟩ := hf g ct (pickC_mem hp)
          have := call_ok (f := g) (P := P) hG hr hA0 hn0 hA hall hso h
          refine .inr (.inr ⟨g, us ++ c.args.map a.eval ++ vs, ?_, ?_⟩)
          · simp [resolve, hb, invoke, hu, Deferred.ofValue, Sem.run_bind, callFunc_run f1 f2 f3]
          · refine cast (congrArg (fun z => Returns P g z w (CallOk X n A H μ w r)) ?_) this
            simp [← Array.toList_inj]
        · exact h.elim
      · exact h.elim
    · exact h.elim
  · exact h.elim
end Vi

set_option autoImplicit false
set_option linter.unusedSectionVars false
namespace Vi
open Go

/-- The call at hand, as it was entered. -/
structure Base where
  X : Nat → Prop
  K0 : Nat
  N : Nat
  w0 : World
  H0 : Nat → Entry
  A0 : Nat → Bool
  μ0 : Nat → Value

structure FrI (B : Base) (A : Nat → Bool) (H : Nat → Entry) (μ : Nat → Value) (w : World) : Prop where
  os : w.os = B.w0.os
  tape : w.tape = B.w0.tape
  output : w.output = B.w0.output
  size : B.w0.heap.size ≤ w.heap.size
  blk0 : ∀ b, Fr (fun _ => False) B.w0 B.H0 B.μ0 b → w.heap[b]? = B.w0.heap[b]?
  own : ∀ id b, H id ≠ .dead → (μ id).has b → (∃ i, B.H0 i ≠ .dead ∧ (B.μ0 i).has b) ∨ B.w0.heap.size ≤ b
  kept : ∀ j, j < B.K0 → μ (j + 1) = B.μ0 (j + 1)
  ksh : ∀ j, j < B.K0 → Sf A H (j + 1) = Sf B.A0 B.H0 (j + 1) ∨ Sf A H (j + 1) = .dead
  kb : ∀ j, j < B.K0 → A (j + 1) = true

variable {X : Nat → Prop} {n : Nat} {A A' : Nat → Bool} {H H' : Nat → Entry} {μ μ' : Nat → Value} {w w' : World} {P : Program} {cx : Cx} {r : Out} {B : Base}

theorem Entry.sh_born (e : Entry) : e.sh ≠ .unborn := by cases e <;> simp [Entry.sh]

theorem FrI.step (h : FrI B A H μ w) (hx : Ext X n A H μ w A' H' μ' w') : FrI B A' H' μ' w' := by
  refine ⟨hx.os.trans h.os, hx.tape.trans h.tape, hx.output.trans h.output, Nat.le_trans h.size hx.size, fun b hb => ?_, fun id b hd hm => ?_, fun j hj => (hx.mue _ (h.kb j hj)).trans (h.kept j hj), fun j hj => ?_, fun j hj => hx.born _ (h.kb j hj)⟩
  · refine (hx.blk0 b ⟨⟨Nat.lt_of_lt_of_le hb.1.1 h.size, fun h => h⟩, fun id hd hm => ?_⟩).trans (h.blk0 b hb)
    rcases h.own id b hd hm with ⟨i, h1, h2⟩ | h1
    · exact hb.2 i h1 h2
    · have := hb.1.1; omega
  · rcases hx.own id b hd hm with ⟨i, h1, h2⟩ | h1
    · exact h.own i b h1 h2
    · exact .inr (Nat.le_trans h.size h1)
  · rcases hx.sh (j + 1) with h1 | h1 | h1
    · unfold Sf at h1
      rw [h.kb j hj, cond_true] at h1
      exact absurd h1 (Entry.sh_born _)
    · rw [h1]; exact h.ksh j hj
    · exact .inr h1

/-- A state and what it stands for. -/
structure Inv (B : Base) (U : Nat → Prop) (s : St) (a : Act) (w : World) (A : Nat → Bool) (μ : Nat → Value) : Prop where
  rep : Rep B.X A s.ent μ w
  tmps : ∀ k, PR (Fr B.X w s.ent μ) w (Sf A s.ent) μ (s.tmp k) (a.tmps.getD k undef)
  size : B.N ≤ a.tmps.size
  defers : a.defers = []
  zero : A 0 = false
  unborn : ∀ i, U i → A i = false
  fr : FrI B A s.ent μ w

def IV (B : Base) (n : Nat) (s : St) (a : Act) (w : World) : Prop := 0 < n ∧ ∃ A μ, Inv B (fun i => n ≤ i) s a w A μ

variable {U U' : Nat → Prop}

theorem getD_set {a : Array Value} {i k : Nat} {v : Value} : (a.setIfInBounds i v).getD k undef = if i = k ∧ k < a.size then v else a.getD k undef := by
  simp only [Array.getD_eq_getD_getElem?, Array.getElem?_setIfInBounds]
  by_cases h : i = k
  · subst h
    by_cases h2 : i < a.size
    · simp [h2]
    · simp [h2]
  · simp [h]

theorem Inv.put {s : St} {a : Act} (h : Inv B U s a w A μ) (hn : 0 < n) (hU' : ∀ i, U' i → U i ∧ ¬ (n ≤ i ∧ i < n + stride)) {d : Option Nat} (hd : ∀ k, d = some k → k < B.N) {u : Value}
    (hr : Rep B.X A' (updH r.u s.ent) μ' w') (hp : PR (Fr B.X w' (updH r.u s.ent) μ') w' (Sf A' (updH r.u s.ent)) μ' r.d u) (hx : Ext B.X n A s.ent μ w A' (updH r.u s.ent) μ' w') :
    Inv B U' (s.put d r) (a.put d u) w' A' μ' := by
  have he := St.put_ent s d r
  refine ⟨by rw [he]; exact hr, fun k => ?_, ?_, ?_, ?_, fun i hi => ?_, by rw [he]; exact h.fr.step hx⟩
  · rw [he]
    cases d with
    | none => exact hx.pr (h.tmps k)
    | some j =>
      simp only [St.tmp, St.put, find, Act.put]
      rw [getD_set]
      by_cases hk : k = j
      · subst hk
        rw [Nat.beq_refl, cond_true, if_pos ⟨rfl, Nat.lt_of_lt_of_le (hd k rfl) h.size⟩]
        exact hp
      · rw [beq_false hk, cond_false, if_neg (fun e => hk e.1.symm)]
        exact hx.pr (h.tmps k)
  · cases d with
    | none => exact h.size
    | some j => simp only [Act.put, Array.size_setIfInBounds]; exact h.size
  · cases d with
    | none => exact h.defers
    | some j => exact h.defers
  · cases h0 : A' 0 with
    | false => rfl
    | true =>
      rcases hx.newborn 0 h0 with h1 | h1
      · rw [h.zero] at h1; cases h1
      · omega
  · cases h0 : A' i with
    | false => rfl
    | true =>
      rcases hx.newborn i h0 with h1 | h1
      · rw [h.unborn i (hU' i hi).1] at h1; cases h1
      · exact absurd h1 (hU' i hi).2

theorem FrI.gok {G : Gs} (h : FrI B A H μ w) (h0 : GOk G B.X B.w0 B.H0 B.μ0) : GOk G B.X w H μ := by
  have key : ∀ b, b < B.w0.heap.size → (¬ B.X b ∧ ∀ id, B.H0 id ≠ .dead → ¬ (B.μ0 id).has b) → ¬ B.X b ∧ ∀ id, H id ≠ .dead → ¬ (μ id).has b := fun b hlt hb => by
    refine ⟨hb.1, fun id hd hm => ?_⟩
    rcases h.own id b hd hm with ⟨i, h4, h5⟩ | h4
    · exact hb.2 i h4 h5
    · omega
  have cell : ∀ b, b < B.w0.heap.size → (¬ B.X b ∧ ∀ id, B.H0 id ≠ .dead → ¬ (B.μ0 id).has b) → ∀ i : Nat, w.cell? ⟨b, i, none⟩ = B.w0.cell? ⟨b, i, none⟩ := fun b hlt hb i => by
    unfold World.cell?
    rw [h.blk0 b ⟨⟨hlt, fun h => h⟩, hb.2⟩]
  refine ⟨fun x hx => ?_, fun e he => ?_⟩
  · obtain ⟨⟨m, h1⟩, h3⟩ := h0.1 x hx
    have hlt : x < B.w0.heap.size := World.block_lt_of_cell? _ _ h1
    exact ⟨⟨m, (cell x hlt h3 0).trans h1⟩, key x hlt h3⟩
  · obtain ⟨⟨hlt, l, h1, h2⟩, h3⟩ := h0.2 e he
    exact ⟨⟨Nat.lt_of_lt_of_le hlt h.size, l, h1.mono (fun _ h => h) (fun _ h => h.elim), fun i v hv => (cell e.g hlt h3 i).trans (h2 i v hv)⟩, key _ hlt h3⟩

theorem op_ok (hc : CxOk cx P) (he : EqOk cx P) (hf : FsOk cx P) (hG : GOk cx.gl B.X B.w0 B.H0 B.μ0) {s : St} {a : Act} (hi : Inv B U s a w A μ) (hn0 : 0 < n) (hUn : ∀ i, n ≤ i → i < n + stride → U i) (hU' : ∀ i, U' i → U i ∧ ¬ (n ≤ i ∧ i < n + stride))
    {o : Oper} (hd : ∀ k, o.dst = some k → k < B.N) (hs : (stepOp cx o.type o.op s.tmp n).Sel s.ent r)
    {next : Act → World → Prop} {Q : Exit → Act → World → Prop} (hn : ∀ a' w' A' μ', Inv B U' (s.put o.dst r) a' w' A' μ' → next a' w') : o.wp P a w next Q := by
  have hst := step_ok (P := P) hc he hf (hi.fr.gok hG) hi.rep hi.zero hn0 (fun i h1 h2 => hi.unborn i (hUn i h1 h2)) hi.tmps hs
  unfold Oper.wp
  rcases hst with ⟨v, w', h1, A', μ', h2, h3, h4⟩ | ⟨w', h1, A', μ', h2, h3, h4⟩ | ⟨f, us, h1, h2⟩
  · rw [h1]; exact hn _ _ A' μ' (hi.put hn0 hU' hd h2 h3 h4)
  · rw [h1]; exact hn _ _ A' μ' (hi.put hn0 hU' hd h2 h3 h4)
  · rw [h1]
    refine Calls.mono h2 fun e w' hw => ?_
    cases e with
    | returned v => obtain ⟨A', μ', h2, h3, h4⟩ := hw; exact hn _ _ A' μ' (hi.put hn0 hU' hd h2 h3 h4)
    | panicked _ => exact hw.elim
    | outgrown => exact hw.elim

theorem step1_ok (hc : CxOk cx P) (he : EqOk cx P) (hf : FsOk cx P) (hG : GOk cx.gl B.X B.w0 B.H0 B.μ0) {s : St} {a : Act} (hi : Inv B U s a w A μ) (hn0 : 0 < n) (hUn : ∀ i, n ≤ i → i < n + stride → U i) (hU' : ∀ i, U' i → U i ∧ ¬ (n ≤ i ∧ i < n + stride))
    {o : Oper} (hd : ∀ k, o.dst = some k → k < B.N) {K : St → Prop} (hs : step1 cx o n s K)
    {next : Act → World → Prop} {Q : Exit → Act → World → Prop} (hn : ∀ s' a' w' A' μ', Inv B U' s' a' w' A' μ' → K s' → next a' w') : o.wp P a w next Q := by
  unfold step1 at hs
  split at hs
  · rename_i k b hk
    have fin (d : Out) (hst : StepR B.X P n A s.ent μ w (execOp a.eval o) d) (hK : K (s.put o.dst d)) : o.wp P a w next Q := by
      unfold Oper.wp
      rcases hst with ⟨v, w', h1, A', μ', h2, h3, h4⟩ | ⟨w', h1, A', μ', h2, h3, h4⟩ | ⟨f, us, h1, h2⟩
      · rw [h1]; exact hn _ _ _ A' μ' (hi.put hn0 hU' hd h2 h3 h4) hK
      · rw [h1]; exact hn _ _ _ A' μ' (hi.put hn0 hU' hd h2 h3 h4) hK
      · rw [h1]
        refine Calls.mono h2 fun e w' hw => ?_
        cases e with
        | returned v => obtain ⟨A', μ', h2, h3, h4⟩ := hw; exact hn _ _ _ A' μ' (hi.put hn0 hU' hd h2 h3 h4) hK
        | panicked _ => exact hw.elim
        | outgrown => exact hw.elim
    rcases nil_ok (P := P) (n := n) hc hi.rep hi.tmps hk with ⟨h0, hst⟩ | hst
    · exact fin _ hst (hs.1 h0)
    · exact fin _ hst hs.2
  · obtain ⟨r, h1, h2⟩ := Tree.sel_of_wp hs
    exact op_ok hc he hf hG hi hn0 hUn hU' hd h1 fun a' w' A' μ' hi => hn _ a' w' A' μ' hi h2

theorem up_n (n i : Nat) (h : n + stride ≤ i) : n ≤ i ∧ ¬ (n ≤ i ∧ i < n + stride) := ⟨by omega, fun k => by omega⟩

theorem Inv.lit {s : St} {a : Act} (h : Inv B U s a w A μ) {d : Nat} {b : Bool} (hd : s.tmp d = .one (.ce (.v .bool b))) : Inv B U (s.lit d b) a w A μ := by
  refine ⟨h.rep, fun k => ?_, h.size, h.defers, h.zero, h.unborn, h.fr⟩
  show PR (Fr B.X w s.ent μ) w (Sf A s.ent) μ ((s.lit d b).tmp k) _
  simp only [St.tmp, St.lit, find]
  by_cases hk : k = d
  · subst hk
    rw [Nat.beq_refl, cond_true, ← hd]
    exact h.tmps k
  · rw [beq_false hk, cond_false]
    exact h.tmps k

theorem Inv.skip {s : St} {a : Act} (h : Inv B U s a w A μ) (hn : 0 < n) (hU' : ∀ i, U' i → U i ∧ ¬ (n ≤ i ∧ i < n + stride)) {d : Option Nat} (hd : ∀ k, d = some k → k < B.N) : Inv B U' (s.put d ⟨.tup [], []⟩) (a.put d undef) w A μ :=
  h.put (r := ⟨.tup [], []⟩) hn hU' hd h.rep ⟨[], rfl, .nil⟩ (Ext.refl _ _ _ _ _ _)

theorem yielded_of {ops : Array Oper} {s : St} {a : Act} (h : Inv B U s a w A μ) {j d : Nat} (hj : dstOf ops j = some d) {b : Bool} (hd : s.tmp d = .one (.ce (.v .bool b))) : yielded ops a.tmps j = some b := by
  have := h.tmps d
  rw [hd] at this
  have hv := bool_of this
  unfold yielded
  unfold dstOf at hj
  rw [hj]
  simp only [Option.bind_some]
  rw [Array.getD_eq_getD_getElem?] at hv
  cases hg : a.tmps[d]? with
  | none => rw [hg] at hv; cases hv
  | some x => rw [hg] at hv; simp only [Option.getD_some] at hv; rw [hv]

theorem yielded_un {ops : Array Oper} {s : St} {a : Act} (h : Inv B U s a w A μ) {j d : Nat} (hj : dstOf ops j = some d) (hd : s.tmp d = .tup []) : yielded ops a.tmps j = none := by
  have := h.tmps d
  rw [hd] at this
  obtain ⟨us, hv, hq⟩ := this
  cases hq
  unfold yielded
  unfold dstOf at hj
  rw [hj]
  simp only [Option.bind_some]
  rw [Array.getD_eq_getD_getElem?] at hv
  cases hg : a.tmps[d]? with
  | none => rfl
  | some x => rw [hg] at hv; simp only [Option.getD_some] at hv; rw [hv]

theorem gstep_ok (hc : CxOk cx P) (he : EqOk cx P) (hf : FsOk cx P) (hG : GOk cx.gl B.X B.w0 B.H0 B.μ0) {ops : Array Oper} {s : St} {a : Act} (h : IV B n s a w) {o : Oper} (hd : ∀ k, o.dst = some k → k < B.N) {K : St → Prop} (hg : gstep cx ops o n s K)
    {next : Act → World → Prop} {Q : Exit → Act → World → Prop} (hn : ∀ s' a' w', IV B (n + stride) s' a' w' → K s' → next a' w') :
    if Region.wanted o (yielded ops a.tmps) then o.wp P a w next Q ∨ (o.asks P a w ∧ LetsOut Q) else next (a.put o.dst undef) w := by
  unfold gstep at hg
  split at hg
  · rename_i ho
    have hw : Region.wanted o (yielded ops a.tmps) = true := by unfold Region.wanted; rw [ho]
    rw [if_pos hw]
    obtain ⟨hn0, A, μ, hi⟩ := h
    exact .inl (step1_ok hc he hf hG hi hn0 (fun _ h _ => h) (up_n n) hd hg fun s' a' w' A' μ' hi => hn s' a' w' ⟨by omega, A', μ', hi⟩)
  · rename_i j want ho
    split at hg
    · exact hg.elim
    · rename_i d hj
      split at hg
      · rename_i b hb
        obtain ⟨hn0, A, μ, hi⟩ := h
        have hw : Region.wanted o (yielded ops a.tmps) = ((some b : Option Bool) == some want) := by
          unfold Region.wanted; rw [ho]; simp only; rw [yielded_of hi hj hb]
        have hl := fun (b' : Bool) (e : b = b') => hi.lit (d := d) (b := b') (by rw [hb, e])
        cases b with
        | true =>
          cases want with
          | true =>
            simp only [cond_true] at hg
            rw [if_pos (by rw [hw]; rfl)]
            exact .inl (step1_ok hc he hf hG (hl true rfl) hn0 (fun _ h _ => h) (up_n n) hd hg fun s' a' w' A' μ' hi => hn s' a' w' ⟨by omega, A', μ', hi⟩)
          | false =>
            simp only [cond_true, cond_false] at hg
            rw [if_neg (by rw [hw]; decide)]
            exact hn _ _ _ ⟨by omega, A, μ, (hl true rfl).skip hn0 (up_n n) hd⟩ hg
        | false =>
          cases want with
          | true =>
            simp only [cond_true, cond_false] at hg
            rw [if_neg (by rw [hw]; decide)]
            exact hn _ _ _ ⟨by omega, A, μ, (hl false rfl).skip hn0 (up_n n) hd⟩ hg
          | false =>
            simp only [cond_false] at hg
            rw [if_pos (by rw [hw]; rfl)]
            exact .inl (step1_ok hc he hf hG (hl false rfl) hn0 (fun _ h _ => h) (up_n n) hd hg fun s' a' w' A' μ' hi => hn s' a' w' ⟨by omega, A', μ', hi⟩)
      · rename_i hb
        obtain ⟨hn0, A, μ, hi⟩ := h
        have hw : Region.wanted o (yielded ops a.tmps) = false := by
          unfold Region.wanted; rw [ho]; simp only; rw [yielded_un hi hj hb]; rfl
        rw [if_neg (by rw [hw]; decide)]
        exact hn _ _ _ ⟨by omega, A, μ, hi.skip hn0 (up_n n) hd⟩ hg
      · exact hg.elim

theorem runOps_ok (hc : CxOk cx P) (he : EqOk cx P) (hf : FsOk cx P) (hG : GOk cx.gl B.X B.w0 B.H0 B.μ0) {ops : Array Oper} {Q : Exit → Act → World → Prop} {K : St → Prop} (hQ : ∀ s a w, IV B s.n s a w → K s → Q .normal a w) :
    ∀ {os : List Oper} {l : List Nat} {n : Nat} {s : St} {a : Act} {w : World}, l.map (ops[·]?) = os.map some → dstsOk B.N os = true → IV B n s a w → runOps cx ops os n s K → wpOps P ops Q l a w
  | [], l, n, s, a, w, hl, hd, h, hr => by
    have : l = [] := by simpa using hl
    subst this
    refine hQ _ a w ?_ hr
    obtain ⟨hn0, A, μ, h⟩ := h
    exact ⟨hn0, A, μ, h.rep, h.tmps, h.size, h.defers, h.zero, h.unborn, h.fr⟩
  | o :: os, [], n, s, a, w, hl, hd, h, hr => by simp at hl
  | o :: os, i :: l, n, s, a, w, hl, hd, h, hr => by
    simp only [List.map_cons, List.cons.injEq] at hl
    simp only [dstsOk, Bool.and_eq_true] at hd
    unfold wpOps
    rw [hl.1]
    refine gstep_ok hc he hf hG h (fun k hk => ?_) hr fun s' a' w' hi hk => runOps_ok hc he hf hG hQ hl.2 hd.2 hi hk
    have := hd.1
    rw [hk] at this
    exact blt_iff.1 this

theorem dstsOk_mem {N : Nat} {l : List Oper} (h : dstsOk N l = true) : ∀ o, o ∈ l → dstOk N o.dst = true := by
  induction l with
  | nil => intro o ho; cases ho
  | cons x l ih =>
    intro p hp
    simp only [dstsOk, Bool.and_eq_true] at h
    rcases List.mem_cons.1 hp with e | e
    · rw [e]; exact h.1
    · exact ih h.2 p e

theorem slots_tmp {F : Nat → Prop} {S : Nat → Sh} {f : Nat → Value} : ∀ {l : List (Nat × Q)}, (∀ x, x ∈ l → QR F w S μ x.2 (f x.1)) → ∀ k, PR F w S μ (find (.one .un) (l.map fun x => (x.1, .one x.2)) k) (f k)
  | [], _, _ => trivial
  | (i, q) :: l, h, k => by
    simp only [List.map_cons, find]
    by_cases hk : k = i
    · subst hk; rw [Nat.beq_refl, cond_true]; exact h (k, q) (List.mem_cons_self ..)
    · rw [beq_false hk, cond_false]; exact slots_tmp (fun x hx => h x (List.mem_cons_of_mem _ hx)) k

theorem boundSelf_of {K0 : Nat} {g : Env} (h : boundSelf K0 g = true) {j : Nat} (hj : j < K0) : has g.io j = some (j + 1) := by
  unfold boundSelf at h
  rw [List.all_eq_true] at h
  have := h j (List.mem_range.2 hj)
  split at this
  · rename_i i hi; rw [hi, Nat.eq_of_beq_eq_true this]
  · cases this

/-- The frame, under a pattern's names. -/
theorem FrI.pat (h : FrI B A H μ w) {p : Pat} {v : p.V} {g : Env} {uf : Nat → Value} (pp : PatPost p X A H μ w uf v g) (hb : boundSelf B.K0 g = true) : FrI B (patA p) (p.st v).ent (muG μ g) w := by
  have hrep := pp.rep X ⟨fun _ h => h, fun _ h => .inl h⟩
  have hio : ∀ j, j < B.K0 → has g.io j = some (j + 1) := fun j hj => boundSelf_of hb hj
  refine ⟨h.os, h.tape, h.output, h.size, h.blk0, fun id b hd hm => ?_, fun j hj => ?_, fun j hj => ?_, fun j hj => ?_⟩
  · have hborn := hrep.born id hd
    unfold patA at hborn
    simp only [Bool.and_eq_true, blt_iff, ble_iff] at hborn
    obtain ⟨j, rfl⟩ : ∃ j, id = j + 1 := ⟨id - 1, by omega⟩
    obtain ⟨id', hj⟩ := pp.io j (by omega)
    by_cases h0 : id' = 0
    · subst h0; rw [muG_zero hj] at hm; cases hm
    · rw [muG_some hj h0] at hm
      exact h.own id' b (pp.dead j id' hj h0) hm
  · rw [muG_some (hio j hj) (by omega)]
    exact h.kept j hj
  · rw [(pp.bound j _ (hio j hj)).2 (by omega)]
    exact h.ksh j hj
  · have := pp.lt j _ (hio j hj)
    unfold patA
    rw [blt_iff.2 (Nat.succ_pos j), ble_iff.2 this]; rfl

theorem Inv.pat {s : St} {a : Act} (h : Inv B U s a w A μ) {p : Pat} {v : p.V}
    (hs : (p.ext (bind0 B.K0) (fun i => (s.tmp i).asQ) fun v g => bif boundSelf B.K0 g then .ret v else .fail).Sel s.ent v) : IV B (p.st v).n (p.st v) a w := by
  obtain ⟨v', g, h1, pp⟩ := Pat_ok h.rep h.zero (uf := fun i => a.tmps.getD i undef) (fun i => asQ_of (h.tmps i)) hs
  cases hb : boundSelf B.K0 g with
  | false => rw [hb] at h1; exact h1.elim
  | true =>
    rw [hb] at h1
    cases h1
    have hX : HidIn B.X B.X s.ent μ g := ⟨fun _ h => h, fun _ h => .inl h⟩
    refine ⟨Nat.succ_pos _, patA p, muG μ g, pp.rep _ hX, fun k => ?_, h.size, h.defers, rfl, fun i hi => ?_, h.fr.pat pp hb⟩
    · have := slots_tmp (f := fun i => a.tmps.getD i undef) (pp.slots _ hX) k
      exact this
    · cases hp : patA p i with
      | false => rfl
      | true =>
        unfold patA at hp
        simp only [Bool.and_eq_true, blt_iff, ble_iff, Pat.st] at hp hi
        omega
end Vi

set_option autoImplicit false
set_option linter.unusedSectionVars false
namespace Vi
open Go

/-! ### What an operation reads -/

def Tree.SelL {α : Type} (h : Nat → Entry) : Tree α → List Nat → α → List Nat → Prop
  | .ret a, l, r, l' => a = r ∧ l = l'
  | .fail, _, _, _ => False
  | .need p k, l, r, l' => p ∧ k.SelL h l r l'
  | .br b x y, l, r, l' => bif b then x.SelL h l r l' else y.SelL h l r l'
  | .get id k, l, r, l' => (k (h id)).SelL h (id :: l) r l'

theorem Tree.sell_of_wpl {α : Type} {h : Nat → Entry} {K : α → List Nat → Prop} : ∀ {t : Tree α} {l : List Nat}, t.wpl h l K → ∃ r l', t.SelL h l r l' ∧ K r l'
  | .ret a, l, k => ⟨a, l, ⟨rfl, rfl⟩, k⟩
  | .fail, _, k => k.elim
  | .need _ t, l, k => let ⟨x, l', h1, h2⟩ := Tree.sell_of_wpl (t := t) k.2; ⟨x, l', ⟨k.1, h1⟩, h2⟩
  | .br true t _, _, k => Tree.sell_of_wpl (t := t) k
  | .br false _ t, _, k => Tree.sell_of_wpl (t := t) k
  | .get id t, _, k => Tree.sell_of_wpl (t := t (h id)) k

theorem Tree.SelL.grow {α : Type} {h : Nat → Entry} {i : Nat} : ∀ {t : Tree α} {l l' : List Nat} {r : α}, t.SelL h l r l' → i ∈ l → i ∈ l'
  | .ret _, _, _, _, ⟨_, e⟩, hi => e ▸ hi
  | .fail, _, _, _, k, _ => k.elim
  | .need _ t, _, _, _, k, hi => Tree.SelL.grow (t := t) k.2 hi
  | .br true t _, _, _, _, k, hi => Tree.SelL.grow (t := t) k hi
  | .br false _ t, _, _, _, k, hi => Tree.SelL.grow (t := t) k hi
  | .get id t, _, _, _, k, hi => Tree.SelL.grow (t := t (h id)) k (List.mem_cons_of_mem _ hi)

theorem Tree.SelL.sel {α : Type} {h h' : Nat → Entry} : ∀ {t : Tree α} {l l' : List Nat} {r : α}, t.SelL h l r l' → (∀ i, i ∈ l' → h' i = h i) → t.Sel h' r
  | .ret _, _, _, _, ⟨e, _⟩, _ => e
  | .fail, _, _, _, k, _ => k.elim
  | .need _ t, _, _, _, k, hi => ⟨k.1, Tree.SelL.sel (t := t) k.2 hi⟩
  | .br true t _, _, _, _, k, hi => Tree.SelL.sel (t := t) k hi
  | .br false _ t, _, _, _, k, hi => Tree.SelL.sel (t := t) k hi
  | .get id t, l, l', r, k, hi => by
    have e := hi id (Tree.SelL.grow (t := t (h id)) k (List.mem_cons_self ..))
    show (t (h' id)).Sel h' r
    rw [e]
    exact Tree.SelL.sel (t := t (h id)) k hi

theorem tmpsL_mem {t : Nat} : ∀ {l : List Operand}, .tmp t ∈ l → t ∈ tmpsL l
  | x :: l, h => by
    rcases List.mem_cons.1 h with h | h
    · subst h; exact List.mem_cons_self ..
    · have := tmpsL_mem h
      cases x <;> simp only [tmpsL] <;> first | exact List.mem_cons_of_mem _ this | exact this

theorem opd_congr {s s' : Nat → PV} {l : List Operand} (h : ∀ t, t ∈ tmpsL l → s t = s' t) {x : Operand} (hx : x ∈ l) : opd s x = opd s' x := by
  cases x with
  | tmp t => exact h t (tmpsL_mem hx)
  | _ => rfl

theorem stepOp_congr (cx : Cx) (tr : Nat) (op : Op) (n : Nat) {s s' : Nat → PV} (h : ∀ t, t ∈ tmpsL op.operands.toList → s t = s' t) : stepOp cx tr op s n = stepOp cx tr op s' n := by
  have key : ∀ x, x ∈ op.operands.toList → opd s x = opd s' x := fun x hx => opd_congr h hx
  have keyQ : ∀ x, x ∈ op.operands.toList → opq cx s x = opq cx s' x := fun x hx => by
    have := key x hx
    cases x <;> first | rfl | (unfold opq; simp only; rw [this])
  clear h
  cases op <;> simp only [Op.operands] at key keyQ <;> first
    | rfl
    | (simp only [stepOp, key, keyQ, List.mem_cons, List.mem_singleton, true_or, or_true]; done)
    | skip
  case build t ps =>
    simp only [stepOp]
    congr 1
    refine List.map_congr_left fun p hp => ?_
    rw [keyQ p.2 (by simp only [List.mem_map]; exact ⟨p, hp, rfl⟩)]
  case buildSlice t len ps =>
    have e : (ps.toList.map fun p => (p.1, opq cx s p.2)) = ps.toList.map fun p => (p.1, opq cx s' p.2) := by
      refine List.map_congr_left fun p hp => ?_
      rw [keyQ p.2 (by simp only [List.mem_map]; exact ⟨p, hp, rfl⟩)]
    simp only [stepOp, e]
  case makeFunc fn first caps =>
    have h1 : (first.toList.map fun x => opq cx s x) = first.toList.map fun x => opq cx s' x := List.map_congr_left fun x hx => keyQ x (by simp at hx ⊢; exact .inl hx)
    have h2 : (caps.toList.map fun x => opq cx s x) = caps.toList.map fun x => opq cx s' x := List.map_congr_left fun x hx => keyQ x (by simp at hx ⊢; exact .inr hx)
    cases fn <;> simp only [stepOp, h1, h2]
  case slice t x lo hi m =>
    have h1 : ∀ d, bnd s d lo = bnd s' d lo := fun d => by
      cases lo with
      | none => rfl
      | some y => simp only [bnd]; rw [key y (by simp)]
    have h2 : ∀ d, bnd s d hi = bnd s' d hi := fun d => by
      cases hi with
      | none => rfl
      | some y => simp only [bnd]; rw [key y (by simp)]
    simp only [stepOp, sliceN, sliceO1, h1, h2]
    rw [keyQ x (by simp)]
  case call c =>
    have h1 : (c.args.toList.map fun x => opq cx s x) = c.args.toList.map fun x => opq cx s' x := List.map_congr_left fun x hx => keyQ x (by unfold Call.operands; simp at hx ⊢; exact .inr hx)
    simp only [stepOp, h1]
    cases hc : c.callee with
    | value f =>
      simp only
      rw [keyQ f (by unfold Call.operands; rw [hc]; simp)]
    | _ => rfl

/-! ### A run in the order of the text -/

structure Rec where
  o : Oper
  r : Out
  L : List Nat
  on : Bool

def Rec.fp (x : Rec) : Fp := ⟨x.L, x.r.u.map (·.1)⟩

def isB (T : Nat → PV) (d : Nat) (b : Bool) : Prop := T d = .one (.ce (.v .bool b))

def GuardOk (ops : Array Oper) (o : Oper) (on : Bool) (T : Nat → PV) : Prop :=
  match o.guard with
  | none => on = true
  | some (j, want) => ∃ (d : Nat), dstOf ops j = some d ∧ ((∃ b : Bool, isB T d b ∧ on = (b == want)) ∨ (T d = .tup [] ∧ on = false))

def RecOk (cx : Cx) (ops : Array Oper) (n : Nat) (x : Rec) (T : Nat → PV) (H : Nat → Entry) : Prop :=
  GuardOk ops x.o x.on T ∧ (x.on = true → (stepOp cx x.o.type x.o.op T n).SelL H [] x.r x.L) ∧ (x.on = false → x.r = ⟨.tup [], []⟩)

def applyT (T : Nat → PV) (x : Rec) (t : Nat) : PV := if x.o.dst = some t then x.r.d else T t
def applyH (H : Nat → Entry) (x : Rec) : Nat → Entry := updH x.r.u H

inductive Run (cx : Cx) (ops : Array Oper) : List Rec → Nat → (Nat → PV) → (Nat → Entry) → (Nat → PV) → (Nat → Entry) → Prop where
  | nil (n : Nat) (T : Nat → PV) (H : Nat → Entry) : Run cx ops [] n T H T H
  | cons (x : Rec) (xs : List Rec) (n : Nat) (T T' : Nat → PV) (H H' : Nat → Entry) : RecOk cx ops n x T H → Run cx ops xs (n + stride) (applyT T x) (applyH H x) T' H' → Run cx ops (x :: xs) n T H T' H'

theorem put_tmp (s : St) (x : Rec) : (s.put x.o.dst x.r).tmp = applyT s.tmp x := by
  funext t
  unfold applyT
  cases hd : x.o.dst with
  | none => rfl
  | some d =>
    simp only [St.tmp, St.put, find]
    by_cases ht : t = d
    · subst ht; rw [Nat.beq_refl, cond_true, if_pos rfl]
    · rw [beq_false ht, cond_false, if_neg (fun e => ht (Option.some.inj e).symm)]

theorem lit_tmp (s : St) (d : Nat) (b : Bool) (h : isB s.tmp d b) : (s.lit d b).tmp = s.tmp := by
  funext t
  unfold isB at h
  simp only [St.tmp, St.lit, find]
  by_cases ht : t = d
  · subst ht; rw [Nat.beq_refl, cond_true]; exact h.symm
  · rw [beq_false ht, cond_false]

theorem gstepL_rec {cx : Cx} {ops : Array Oper} {o : Oper} {n : Nat} {s : St} {K : St → Fp → Prop} (h : gstepL cx ops o n s K) :
    ∃ (x : Rec) (s' : St), x.o = o ∧ RecOk cx ops n x s.tmp s.ent ∧ s'.tmp = applyT s.tmp x ∧ s'.ent = applyH s.ent x ∧ K s' x.fp := by
  unfold gstepL at h
  split at h
  · rename_i hg
    obtain ⟨r, l, h1, h2⟩ := Tree.sell_of_wpl h
    exact ⟨⟨o, r, l, true⟩, s.put o.dst r, rfl, ⟨by unfold GuardOk; rw [hg], fun _ => h1, fun e => by cases e⟩, put_tmp s ⟨o, r, l, true⟩, St.put_ent s o.dst r, h2⟩
  · rename_i j want hg
    split at h
    · exact h.elim
    · rename_i d hj
      split at h
      · rename_i b hb
        have on (b' : Bool) (e : b = b') (h : ((stepOp cx o.type o.op (s.lit d b').tmp n).wpl s.ent [] fun r l => K ((s.lit d b').put o.dst r) (fpOf r l))) (hw : want = b') :
            ∃ (x : Rec) (s' : St), x.o = o ∧ RecOk cx ops n x s.tmp s.ent ∧ s'.tmp = applyT s.tmp x ∧ s'.ent = applyH s.ent x ∧ K s' x.fp := by
          subst e
          obtain ⟨r, l, h1, h2⟩ := Tree.sell_of_wpl h
          have hl := lit_tmp s d b hb
          rw [hl] at h1
          refine ⟨⟨o, r, l, true⟩, (s.lit d b).put o.dst r, rfl, ⟨?_, fun _ => h1, fun e => by cases e⟩, by rw [put_tmp (s.lit d b) ⟨o, r, l, true⟩, hl], St.put_ent (s.lit d b) o.dst r, h2⟩
          unfold GuardOk
          rw [hg]
          exact ⟨d, hj, .inl ⟨b, hb, by rw [hw]; cases b <;> rfl⟩⟩
        have off (b' : Bool) (e : b = b') (h : K ((s.lit d b').put o.dst ⟨.tup [], []⟩) ⟨[], []⟩) (hw : want = !b') :
            ∃ (x : Rec) (s' : St), x.o = o ∧ RecOk cx ops n x s.tmp s.ent ∧ s'.tmp = applyT s.tmp x ∧ s'.ent = applyH s.ent x ∧ K s' x.fp := by
          subst e
          have hl := lit_tmp s d b hb
          refine ⟨⟨o, ⟨.tup [], []⟩, [], false⟩, (s.lit d b).put o.dst ⟨.tup [], []⟩, rfl, ⟨?_, (fun e => by cases e), fun _ => rfl⟩, by rw [put_tmp (s.lit d b) ⟨o, ⟨.tup [], []⟩, [], false⟩, hl], St.put_ent (s.lit d b) o.dst ⟨.tup [], []⟩, h⟩
          unfold GuardOk
          rw [hg]
          exact ⟨d, hj, .inl ⟨b, hb, by rw [hw]; cases b <;> rfl⟩⟩
        cases b with
        | true =>
          cases want with
          | true => exact on true rfl h rfl
          | false => exact off true rfl h rfl
        | false =>
          cases want with
          | true => exact off false rfl h rfl
          | false => exact on false rfl h rfl
      · rename_i hb
        refine ⟨⟨o, ⟨.tup [], []⟩, [], false⟩, s.put o.dst ⟨.tup [], []⟩, rfl, ⟨?_, (fun e => by cases e), fun _ => rfl⟩, put_tmp s ⟨o, ⟨.tup [], []⟩, [], false⟩, St.put_ent s o.dst ⟨.tup [], []⟩, h⟩
        unfold GuardOk
        rw [hg]
        exact ⟨d, hj, .inr ⟨hb, rfl⟩⟩
      · exact h.elim

theorem drawOps_run {cx : Cx} {ops : Array Oper} : ∀ {os : List Oper} {n : Nat} {s : St} {K : St → List Fp → Prop}, drawOps cx ops os n s K →
    ∃ (xs : List Rec) (s' : St), xs.map (·.o) = os ∧ Run cx ops xs n s.tmp s.ent s'.tmp s'.ent ∧ s'.n = n + os.length * stride ∧ K s' (xs.map Rec.fp)
  | [], n, s, K, h => ⟨[], { s with n := n }, rfl, .nil n s.tmp s.ent, by simp, h⟩
  | o :: os, n, s, K, h => by
    obtain ⟨x, s1, rfl, h1, h2, h3, h4⟩ := gstepL_rec h
    obtain ⟨xs, s2, k1, k2, k3, k4⟩ := drawOps_run h4
    refine ⟨x :: xs, s2, by simp [k1], ?_, ?_, k4⟩
    · rw [h2, h3] at k2
      exact .cons x xs n _ _ _ _ h1 k2
    · rw [k3, List.length_cons, Nat.succ_mul]; omega

/-! ### Some of the operations are done -/

def tmpOf (D : Nat → Bool) : Nat → List Rec → (Nat → PV) → Nat → PV
  | _, [], T => T
  | i, x :: xs, T => tmpOf D (i + 1) xs (bif D i then applyT T x else T)
def entOf (D : Nat → Bool) : Nat → List Rec → (Nat → Entry) → Nat → Entry
  | _, [], H => H
  | i, x :: xs, H => entOf D (i + 1) xs (bif D i then applyH H x else H)

theorem tmpOf_congr {D D' : Nat → Bool} {t : Nat} : ∀ {xs : List Rec} {i : Nat} {T T' : Nat → PV}, T t = T' t → (∀ k x, xs[k]? = some x → D (i + k) ≠ D' (i + k) → x.o.dst ≠ some t) → tmpOf D i xs T t = tmpOf D' i xs T' t
  | [], _, _, _, h, _ => h
  | x :: xs, i, T, T', h, hd => by
    unfold tmpOf
    refine tmpOf_congr ?_ fun k y hk hne => hd (k + 1) y (by simpa using hk) (by rw [show i + (k + 1) = i + 1 + k by omega]; exact hne)
    have h0 := hd 0 x rfl
    simp only [Nat.add_zero] at h0
    cases h1 : D i with
    | true =>
      cases h2 : D' i with
      | true => simp only [cond_true, applyT]; rw [h]
      | false =>
        simp only [cond_true, cond_false, applyT]
        rw [if_neg (h0 (by rw [h1, h2]; simp))]; exact h
    | false =>
      cases h2 : D' i with
      | true =>
        simp only [cond_true, cond_false, applyT]
        rw [if_neg (h0 (by rw [h1, h2]; simp))]; exact h
      | false => simpa using h

theorem find_skip {β : Type} {d : β} {l : List (Nat × β)} {i : Nat} (h : i ∉ l.map (·.1)) : find d l i = d :=
  find_none fun x hx e => h (List.mem_map.2 ⟨x, hx, e⟩)

theorem find_hit {β : Type} {d d' : β} : ∀ {l : List (Nat × β)} {i : Nat}, i ∈ l.map (·.1) → find d l i = find d' l i
  | (k, x) :: l, i, h => by
    simp only [find]
    cases hb : Nat.beq i k with
    | true => rfl
    | false =>
      simp only [List.map_cons, List.mem_cons] at h
      rcases h with h | h
      · rw [h, Nat.beq_refl] at hb; cases hb
      · exact find_hit h

theorem entOf_congr {D D' : Nat → Bool} {id : Nat} : ∀ {xs : List Rec} {i : Nat} {T T' : Nat → Entry}, T id = T' id → (∀ k x, xs[k]? = some x → D (i + k) ≠ D' (i + k) → id ∉ x.fp.w) → entOf D i xs T id = entOf D' i xs T' id
  | [], _, _, _, h, _ => h
  | x :: xs, i, T, T', h, hd => by
    unfold entOf
    refine entOf_congr ?_ fun k y hk hne => hd (k + 1) y (by simpa using hk) (by rw [show i + (k + 1) = i + 1 + k by omega]; exact hne)
    have h0 := hd 0 x rfl
    simp only [Nat.add_zero] at h0
    cases h1 : D i with
    | true =>
      cases h2 : D' i with
      | true => simp only [cond_true, applyH, updH]; rw [h]
      | false =>
        simp only [cond_true, cond_false, applyH, updH]
        rw [find_skip (h0 (by rw [h1, h2]; simp))]; exact h
    | false =>
      cases h2 : D' i with
      | true =>
        simp only [cond_true, cond_false, applyH, updH]
        rw [find_skip (h0 (by rw [h1, h2]; simp))]; exact h
      | false => simpa using h

theorem tmpOf_none : ∀ (xs : List Rec) (i : Nat) (T : Nat → PV), tmpOf (fun _ => false) i xs T = T := by
  intro xs
  induction xs with
  | nil => intro i T; rfl
  | cons x xs ih => intro i T; unfold tmpOf; exact ih _ _
theorem entOf_none : ∀ (xs : List Rec) (i : Nat) (T : Nat → Entry), entOf (fun _ => false) i xs T = T := by
  intro xs
  induction xs with
  | nil => intro i T; rfl
  | cons x xs ih => intro i T; unfold entOf; exact ih _ _

/-- The last that writes. -/
theorem tmpOf_last {D : Nat → Bool} {t : Nat} (xs : List Rec) : ∀ {i k : Nat} {x : Rec} {T : Nat → PV}, xs[k]? = some x → D (i + k) = true → x.o.dst = some t → (∀ j y, k < j → xs[j]? = some y → D (i + j) = true → y.o.dst ≠ some t) → tmpOf D i xs T t = x.r.d := by
  induction xs with
  | nil => intro i k x T hx; simp at hx
  | cons x xs ih =>
    intro i k y T hx hD hd hl
    cases k with
    | zero =>
      simp only [List.getElem?_cons_zero, Option.some.injEq] at hx
      subst hx
      have hD' : D i = true := hD
      simp only [tmpOf]
      rw [hD', cond_true]
      have e : tmpOf D (i + 1) xs (applyT T x) t = tmpOf (fun _ => false) (i + 1) xs (applyT T x) t := tmpOf_congr rfl fun k y hk hne => hl (k + 1) y (Nat.succ_pos _) (by simpa using hk) (by
        rw [show i + (k + 1) = i + 1 + k by omega]
        cases h : D (i + 1 + k) with
        | true => rfl
        | false => exact absurd h hne)
      rw [e, tmpOf_none, applyT, if_pos hd]
    | succ k =>
      simp only [tmpOf]
      exact ih (i := i + 1) (k := k) (by simpa using hx) (by rw [show i + 1 + k = i + (k + 1) by omega]; exact hD) hd fun j z hj hz hDz => hl (j + 1) z (by omega) (by simpa using hz) (by rw [show i + (j + 1) = i + 1 + j by omega]; exact hDz)

theorem entOf_last {D : Nat → Bool} {t : Nat} {d : Entry} (xs : List Rec) : ∀ {i k : Nat} {x : Rec} {T : Nat → Entry}, xs[k]? = some x → D (i + k) = true → t ∈ x.fp.w → (∀ j y, k < j → xs[j]? = some y → D (i + j) = true → t ∉ y.fp.w) → entOf D i xs T t = find d x.r.u t := by
  induction xs with
  | nil => intro i k x T hx; simp at hx
  | cons x xs ih =>
    intro i k y T hx hD hd hl
    cases k with
    | zero =>
      simp only [List.getElem?_cons_zero, Option.some.injEq] at hx
      subst hx
      have hD' : D i = true := hD
      simp only [entOf]
      rw [hD', cond_true]
      have e : entOf D (i + 1) xs (applyH T x) t = entOf (fun _ => false) (i + 1) xs (applyH T x) t := entOf_congr rfl fun k y hk hne => hl (k + 1) y (Nat.succ_pos _) (by simpa using hk) (by
        rw [show i + (k + 1) = i + 1 + k by omega]
        cases h : D (i + 1 + k) with
        | true => rfl
        | false => exact absurd h hne)
      rw [e, entOf_none, applyH, updH]
      exact find_hit hd
    | succ k =>
      simp only [entOf]
      exact ih (i := i + 1) (k := k) (by simpa using hx) (by rw [show i + 1 + k = i + (k + 1) by omega]; exact hD) hd fun j z hj hz hDz => hl (j + 1) z (by omega) (by simpa using hz) (by rw [show i + (j + 1) = i + 1 + j by omega]; exact hDz)

/-- The run in the text's order, by the canonical states. -/
theorem Run.at {cx : Cx} {ops : Array Oper} {xs : List Rec} {n : Nat} {T T' : Nat → PV} {H H' : Nat → Entry} (h : Run cx ops xs n T H T' H') :
    ∀ (i k : Nat) (x : Rec), xs[k]? = some x → RecOk cx ops (n + k * stride) x (tmpOf (fun j => Nat.blt j (i + k)) i xs T) (entOf (fun j => Nat.blt j (i + k)) i xs H) := by
  induction h with
  | nil n T H => intro i k x hx; simp at hx
  | cons x xs n T T' H H' h1 _ ih =>
    intro i k y hy
    cases k with
    | zero =>
      simp only [List.getElem?_cons_zero, Option.some.injEq] at hy
      subst hy
      have e1 : ∀ t, tmpOf (fun j => Nat.blt j (i + 0)) i (x :: xs) T t = T t := fun t => by
        rw [tmpOf_congr (D' := fun _ => false) (T' := T) rfl fun k y _ hne => absurd (by
          simp only [Nat.add_zero]
          cases hb : Nat.blt (i + k) i with
          | false => rfl
          | true => have := blt_iff.1 hb; omega) hne, tmpOf_none]
      have e2 : ∀ t, entOf (fun j => Nat.blt j (i + 0)) i (x :: xs) H t = H t := fun t => by
        rw [entOf_congr (D' := fun _ => false) (T' := H) rfl fun k y _ hne => absurd (by
          simp only [Nat.add_zero]
          cases hb : Nat.blt (i + k) i with
          | false => rfl
          | true => have := blt_iff.1 hb; omega) hne, entOf_none]
      rw [funext e1, funext e2, Nat.zero_mul, Nat.add_zero]
      exact h1
    | succ k =>
      have hb : Nat.blt i (i + (k + 1)) = true := blt_iff.2 (by omega)
      simp only [tmpOf, entOf, hb, cond_true]
      have := ih (i + 1) k y (by simpa using hy)
      rw [show i + 1 + k = i + (k + 1) by omega, show n + stride + k * stride = n + (k + 1) * stride by rw [Nat.succ_mul]; omega] at this
      exact this

theorem Run.end {cx : Cx} {ops : Array Oper} {xs : List Rec} {n : Nat} {T T' : Nat → PV} {H H' : Nat → Entry} (h : Run cx ops xs n T H T' H') (i : Nat) : T' = tmpOf (fun _ => true) i xs T ∧ H' = entOf (fun _ => true) i xs H := by
  induction h generalizing i with
  | nil n T H => exact ⟨rfl, rfl⟩
  | cons x xs n T T' H H' _ _ ih => simp only [tmpOf, entOf, cond_true]; exact ih (i + 1)
end Vi

set_option autoImplicit false
set_option linter.unusedSectionVars false
namespace Vi
open Go

theorem hasL_iff {i : Nat} : ∀ {l : List Nat}, hasL i l = true ↔ i ∈ l
  | [] => by simp [hasL]
  | k :: r => by
    simp only [hasL, Bool.or_eq_true, List.mem_cons, hasL_iff (l := r)]
    constructor
    · rintro (h | h)
      · exact .inl (Nat.eq_of_beq_eq_true h)
      · exact .inr h
    · rintro (h | h)
      · subst h; exact .inl (Nat.beq_refl _)
      · exact .inr h

theorem addL_mem {x i : Nat} {l : List Nat} (h : x ∈ addL i l) : x = i ∨ x ∈ l := by
  unfold addL at h
  cases hb : hasL i l with
  | true => rw [hb] at h; exact .inr h
  | false => rw [hb] at h; exact List.mem_cons.1 h
theorem uniL_mem {x : Nat} : ∀ {a b : List Nat}, x ∈ uniL a b → x ∈ a ∨ x ∈ b
  | [], _, h => .inr h
  | i :: a, b, h => by
    rcases addL_mem h with h | h
    · exact .inl (h ▸ List.mem_cons_self ..)
    · rcases uniL_mem h with h | h
      · exact .inl (List.mem_cons_of_mem _ h)
      · exact .inr h

theorem preE_mem {x : Nat} {ms : List (List Nat)} : ∀ {es : List Edge}, x ∈ preE ms es → ∃ e, e ∈ es ∧ Region.binds .any e = true ∧ (x = e.on ∨ x ∈ ms.getD e.on [])
  | [], h => by cases h
  | e :: es, h => by
    unfold preE at h
    cases hb : Region.binds .any e with
    | true =>
      rw [hb, cond_true] at h
      rcases addL_mem h with h | h
      · exact ⟨e, List.mem_cons_self .., hb, .inl h⟩
      · rcases uniL_mem h with h | h
        · exact ⟨e, List.mem_cons_self .., hb, .inr h⟩
        · obtain ⟨f, h1, h2⟩ := preE_mem h; exact ⟨f, List.mem_cons_of_mem _ h1, h2⟩
    | false =>
      rw [hb, cond_false] at h
      obtain ⟨f, h1, h2⟩ := preE_mem h; exact ⟨f, List.mem_cons_of_mem _ h1, h2⟩

theorem pres_spec : ∀ (os : List Oper) (ms : List (List Nat)), ∃ rest, pres os ms = ms ++ rest ∧ rest.length = os.length ∧ ∀ k o, os[k]? = some o → rest[k]? = some (preE (ms ++ rest.take k) o.after.toList)
  | [], ms => ⟨[], by simp [pres], rfl, fun k o h => by simp at h⟩
  | o :: os, ms => by
    obtain ⟨rest, h1, h2, h3⟩ := pres_spec os (ms ++ [preE ms o.after.toList])
    refine ⟨preE ms o.after.toList :: rest, by simp only [pres]; rw [h1]; simp, by simp [h2], fun k p hk => ?_⟩
    cases k with
    | zero => simp at hk; subst hk; simp
    | succ k =>
      have := h3 k p (by simpa using hk)
      simp only [List.getElem?_cons_succ, List.take_succ_cons]
      rw [this]; simp

theorem edges_lt : ∀ {os : List Oper} {i : Nat}, edgesOk i os = true → ∀ k o e, os[k]? = some o → e ∈ o.after → Region.binds .any e = true → e.on < i + k
  | [], _, _, k, o, e, hk, _, _ => by simp at hk
  | o :: os, i, h, k, p, e, hk, he, hb => by
    simp only [edgesOk, Bool.and_eq_true, List.all_eq_true] at h
    cases k with
    | zero =>
      simp at hk; subst hk
      have := h.1 e (by simpa using he)
      rw [hb] at this
      simpa [blt_iff] using this
    | succ k =>
      have := edges_lt h.2 k p e (by simpa using hk) he hb
      omega

/-- Done operations have all that comes before them. -/
def Closed (ops : Array Oper) (D : Nat → Bool) : Prop := ∀ j o e, D j = true → ops[j]? = some o → e ∈ o.after → Region.binds .any e = true → D e.on = true

theorem pre_closed {ops : Array Oper} {D : Nat → Bool} (hD : Closed ops D) (he : edgesOk 0 ops.toList = true) : ∀ (j : Nat) (o : Oper) (m : List Nat), ops[j]? = some o → (pres ops.toList [])[j]? = some m →
    (∀ e, e ∈ o.after → Region.binds .any e = true → D e.on = true) → ∀ x, x ∈ m → D x = true := by
  obtain ⟨rest, h1, h2, h3⟩ := pres_spec ops.toList []
  intro j
  induction j using Nat.strongRecOn with
  | _ j ih =>
    intro o m ho hm hc x hx
    rw [h1, List.nil_append] at hm
    have h4 := h3 j o (by simpa using ho)
    rw [hm] at h4
    cases h4
    obtain ⟨e, k1, k2, k3⟩ := preE_mem hx
    have k1' : e ∈ o.after := by simpa using k1
    have hlt := edges_lt he j o e (by simpa using ho) k1' k2
    rcases k3 with k3 | k3
    · rw [k3]; exact hc e k1' k2
    · rw [List.nil_append, List.getD_eq_getElem?_getD, List.getElem?_take] at k3
      rw [if_pos (by omega)] at k3
      cases hr : rest[e.on]? with
      | none => rw [hr] at k3; cases k3
      | some m' =>
        rw [hr] at k3
        have hl : e.on < ops.size := by
          have := (List.getElem?_eq_some_iff.1 hr).1
          rw [h2] at this; simpa using this
        have hop : ops[e.on]? = some ops[e.on] := Array.getElem?_eq_getElem hl
        refine ih e.on (by omega) ops[e.on] m' hop (by rw [h1, List.nil_append]; exact hr) (fun f hf hb => ?_) x k3
        exact hD e.on _ f (hc e k1' k2) hop hf hb

theorem indepTo_spec {ops : Array Oper} {x : Oper} {fx : Fp} {i : Nat} : ∀ {ys : List Oper} {fs : List Fp} {ms : List (List Nat)}, indepTo ops x fx i ys fs ms = true →
    ∀ (k : Nat) (y : Oper) (fy : Fp) (m : List Nat), ys[k]? = some y → fs[k]? = some fy → ms[k]? = some m → i ∈ m ∨ (apartO ops x y = true ∧ fx.free fy = true)
  | [], _, _, _, k, y, _, _, h, _, _ => by simp at h
  | _ :: _, [], _, _, k, _, fy, _, _, h, _ => by simp at h
  | _ :: _, _ :: _, [], _, k, _, _, m, _, _, h => by simp at h
  | y :: ys, fy :: fs, m :: ms, h, k, y', fy', m', h1, h2, h3 => by
    simp only [indepTo, Bool.and_eq_true, Bool.or_eq_true] at h
    cases k with
    | zero =>
      simp at h1 h2 h3; subst h1; subst h2; subst h3
      exact h.1.imp hasL_iff.1 id
    | succ k => exact indepTo_spec h.2 k y' fy' m' (by simpa using h1) (by simpa using h2) (by simpa using h3)

theorem indepAll_spec {ops : Array Oper} : ∀ {ys : List Oper} {fs : List Fp} {ms : List (List Nat)} {i0 : Nat}, indepAll ops i0 ys fs ms = true →
    ∀ (i j : Nat) (x : Oper) (fx : Fp) (y : Oper) (fy : Fp) (m : List Nat), i < j → ys[i]? = some x → fs[i]? = some fx → ys[j]? = some y → fs[j]? = some fy → ms[j]? = some m → i0 + i ∈ m ∨ (apartO ops x y = true ∧ fx.free fy = true)
  | [], _, _, _, _, i, j, x, _, _, _, _, _, h, _, _, _, _ => by simp at h
  | _ :: _, [], _, _, _, i, j, _, fx, _, _, _, _, _, h, _, _, _ => by simp at h
  | _ :: _, _ :: _, [], _, _, i, j, _, _, _, _, m, _, _, _, _, _, h => by simp at h
  | x :: ys, fx :: fs, m :: ms, i0, h, i, j, x', fx', y, fy, m', hij, h1, h2, h3, h4, h5 => by
    simp only [indepAll, Bool.and_eq_true] at h
    obtain ⟨j, rfl⟩ : ∃ j', j = j' + 1 := ⟨j - 1, by omega⟩
    cases i with
    | zero =>
      simp at h1 h2; subst h1; subst h2
      exact indepTo_spec h.1 j y fy m' (by simpa using h3) (by simpa using h4) (by simpa using h5)
    | succ i =>
      have := indepAll_spec h.2 i j x' fx' y fy m' (by omega) (by simpa using h1) (by simpa using h2) (by simpa using h3) (by simpa using h4) (by simpa using h5)
      rwa [show i0 + 1 + i = i0 + (i + 1) by omega] at this

theorem disj_spec {a b : List Nat} (h : disj a b = true) {i : Nat} (ha : i ∈ a) : i ∉ b := fun hb => by
  unfold disj at h
  rw [List.all_eq_true] at h
  have := h i ha
  rw [hasL_iff.2 hb] at this; cases this

def cntF (D : Nat → Bool) : Nat → Nat
  | 0 => 0
  | m + 1 => cntF D m + (bif D m then 0 else 1)
theorem cntF_zero {D : Nat → Bool} : ∀ {m : Nat}, cntF D m = 0 → ∀ i, i < m → D i = true
  | 0, _, i, h => by omega
  | m + 1, h, i, hi => by
    simp only [cntF] at h
    by_cases e : i = m
    · subst e
      cases hd : D i with
      | true => rfl
      | false => rw [hd] at h; simp at h
    · exact cntF_zero (m := m) (by omega) i (by omega)
theorem cntF_congr {D D' : Nat → Bool} : ∀ {m : Nat}, (∀ j, j < m → D' j = D j) → cntF D' m = cntF D m
  | 0, _ => rfl
  | m + 1, h => by simp only [cntF]; rw [h m (by omega), cntF_congr (m := m) fun j hj => h j (by omega)]
theorem cntF_set {D D' : Nat → Bool} {i : Nat} (h0 : D i = false) (h1 : D' i = true) (hn : ∀ j, j ≠ i → D' j = D j) : ∀ {m : Nat}, i < m → cntF D' m + 1 = cntF D m
  | 0, h => by omega
  | m + 1, h => by
    simp only [cntF]
    by_cases e : i = m
    · subst e
      rw [h0, h1, cntF_congr fun j hj => hn j (by omega)]; simp
    · have := cntF_set h0 h1 hn (m := m) (by omega)
      rw [hn m (by omega)]; omega
end Vi

set_option autoImplicit false
set_option linter.unusedSectionVars false
namespace Vi
open Go

structure Ind (ops : Array Oper) (x y : Rec) : Prop where
  a : ∀ d, x.o.dst = some d → d ∉ looksO ops y.o
  b : ∀ d, y.o.dst = some d → d ∉ looksO ops x.o
  c : ∀ d, x.o.dst = some d → y.o.dst ≠ some d
  d : ∀ i, i ∈ x.fp.w → i ∉ y.fp.r
  e : ∀ i, i ∈ x.fp.w → i ∉ y.fp.w
  f : ∀ i, i ∈ y.fp.w → i ∉ x.fp.r

theorem Ind.symm {ops : Array Oper} {x y : Rec} (h : Ind ops x y) : Ind ops y x :=
  ⟨h.b, h.a, fun d h1 h2 => h.c d h2 h1, h.f, fun i h1 h2 => h.e i h2 h1, h.d⟩

theorem dstNot_spec {o : Option Nat} {l : List Nat} (h : dstNot o l = true) (d : Nat) (hd : o = some d) : d ∉ l := fun hm => by
  subst hd
  simp only [dstNot] at h
  rw [hasL_iff.2 hm] at h; cases h

theorem ind_of {ops : Array Oper} {x y : Rec} (h1 : apartO ops x.o y.o = true) (h2 : x.fp.free y.fp = true) : Ind ops x y := by
  simp only [apartO, Bool.and_eq_true] at h1
  simp only [Fp.free, Bool.and_eq_true] at h2
  refine ⟨dstNot_spec h1.1.1, dstNot_spec h1.1.2, fun d hd he => ?_, fun i hi => disj_spec h2.1.1 hi, fun i hi => disj_spec h2.1.2 hi, fun i hi hr => disj_spec h2.2 hr hi⟩
  have := h1.2
  rw [hd, he] at this
  simp [dstNe] at this

theorem rec_move {cx : Cx} {ops : Array Oper} {n : Nat} {x : Rec} {T T' : Nat → PV} {H H' : Nat → Entry} (h : RecOk cx ops n x T H) (hT : ∀ t, t ∈ looksO ops x.o → T' t = T t) (hH : ∀ i, i ∈ x.L → H' i = H i) :
    GuardOk ops x.o x.on T' ∧ (x.on = true → (stepOp cx x.o.type x.o.op T' n).Sel H' x.r) ∧ (x.on = false → x.r = ⟨.tup [], []⟩) := by
  refine ⟨?_, fun ho => ?_, h.2.2⟩
  · have hg := h.1
    unfold GuardOk at *
    split
    · rename_i h0; rw [h0] at hg; exact hg
    · rename_i j want h0
      rw [h0] at hg
      obtain ⟨d, h1, h2⟩ := hg
      refine ⟨d, h1, ?_⟩
      unfold isB at *
      rw [hT d (by unfold looksO; rw [h0]; simp only; rw [h1]; exact List.mem_append.2 (.inl (List.mem_cons_self ..)))]
      exact h2
  · have := h.2.1 ho
    have hs := Tree.SelL.sel this hH
    rw [stepOp_congr cx x.o.type x.o.op n (s' := T) fun t ht => hT t (by unfold looksO; exact List.mem_append.2 (.inr ht))]
    exact hs

variable {cx : Cx} {P : Program} {ops : Array Oper} {B : Base} {xs : List Rec} {n0 : Nat} {T0 : Nat → PV} {H0 : Nat → Entry}

def UD (ops : Array Oper) (n0 : Nat) (D : Nat → Bool) (i : Nat) : Prop := (∃ k, k < ops.size ∧ D k = false ∧ n0 + k * stride ≤ i ∧ i < n0 + (k + 1) * stride) ∨ n0 + ops.size * stride ≤ i

theorem stride_step {k j i n0 : Nat} (h : k ≠ j) (h1 : n0 + k * stride ≤ i) (h2 : i < n0 + (k + 1) * stride) : ¬ (n0 + j * stride ≤ i ∧ i < n0 + (j + 1) * stride) := by
  unfold stride at *
  omega

theorem any_ok (hc : CxOk cx P) (he : EqOk cx P) (hf : FsOk cx P) (hG : GOk cx.gl B.X B.w0 B.H0 B.μ0) (hn0 : 0 < n0) (hmap : xs.map (·.o) = ops.toList) (hd : dstsOk B.N ops.toList = true) (hedge : edgesOk 0 ops.toList = true) (hind : indep ops (xs.map Rec.fp) = true)
    (hrec : ∀ (k : Nat) (x : Rec), xs[k]? = some x → RecOk cx ops (n0 + k * stride) x (tmpOf (fun j => Nat.blt j k) 0 xs T0) (entOf (fun j => Nat.blt j k) 0 xs H0))
    {Q : Exit → Act → World → Prop}
    (hQ : ∀ s a w A μ, s.tmp = tmpOf (fun _ => true) 0 xs T0 → s.ent = entOf (fun _ => true) 0 xs H0 → Inv B (fun i => n0 + ops.size * stride ≤ i) s a w A μ → Q .normal a w) :
    ∀ (fuel : Nat) (listed : Array Bool) (s : St) (a : Act) (w : World) (A : Nat → Bool) (μ : Nat → Value), listed.size = ops.size → Closed ops (fun i => listed.getD i false) → cntF (fun i => listed.getD i false) ops.size ≤ fuel →
      s.tmp = tmpOf (fun i => listed.getD i false) 0 xs T0 → s.ent = entOf (fun i => listed.getD i false) 0 xs H0 → Inv B (UD ops n0 (fun i => listed.getD i false)) s a w A μ → wpAny P .any ops Q fuel listed a w := by
  have hop : ∀ (k : Nat) (x : Rec), xs[k]? = some x → ops[k]? = some x.o := fun k x hx => by
    have : (xs.map (·.o))[k]? = some x.o := by rw [List.getElem?_map, hx]; rfl
    rw [hmap] at this; simpa using this
  have hlen : xs.length = ops.size := by have := congrArg List.length hmap; simpa using this
  have hM : ∀ k, k < ops.size → ∃ m, (pres ops.toList [])[k]? = some m := fun k hk => by
    obtain ⟨rest, h1, h2, _⟩ := pres_spec ops.toList []
    rw [h1, List.nil_append]
    have : k < rest.length := by rw [h2]; simpa using hk
    exact ⟨_, List.getElem?_eq_getElem this⟩
  have hfull : ∀ (D : Nat → Bool), (∀ i, i < ops.size → D i = true) → tmpOf D 0 xs T0 = tmpOf (fun _ => true) 0 xs T0 ∧ entOf D 0 xs H0 = entOf (fun _ => true) 0 xs H0 := fun D hD => by
    have hk : ∀ (k : Nat) (x : Rec), xs[k]? = some x → D (0 + k) = true := fun k x hx => by
      rw [Nat.zero_add]; exact hD k (by rw [← hlen]; exact (List.getElem?_eq_some_iff.1 hx).1)
    exact ⟨funext fun t => tmpOf_congr rfl fun k x hx hne => absurd (hk k x hx) hne, funext fun t => entOf_congr rfl fun k x hx hne => absurd (hk k x hx) hne⟩
  have fin : ∀ (listed : Array Bool) (s : St) (a : Act) (w : World) (A : Nat → Bool) (μ : Nat → Value), (∀ i, i < ops.size → listed.getD i false = true) → s.tmp = tmpOf (fun i => listed.getD i false) 0 xs T0 → s.ent = entOf (fun i => listed.getD i false) 0 xs H0 →
      Inv B (UD ops n0 (fun i => listed.getD i false)) s a w A μ → Q .normal a w := fun listed s a w A μ hall h1 h2 hi => by
    obtain ⟨e1, e2⟩ := hfull _ hall
    refine hQ s a w A μ (h1.trans e1) (h2.trans e2) ⟨hi.rep, hi.tmps, hi.size, hi.defers, hi.zero, fun i h => hi.unborn i (.inr h), hi.fr⟩
  have done : ∀ (listed : Array Bool), listed.size = ops.size → Region.ready .any ops listed = [] → ∀ i, i < ops.size → listed.getD i false = true := fun listed hsz hr i => by
    induction i using Nat.strongRecOn with
    | _ i ih =>
      intro hi
      cases hl : listed.getD i false with
      | true => rfl
      | false =>
        have : i ∈ Region.ready .any ops listed := mem_ready.2 ⟨by
          rw [Array.getD_eq_getD_getElem?] at hl ⊢
          rw [Array.getElem?_eq_getElem (by omega)] at hl ⊢
          exact hl, ops[i], Array.getElem?_eq_getElem hi, fun e hee hb => by
            have hlt := edges_lt hedge i ops[i] e (by simpa using Array.getElem?_eq_getElem hi) hee hb
            exact ih e.on (by omega) (by omega)⟩
        rw [hr] at this; cases this
  intro fuel
  induction fuel with
  | zero =>
    intro listed s a w A μ hsz hcl hcnt h1 h2 hi
    have hall := cntF_zero (m := ops.size) (D := fun i => listed.getD i false) (by omega)
    refine ⟨?_, fin listed s a w A μ hall h1 h2 hi⟩
    cases hr : Region.ready .any ops listed with
    | nil => rfl
    | cons i r =>
      have hm : i ∈ Region.ready .any ops listed := by rw [hr]; exact List.mem_cons_self ..
      obtain ⟨h3, o, h4, _⟩ := mem_ready.1 hm
      have hlt : i < ops.size := (Array.getElem?_eq_some_iff.1 h4).1
      have h5 := hall i hlt
      simp only [Array.getD_eq_getD_getElem?] at h3 h5
      rw [Array.getElem?_eq_getElem (by omega)] at h3 h5
      simp only [Option.getD_some] at h3 h5
      rw [h3] at h5; cases h5
  | succ fuel ih =>
    intro listed s a w A μ hsz hcl hcnt h1 h2 hi
    refine ⟨fun hr => fin listed s a w A μ (done listed hsz hr) h1 h2 hi, fun i hm => ?_⟩
    obtain ⟨h3, o, h4, h5⟩ := mem_ready.1 hm
    have hlt : i < ops.size := (Array.getElem?_eq_some_iff.1 h4).1
    have hDi : listed.getD i false = false := by
      rw [Array.getD_eq_getD_getElem?] at h3 ⊢
      rw [Array.getElem?_eq_getElem (by omega)] at h3 ⊢
      exact h3
    have hxi : xs[i]? = some xs[i] := List.getElem?_eq_getElem (by omega)
    generalize xs[i] = x at hxi
    have ho := hop i x hxi
    rw [ho] at h4
    cases h4
    -- what is not ordered with it
    have free : ∀ (k : Nat) (y : Rec), xs[k]? = some y → listed.getD k false ≠ Nat.blt k i → Ind ops x y := fun k y hy hne => by
      have hky : k < ops.size := by rw [← hlen]; exact (List.getElem?_eq_some_iff.1 hy).1
      have hfx : (xs.map Rec.fp)[i]? = some x.fp := by rw [List.getElem?_map, hxi]; rfl
      have hfy : (xs.map Rec.fp)[k]? = some y.fp := by rw [List.getElem?_map, hy]; rfl
      have hox : ops.toList[i]? = some x.o := by simpa using ho
      have hoy : ops.toList[k]? = some y.o := by simpa using hop k y hy
      cases hDk : listed.getD k false with
      | true =>
        have hik : i < k := by
          rcases Nat.lt_trichotomy i k with h | h | h
          · exact h
          · subst h; rw [hDi] at hDk; cases hDk
          · rw [hDk, blt_iff.2 h] at hne; exact absurd rfl hne
        obtain ⟨m, hm⟩ := hM k hky
        rcases indepAll_spec hind i k x.o x.fp y.o y.fp m hik hox hfx hoy hfy hm with h | ⟨h, h'⟩
        · rw [Nat.zero_add] at h
          have := pre_closed hcl hedge k y.o m (hop k y hy) hm (fun e hee hb => hcl k y.o e hDk (hop k y hy) hee hb) i h
          rw [hDi] at this; cases this
        · exact ind_of h h'
      | false =>
        have hki : k < i := by
          cases hb : Nat.blt k i with
          | true => exact blt_iff.1 hb
          | false => rw [hDk, hb] at hne; exact absurd rfl hne
        obtain ⟨m, hm⟩ := hM i hlt
        rcases indepAll_spec hind k i y.o y.fp x.o x.fp m hki hoy hfy hox hfx hm with h | ⟨h, h'⟩
        · rw [Nat.zero_add] at h
          have := pre_closed hcl hedge i x.o m ho hm h5 k h
          rw [hDk] at this; cases this
        · exact (ind_of h h').symm
    have hsame : ∀ (k : Nat), listed.getD (0 + k) false ≠ Nat.blt (0 + k) i → listed.getD k false ≠ Nat.blt k i := fun k h => by rwa [Nat.zero_add] at h
    obtain ⟨hg, hsel, hoff⟩ := rec_move (hrec i x hxi) (T' := s.tmp) (H' := s.ent)
      (fun t ht => by rw [h1]; exact tmpOf_congr rfl fun k y hy hne hdst => (free k y hy (hsame k hne)).b t hdst ht)
      (fun id hid => by rw [h2]; exact entOf_congr rfl fun k y hy hne hw => (free k y hy (hsame k hne)).f id hw hid)
    -- afterwards
    have hD' : ∀ j, (listed.setIfInBounds i true).getD j false = if j = i then true else listed.getD j false := fun j => by
      by_cases hji : j = i
      · subst hji
        rw [if_pos rfl, Array.getD_eq_getD_getElem?, Array.getElem?_setIfInBounds]
        simp [show j < listed.size by omega]
      · rw [if_neg hji]; exact getD_set_ne false (Ne.symm hji)
    have hU' : ∀ j, UD ops n0 (fun i' => (listed.setIfInBounds i true).getD i' false) j → UD ops n0 (fun i' => listed.getD i' false) j ∧ ¬ (n0 + i * stride ≤ j ∧ j < n0 + i * stride + stride) := fun j hj => by
      have hs : n0 + i * stride + stride = n0 + (i + 1) * stride := by rw [Nat.succ_mul]; omega
      rw [hs]
      rcases hj with ⟨k, k1, k2, k3, k4⟩ | hj
      · simp only [hD'] at k2
        by_cases hki : k = i
        · rw [if_pos hki] at k2; cases k2
        · rw [if_neg hki] at k2
          exact ⟨.inl ⟨k, k1, k2, k3, k4⟩, stride_step hki k3 k4⟩
      · refine ⟨.inr hj, fun hh => ?_⟩
        have : (i + 1) * stride ≤ ops.size * stride := Nat.mul_le_mul_right _ hlt
        omega
    have hUn : ∀ j, n0 + i * stride ≤ j → j < n0 + i * stride + stride → UD ops n0 (fun i' => listed.getD i' false) j := fun j k1 k2 => .inl ⟨i, hlt, hDi, k1, by rw [Nat.succ_mul]; omega⟩
    have hdst : ∀ k, x.o.dst = some k → k < B.N := fun k hk => by
      have := dstsOk_mem hd x.o (by have := Array.mem_of_getElem? ho; simpa using this)
      rw [hk] at this
      exact blt_iff.1 this
    have next : ∀ (a' : Act) (w' : World) (A' : Nat → Bool) (μ' : Nat → Value), Inv B (UD ops n0 (fun i' => (listed.setIfInBounds i true).getD i' false)) (s.put x.o.dst x.r) a' w' A' μ' → wpAny P .any ops Q fuel (listed.setIfInBounds i true) a' w' := fun a' w' A' μ' hi' => by
      refine ih (listed.setIfInBounds i true) (s.put x.o.dst x.r) a' w' A' μ' (by simp [hsz]) (fun j o e hj hjo hee hb => ?_) ?_ ?_ ?_ hi'
      · simp only [hD'] at hj ⊢
        by_cases hei : e.on = i
        · rw [if_pos hei]
        · rw [if_neg hei]
          by_cases hji : j = i
          · subst hji
            rw [ho] at hjo; cases hjo
            exact h5 e hee hb
          · rw [if_neg hji] at hj
            exact hcl j o e hj hjo hee hb
      · have := cntF_set (D := fun i' => listed.getD i' false) (D' := fun i' => (listed.setIfInBounds i true).getD i' false) (i := i) hDi (by simp only [hD', if_pos]) (fun j hj => by simp only [hD', if_neg hj]) hlt
        omega
      · rw [put_tmp s x, h1]
        funext t
        unfold applyT
        by_cases ht : x.o.dst = some t
        · rw [if_pos ht]
          refine (tmpOf_last xs hxi (by simp only [Nat.zero_add, hD', if_pos]) ht fun j y hij hy hDj => ?_).symm
          simp only [Nat.zero_add, hD'] at hDj
          rw [if_neg (by omega)] at hDj
          refine (free j y hy ?_).c t ht
          rw [hDj]
          intro e
          have := blt_iff.1 e.symm; omega
        · rw [if_neg ht]
          refine tmpOf_congr rfl fun k y hy hne => ?_
          simp only [Nat.zero_add, hD'] at hne
          by_cases hki : k = i
          · subst hki; rw [hxi] at hy; cases hy; exact ht
          · rw [if_neg hki] at hne; exact absurd rfl hne
      · have he' := St.put_ent s x.o.dst x.r
        rw [he', h2]
        funext t
        unfold updH
        by_cases ht : t ∈ x.fp.w
        · refine (entOf_last xs hxi (by simp only [Nat.zero_add, hD', if_pos]) ht fun j y hij hy hDj => ?_).symm
          simp only [Nat.zero_add, hD'] at hDj
          rw [if_neg (by omega)] at hDj
          refine (free j y hy ?_).e t ht
          rw [hDj]
          intro e
          have := blt_iff.1 e.symm; omega
        · rw [find_skip ht]
          refine entOf_congr rfl fun k y hy hne => ?_
          simp only [Nat.zero_add, hD'] at hne
          by_cases hki : k = i
          · subst hki; rw [hxi] at hy; cases hy; exact ht
          · rw [if_neg hki] at hne; exact absurd rfl hne
    unfold wpOp
    rw [ho]
    simp only
    have hw : Region.wanted x.o (yielded ops a.tmps) = x.on := by
      unfold GuardOk at hg
      unfold Region.wanted
      split at hg
      · rename_i h0; rw [h0, hg]
      · rename_i j want h0
        obtain ⟨d, g1, ⟨b, g2, g3⟩ | ⟨g2, g3⟩⟩ := hg
        · rw [h0]
          simp only
          rw [yielded_of hi g1 g2, g3]
          cases b <;> cases want <;> rfl
        · rw [h0]
          simp only
          rw [yielded_un hi g1 g2, g3]
          rfl
    cases hon : x.on with
    | true =>
      rw [if_pos (hw.trans hon)]
      exact .inl (op_ok hc he hf hG hi (by omega) hUn hU' hdst (hsel hon) next)
    | false =>
      rw [if_neg (by rw [hw, hon]; decide)]
      refine next _ _ A μ ?_
      rw [hoff hon]
      exact hi.skip (by omega : 0 < n0 + i * stride) hU' hdst
end Vi

set_option autoImplicit false
set_option linter.unusedSectionVars false
namespace Vi
open Go

variable {P : Program} {cx : Cx} {B : Base}

theorem Inv.drawn {U : Nat → Prop} {s : St} {a : Act} {w : World} {A : Nat → Bool} {μ : Nat → Value} (h : Inv B U s a w A μ) (w' : World) (hh : w'.heap = w.heap) (ho : w'.os = w.os) (ht : w'.tape = w.tape) (hp : w'.output = w.output) : Inv B U s a w' A μ := by
  have hx : Ext B.X 0 A s.ent μ w A s.ent μ w' := ⟨ho, ht, hp, by rw [hh]; exact Nat.le_refl _, fun b _ => by rw [hh], fun id b h1 h2 => .inl ⟨id, h1, h2⟩, fun _ => .inr (.inl rfl), fun _ _ => rfl, fun _ h => h, fun _ h => .inl h⟩
  refine ⟨h.rep.step hx (fun id hd => .inl ⟨rfl, rfl, fun b _ => by rw [hh]⟩) h.rep.sep h.rep.born, fun k => hx.pr (h.tmps k), h.size, h.defers, h.zero, h.unborn, h.fr.step hx⟩

def toEx : Ex → Exit
  | .normal => .normal
  | .exit i => .exit i
  | .ret => .ret

theorem St.asked_n (f : Bool) (s : St) (c : Operand) (b : Bool) : (s.asked f c b).n = s.n := by
  unfold St.asked St.litO
  cases f with
  | false => rfl
  | true => cases c <;> rfl
theorem IV.asked {s : St} {a : Act} {w : World} (hi : IV B s.n s a w) {f : Bool} {c : Operand} {b : Bool} (hb : opd s.tmp c = .one (.ce (.v .bool b))) : IV B (s.asked f c b).n (s.asked f c b) a w := by
  cases f with
  | false => exact hi
  | true =>
    cases c with
    | tmp k =>
      obtain ⟨h0, A, μ, h⟩ := hi
      exact ⟨h0, A, μ, h.lit (d := k) (b := b) hb⟩
    | _ => exact hi

theorem viw_ok (hm : P.follows .mixedOrders = true) (hc : CxOk cx P) (he : EqOk cx P) (hf : FsOk cx P) (hG : GOk cx.gl B.X B.w0 B.H0 B.μ0) {an : Ann} : ∀ (c : Code) {Qa : Ex → St → Prop} {Q : Exit → Act → World → Prop} {s : St} {a : Act} {w : World},
    (∀ e s a w, IV B s.n s a w → Qa e s → Q (toEx e) a w) → IV B s.n s a w → viw cx an B.N B.K0 c Qa s → c.wp P Q a w := by
  intro c
  induction c with
  | skip => intro Qa Q s a w hQ hi h; exact wp_skip (hQ .normal s a w hi h)
  | seq x y ihx ihy =>
    intro Qa Q s a w hQ hi h
    refine wp_seq (ihx ?_ hi h)
    intro e s a w hi h
    cases e with
    | normal => exact ihy hQ hi h
    | exit i => exact hQ (.exit i) s a w hi h
    | ret => exact hQ .ret s a w hi h
  | cond c x y ihx ihy =>
    intro Qa Q s a w hQ hi h
    unfold viw at h
    split at h
    · rename_i b hb
      obtain ⟨_, A, μ, hi'⟩ := id hi
      have := opd_ok hi'.tmps c
      rw [hb] at this
      have hv := bool_of this
      cases b with
      | true => exact wp_cond_true hv (ihx hQ (IV.asked hi hb) h)
      | false => exact wp_cond_false hv (ihy hQ (IV.asked hi hb) h)
    · exact h.elim
  | block id b ih =>
    intro Qa Q s a w hQ hi h
    refine wp_block (ih ?_ hi h)
    intro e s a w hi h
    cases e with
    | normal => exact hQ .normal s a w hi h
    | exit i =>
      simp only at h
      show Exit.inBlock id Q (.exit i) a w
      simp only [Exit.inBlock]
      cases hb : Nat.beq i id with
      | true =>
        rw [hb] at h
        rw [if_pos (Nat.eq_of_beq_eq_true hb)]
        exact hQ .normal s a w hi h
      | false =>
        rw [hb] at h
        rw [if_neg (fun e => by subst e; rw [Nat.beq_refl] at hb; cases hb)]
        exact hQ (.exit i) s a w hi h
    | ret => exact hQ .ret s a w hi h
  | exit id => intro Qa Q s a w hQ hi h; exact wp_exit (hQ (.exit id) s a w hi h)
  | ret => intro Qa Q s a w hQ hi h; exact wp_ret (hQ .ret s a w hi h)
  | scope b ih =>
    intro Qa Q s a w hQ hi h
    refine wp_scope_straight (ih ?_ hi h)
    intro e s a w hi h
    cases e with
    | normal => exact hQ .normal s a w hi h
    | exit i => exact hQ (.exit i) s a w hi h
    | ret => exact hQ .ret s a w hi h
  | label l => intro Qa Q s a w hQ hi h; exact wp_label (hQ .normal s a w hi h)
  | region id ops draw =>
    intro Qa Q s a w hQ hi h
    cases draw with
    | true =>
      unfold viw at h
      cases hb : (dstsOk B.N ops.toList && edgesOk 0 ops.toList) with
      | false => rw [hb] at h; exact h.elim
      | true =>
        rw [hb, cond_true] at h
        simp only [Bool.and_eq_true] at hb
        obtain ⟨xs, s', h1, h2, h3, h4⟩ := drawOps_run h
        cases hi2 : indep ops (xs.map Rec.fp) with
        | false => rw [hi2] at h4; exact h4.elim
        | true =>
          rw [hi2, cond_true] at h4
          obtain ⟨hn0, A, μ, hi⟩ := hi
          obtain ⟨e1, e2⟩ := h2.end 0
          have hg : ∀ i, (Array.replicate ops.size false).getD i false = false := fun i => by
            simp only [Array.getD_eq_getD_getElem?, Array.getElem?_replicate]
            split <;> rfl
          have hD0 : (fun i => (Array.replicate ops.size false).getD i false) = fun _ => false := funext hg
          refine wp_region_any hm (any_ok (T0 := s.tmp) (H0 := s.ent) hc he hf hG hn0 h1 hb.1 hb.2 hi2 (fun k x hx => ?_) (fun s1 a1 w1 A1 μ1 k1 k2 k3 => ?_) ops.size _ s a _ A μ (by simp) ?_ ?_ ?_ ?_ ((?_ : Inv B _ s a w A μ).drawn _ rfl rfl rfl rfl))
          · have := h2.at 0 k x hx
            simpa using this
          · refine hQ .normal s' a1 w1 ⟨by rw [h3]; omega, A1, μ1, ?_⟩ h4
            have t1 : s'.tmp = s1.tmp := e1.trans k1.symm
            have t2 : s'.ent = s1.ent := e2.trans k2.symm
            have hlen : ops.toList.length = ops.size := by simp
            refine ⟨by rw [t2]; exact k3.rep, fun k => by rw [t1, t2]; exact k3.tmps k, k3.size, k3.defers, k3.zero, fun i hi => k3.unborn i (by rw [h3, hlen] at hi; exact hi), by rw [t2]; exact k3.fr⟩
          · intro j o e hj
            simp only [hg] at hj; cases hj
          · have : ∀ m, cntF (fun i => (Array.replicate ops.size false).getD i false) m ≤ m := fun m => by
              induction m with
              | zero => exact Nat.le_refl _
              | succ m ih =>
                simp only [cntF]
                have : (bif (Array.replicate ops.size false).getD m false then 0 else 1) ≤ 1 := by cases (Array.replicate ops.size false).getD m false <;> simp
                omega
            exact this _
          · rw [hD0, tmpOf_none]
          · rw [hD0, entOf_none]
          · refine ⟨hi.rep, hi.tmps, hi.size, hi.defers, hi.zero, fun i hu => hi.unborn i ?_, hi.fr⟩
            rcases hu with ⟨k, _, _, hk, _⟩ | hu
            · omega
            · omega
    | false =>
      unfold viw at h
      cases hb : dstsOk B.N ops.toList with
      | false => rw [hb] at h; exact h.elim
      | true =>
        rw [hb] at h
        refine wp_region (runOps_ok hc he hf hG (fun s a w hi h => hQ .normal s a w hi h) (os := ops.toList) ?_ hb hi h)
        apply List.ext_getElem?
        intro i
        simp only [List.getElem?_map, Array.getElem?_toList]
        by_cases hlt : i < ops.size
        · simp [hlt]
        · simp [hlt]
  | loop b ih =>
    intro Qa Q s a w hQ hi h
    unfold viw at h
    split at h
    · exact h.elim
    · rename_i p hp
      obtain ⟨v0, h1, m, h2⟩ := Tree.sel_of_wp h
      obtain ⟨_, A, μ, hi⟩ := hi
      have hi0 := hi.pat h1
      refine wp_loop_rounds m ?_
      clear h h1 hi
      induction m generalizing v0 a w with
      | zero => exact h2.elim
      | succ m ihm =>
        rw [rounds_succ]
        refine ih ?_ hi0 h2
        intro e s' a' w' hi' h'
        cases e with
        | normal =>
          obtain ⟨v1, h3, h4⟩ := Tree.sel_of_wp h'
          obtain ⟨_, A, μ, hi'⟩ := hi'
          exact ihm v1 h4 (hi'.pat h3)
        | exit i => exact hQ (.exit i) s' a' w' hi' h'
        | ret => exact hQ .ret s' a' w' hi' h'
  | _ => intro Qa Q s a w hQ hi h; exact h.elim
end Vi

set_option autoImplicit false
set_option linter.unusedSectionVars false
namespace Vi
open Go

variable {P : Program} {cx : Cx}

/-- A result is read. -/
noncomputable def resG (tmps : Array Value) : ResultVar → Sem Value
  | .tmp t => pure (tmps.getD t undef)
  | .cell a t => do loadVar t (← asAddr (tmps.getD a undef))

theorem results_eq {fn : Func} {tmps : Array Value} {vs : List Value} {w : World} (h : (fn.results.toList.mapM (resG tmps)).run P w = .ok vs w) :
    (results fn tmps).run P w = .ok (if h : vs.toArray.size = 1 then vs.toArray[0] else .tuple vs.toArray) w := by
  unfold results
  rw [Sem.run_bind]
  have h2 : (fn.results.mapM (resG tmps)).run P w = .ok vs.toArray w := by
    rw [Array.mapM_eq_mapM_toList, map_eq_pure_bind, Sem.run_bind, h]
    rfl
  generalize hg : (fun | .tmp t => pure (tmps.getD t undef) | .cell a t => do loadVar t (← asAddr (tmps.getD a undef)) : ResultVar → Sem Value) = g
  have hgg : g = resG tmps := by rw [← hg]; funext x; cases x <;> rfl
  rw [hgg, h2]
  rfl

theorem resOne_ok {X : Nat → Prop} {A : Nat → Bool} {μ : Nat → Value} {w : World} {s : St} {a : Act} (hc : CxOk cx P) (hr : Rep X A s.ent μ w) (hs : ∀ k, PR (Fr X w s.ent μ) w (Sf A s.ent) μ (s.tmp k) (a.tmps.getD k undef))
    {x : ResultVar} (hk : ∀ k m, aboxLen cx s x = some (k, m) → k = m) (h : (resOne cx s x).isSome = true) : ∃ v, (resG a.tmps x).run P w = .ok v w ∧ QR (Fr X w s.ent μ) w (Sf A s.ent) μ ((resOne cx s x).getD .un) v := by
  cases x with
  | tmp t => exact ⟨_, rfl, asQ_of (hs t)⟩
  | cell b t =>
    have hb := asQ_of (hs b)
    unfold resOne at h ⊢
    unfold aboxLen at hk
    dsimp only at h hk ⊢
    generalize (s.tmp b).asQ = q at h hk hb ⊢
    split at h
    · rename_i ti id off hti
      split at h
      · rename_i bt cs he
        cases hbl : Nat.ble (off + ti.n) cs.length with
        | false => rw [hbl] at h; cases h
        | true =>
          have hle := Nat.le_of_ble_eq_true hbl
          have htk := hc _ _ hti
          obtain ⟨blk, hm, hu, _⟩ := ptr_at hr hb (by rw [he]; rfl)
          have hen := hr.ent id
          rw [he] at hen
          obtain ⟨b', arr, hm', hh, hcs⟩ := hen
          rw [hm] at hm'
          cases hm'
          have hlen := hcs.len
          refine ⟨_, ?_, loadQ_ok ((hcs.drop off).take ti.n) htk.one (by simp; omega)⟩
          simp only [resG, Sem.run_bind, hu, asAddr, Sem.run_pure, Result.andThen_ok]
          refine loadVar_run htk (l := (arr.drop off).take ti.n) (by simp; omega) (fun j v hv => ?_)
          rw [Addr.add_mid, cell_of_heap hh]
          exact cut_get hv
      · rename_i bt e xs he
        cases hz : (Nat.beq off 0 && ti.ag) with
        | false => rw [hz] at h; cases h
        | true =>
          rw [hz] at h
          simp only [Bool.and_eq_true] at hz
          have ho := Nat.eq_of_beq_eq_true hz.1
          subst ho
          simp only [cond_true] at h ⊢
          split at h
          · rename_i k e' hty
            cases hcst : cast? (.sl e) (.sl e') xs with
            | none => rw [hcst] at h; cases h
            | some ys =>
              obtain ⟨hee, hyy⟩ := sl_sh hcst
              subst hee
              cases hyy
              have hkl : k = xs.length := hk k _ (by simp only [hti, he, hty])
              have htk := hc _ _ hti
              obtain ⟨blk, hm, hu, _⟩ := ptr_at hr hb (by rw [he]; rfl)
              have hen := hr.ent id
              rw [he] at hen
              obtain ⟨hpos, b', arr, hm', hh, hlen, hels, _⟩ := hen
              rw [hm] at hm'
              cases hm'
              obtain ⟨i, z, d, _, _, _, _, _, _, _, _, _, ht⟩ := htk.info
              obtain ⟨hun, hua, _⟩ := ht _ hty
              simp only [Ty.n] at hun
              refine ⟨valOf ti arr, ?_, ?_⟩
              · simp only [resG, Sem.run_bind, hu, asAddr, Sem.run_pure, Result.andThen_ok]
                refine loadVar_run htk (l := arr) (by rw [hlen, ← hkl]; exact hun) (fun j v hv => ?_)
                rw [Addr.add_mid, cell_of_heap hh, Nat.zero_add]
                exact hv
              · unfold valOf
                rw [hz.2]
                exact ⟨rfl, arr, rfl, .arr k e xs arr hkl.symm (by rw [hlen, ← hkl]) hels⟩
          · cases h
      · cases h
    · cases h

theorem resQ_ok {X : Nat → Prop} {A : Nat → Bool} {μ : Nat → Value} {w : World} {s : St} {a : Act} (hc : CxOk cx P) (hr : Rep X A s.ent μ w) (hs : ∀ k, PR (Fr X w s.ent μ) w (Sf A s.ent) μ (s.tmp k) (a.tmps.getD k undef)) :
    ∀ {l : List ResultVar}, (∀ x, x ∈ l → ∀ k m, aboxLen cx s x = some (k, m) → k = m) → resOk cx l s = true → ∃ vs, (l.mapM (resG a.tmps)).run P w = .ok vs w ∧ QsR (Fr X w s.ent μ) w (Sf A s.ent) μ (resQ cx l s) vs
  | [], _, _ => ⟨[], rfl, .nil⟩
  | x :: l, hk, h => by
    simp only [resOk, Bool.and_eq_true] at h
    obtain ⟨v, h1, h2⟩ := resOne_ok hc hr hs (hk x (by simp)) h.1
    obtain ⟨vs, h3, h4⟩ := resQ_ok hc hr hs (fun y hy => hk y (by simp [hy])) h.2
    refine ⟨v :: vs, ?_, .cons _ _ _ _ h2 h4⟩
    rw [List.mapM_cons, Sem.run_bind, h1]
    simp only [Result.andThen_ok, Sem.run_bind, h3]
    rfl

theorem resNeed_ok {s : St} {Q : Prop} : ∀ {l : List ResultVar}, resNeed cx s Q l → Q ∧ ∀ x, x ∈ l → ∀ k m, aboxLen cx s x = some (k, m) → k = m
  | [], h => ⟨h, fun x hx => by cases hx⟩
  | y :: l, h => by
    unfold resNeed at h
    split at h
    · rename_i k m hy
      obtain ⟨h1, h2⟩ := h
      obtain ⟨g1, g2⟩ := resNeed_ok h2
      refine ⟨g1, fun x hx k' m' he => ?_⟩
      rcases List.mem_cons.1 hx with rfl | hx
      · rw [hy] at he
        cases he
        exact h1
      · exact g2 x hx k' m' he
    · rename_i hy
      obtain ⟨g1, g2⟩ := resNeed_ok h
      refine ⟨g1, fun x hx k' m' he => ?_⟩
      rcases List.mem_cons.1 hx with rfl | hx
      · rw [hy] at he
        cases he
      · exact g2 x hx k' m' he

variable {X : Nat → Prop} {F : Nat → Prop} {S : Nat → Sh} {μ : Nat → Value} {w : World}

theorem slotsIn_ok {vs : List Value} : ∀ {l : List (Nat × KQ)} {v : VT (slotTys l)} {i n : Nat}, slotsIn i l n = true → vs.length = n → (∀ x, x ∈ slotsEmb Nat.succ l v → QR F w S μ x.2 (vs.getD x.1 undef)) →
    QsR F w S μ ((slotsEmb Nat.succ l v).map (·.2)) (vs.drop i)
  | [], v, i, n, h, hl, _ => by
    have : i = n := Nat.eq_of_beq_eq_true h
    rw [List.drop_of_length_le (by omega)]
    exact .nil
  | (j, q) :: l, v, i, n, h, hl, hx => by
    simp only [slotsIn, Bool.and_eq_true] at h
    have hij : i = j := Nat.eq_of_beq_eq_true h.1
    subst hij
    have ih := slotsIn_ok (l := l) (v := (vsplit q.tys v).2) h.2 hl (fun x hm => hx x (List.mem_cons_of_mem _ hm))
    have h0 := hx (i, q.emb Nat.succ (vsplit q.tys v).1) (List.mem_cons_self ..)
    have hle : ∀ {l : List (Nat × KQ)} {i n : Nat}, slotsIn i l n = true → i ≤ n := by
      intro l
      induction l with
      | nil => intro i n h; exact Nat.le_of_eq (Nat.eq_of_beq_eq_true h)
      | cons x l ih => intro i n h; simp only [slotsIn, Bool.and_eq_true] at h; exact Nat.le_of_succ_le (ih h.2)
    have hlt := hle h.2
    have hi : i < vs.length := by omega
    rw [List.drop_eq_getElem_cons hi]
    simp only [slotsEmb, List.map_cons]
    refine .cons _ _ _ _ ?_ ih
    rw [List.getD_eq_getElem?_getD, List.getElem?_eq_getElem hi] at h0
    exact h0

theorem res_ok {r : (p : Pat) × p.V} {vs : List Value} (h : QsR F w S μ ((slotsEmb Nat.succ r.1.slots (vsplit (slotTys r.1.slots) r.2).1).map (·.2)) vs) :
    PR F w S μ (resPV Nat.succ r) (if h : vs.toArray.size = 1 then vs.toArray[0] else .tuple vs.toArray) := by
  unfold resPV
  generalize (slotsEmb Nat.succ r.1.slots (vsplit (slotTys r.1.slots) r.2).1).map (·.2) = l at h
  cases h with
  | nil => exact ⟨[], rfl, .nil⟩
  | cons q u qs us h1 h2 =>
    cases h2 with
    | nil => exact h1
    | cons q' u' qs us h2 h3 =>
      refine ⟨u :: u' :: us, ?_, .cons _ _ _ _ h1 (.cons _ _ _ _ h2 h3)⟩
      rw [dif_neg (by simp)]

theorem fn_ok (hm : P.follows .mixedOrders = true) (hc : CxOk cx P) (he : EqOk cx P) (hf : FsOk cx P) {f : Nat} {fn : Func} {c : Ctr} {an : Ann} {outs : List Pat} {v : c.inp.V} {r : (p : Pat) × p.V} (hfn : P.funcs[f]? = some fn) (hk : c.k0 ≤ c.inp.ents.length)
    (hvc : fnVc cx an c.k0 fn c.inp outs v (fun r' => r' = r)) : SoundAt P f c v r cx.gl := by
  intro X μ w us _ hG hrep hslots
  unfold fnVc at hvc
  split at hvc
  · exact hvc.elim
  rename_i code hb
  let B : Base := ⟨X, c.k0, fn.ntmps, w, (c.inp.st v).ent, patA c.inp, μ⟩
  refine calls_of_wp hfn hb (viw_ok (B := B) hm hc he hf hG (an := an) code (Qa := _) ?_ ?_ hvc)
  · intro e s a w' hi hq
    have key : retTo cx c.k0 fn outs (fun r' => r' = r) s → a.defers = [] ∧ ∃ u, (results fn a.tmps).run P w' = .ok u w' ∧ ∃ μ', CallPost X c v μ w r u μ' w' := fun hq => by
      obtain ⟨_, A, μ', hi⟩ := hi
      refine ⟨hi.defers, ?_⟩
      unfold retTo at hq
      dsimp only at hq
      obtain ⟨hq, hkn⟩ := resNeed_ok hq
      split at hq
      · rename_i p hp
        cases hb2 : (slotsIn 0 p.slots fn.results.size && resOk cx fn.results.toList s) with
        | false => rw [hb2] at hq; exact hq.elim
        | true =>
          rw [hb2, cond_true] at hq
          simp only [Bool.and_eq_true] at hb2
          obtain ⟨v', h1, h2⟩ := Tree.sel_of_wp hq
          obtain ⟨vs, hrun, hqs⟩ := resQ_ok (a := a) hc hi.rep hi.tmps hkn hb2.2
          obtain ⟨v2, g, h3, pp⟩ := Pat_ok hi.rep hi.zero (uf := fun i => vs.getD i undef) (fun i => hqs.at i) h1
          cases hbs : boundSelf c.k0 g with
          | false => rw [hbs] at h3; exact h3.elim
          | true =>
            rw [hbs] at h3
            cases h3
            subst h2
            have hX : HidIn X X s.ent μ' g := ⟨fun _ h => h, fun _ h => .inl h⟩
            have hfr := hi.fr.pat (B := B) pp hbs
            have hlv : vs.length = fn.results.size := by
              have h1 := hqs.len
              have h2 : ∀ l : List ResultVar, (resQ cx l s).length = l.length := fun l => by
                induction l with
                | nil => rfl
                | cons x l ih => simp [resQ, ih]
              rw [h2] at h1; simpa using h1.symm
            refine ⟨_, results_eq hrun, muG μ' g, pp.rep _ hX, ?_, hfr.kept, hfr.os, hfr.tape, hfr.output, hfr.size, hfr.blk0, hfr.own, hfr.ksh⟩
            refine res_ok ?_
            have := slotsIn_ok (i := 0) (l := p.slots) (v := (vsplit (slotTys p.slots) v').1) hb2.1 (vs := vs) hlv (pp.slots _ hX)
            simpa using this
      · exact hq.elim
    cases e with
    | normal => exact key hq
    | ret => exact key hq
    | exit i => exact hq.elim
  · have hp := patA c.inp
    refine ⟨Nat.succ_pos _, patA c.inp, μ, hrep, fun k => ?_, ?_, rfl, rfl, fun i hi => ?_, ⟨rfl, rfl, rfl, Nat.le_refl _, fun _ _ => rfl, fun id b h1 h2 => .inl ⟨id, h1, h2⟩, fun _ _ => rfl, fun _ _ => .inl rfl, fun j hj => ?_⟩⟩
    · have := slots_tmp (f := fun i => us.getD i undef) hslots k
      have e : (us.toArray ++ Array.replicate (fn.ntmps - us.toArray.size) undef).getD k undef = us.getD k undef := by
        simp only [Array.getD_eq_getD_getElem?, List.getD_eq_getElem?_getD, Array.getElem?_append, Array.getElem?_replicate]
        by_cases h1 : k < us.length
        · simp [h1]
        · simp [h1]
          by_cases h2 : k - us.length < fn.ntmps - us.length
          · simp [h2, List.getElem?_eq_none (Nat.le_of_not_lt h1)]
          · simp [h2, List.getElem?_eq_none (Nat.le_of_not_lt h1)]
      rw [e]
      exact this
    · show fn.ntmps ≤ _
      simp only [Array.size_append, Array.size_replicate]; omega
    · cases hp : patA c.inp i with
      | false => rfl
      | true =>
        unfold patA at hp
        simp only [Bool.and_eq_true, blt_iff, ble_iff, Pat.st] at hp hi
        omega
    · have hj' : j < c.k0 := hj
      show patA c.inp (j + 1) = true
      unfold patA
      rw [blt_iff.2 (Nat.succ_pos j), ble_iff.2 (by omega)]; rfl
end Vi

set_option autoImplicit false
namespace Vi
open Go

def pairsB : List (Nat × Nat) → List (Nat × Nat) → Bool
  | [], [] => true
  | a :: l, b :: m => Nat.beq a.1 b.1 && Nat.beq a.2 b.2 && pairsB l m
  | _, _ => false
theorem pairsB_eq : ∀ {l m : List (Nat × Nat)}, pairsB l m = true → l = m
  | [], [], _ => rfl
  | a :: l, b :: m, h => by
    simp only [pairsB, Bool.and_eq_true] at h
    rw [pairsB_eq h.2, show a = b from Prod.ext (Nat.eq_of_beq_eq_true h.1.1) (Nat.eq_of_beq_eq_true h.1.2)]
  | [], _ :: _, h => by cases h
  | _ :: _, [], h => by cases h

def deB : TypeDesc → De → Bool
  | _, .sc => true
  | _, .ot => true
  | .slice e, .sl e' => Nat.beq e e'
  | .array k e, .ar k' e' => Nat.beq k k' && Nat.beq e e'
  | .pointer e, .pt e' => Nat.beq e e'
  | .struct fs, .st l => pairsB (fs.toList.map fun f => (f.offset, f.type)) l
  | _, _ => false

theorem deB_ok {d : TypeDesc} {e : De} (h : deB d e = true) : DeOk d e := by
  unfold deB at h
  split at h
  · exact .sc d
  · exact .ot d
  · rw [← Nat.eq_of_beq_eq_true h]; exact .sl _
  · simp only [Bool.and_eq_true] at h
    rw [← Nat.eq_of_beq_eq_true h.1, ← Nat.eq_of_beq_eq_true h.2]; exact .ar _ _
  · rw [← Nat.eq_of_beq_eq_true h]; exact .pt _
  · rw [← pairsB_eq h]; exact .st _
  · cases h

def descB (d : TypeDesc) : Ty → Bool
  | .int k => (match d with | .int k' => kindEq k' k | _ => false)
  | .bool => (match d with | .bool => true | _ => false)
  | .str => (match d with | .string => true | _ => false)
  | .sl _ => (match d with | .slice _ => true | _ => false)
  | _ => true

def beqB : Bool → Bool → Bool
  | true, b => b
  | false, b => !b
theorem beqB_eq {a b : Bool} (h : beqB a b = true) : a = b := by cases a <;> cases b <;> first | rfl | cases h

def nilB : Option (List Value) → Bool
  | some [] => true
  | _ => false
theorem nilB_eq {o : Option (List Value)} (h : nilB o = true) : o = some [] := by
  unfold nilB at h
  split at h
  · rfl
  · cases h

def tyB (d : TypeDesc) (z : List Value) (ti : TI) : Option Ty → Bool
  | none => true
  | some u => Nat.beq u.n ti.n && beqB u.agg ti.ag && Nat.blt 0 u.n && nilB (zeroTy u z) && descB d u

def aggB : Value → Bool
  | .agg _ => true
  | _ => false

def tiB (P : Program) (t : Nat) (ti : TI) : Bool :=
  match P.info? t, P.underlying t with
  | some i, some d => (match i.zero with
    | some z => Nat.beq i.size ti.n && Nat.beq i.bytes ti.bytes && zeroCs ti.zero z.cells.toList && (!ti.ag || aggB z) && beqB d.isRow ti.ag && deB d ti.de && tyB d z.cells.toList ti ti.ty &&
        Nat.beq ti.zero.length ti.n && (ti.ag || Nat.beq ti.n 1) && (Nat.beq ti.n 0 || Nat.blt 0 ti.bytes)
    | none => false)
  | _, _ => false

theorem tiB_ok {P : Program} {t : Nat} {ti : TI} (h : tiB P t ti = true) : TiOk P t ti := by
  unfold tiB at h
  split at h
  · rename_i i d hi hu
    split at h
    · rename_i z hz
      simp only [Bool.and_eq_true, Bool.or_eq_true, Bool.not_eq_true'] at h
      obtain ⟨⟨⟨⟨⟨⟨⟨⟨⟨h1, h2⟩, h3⟩, h4⟩, h5⟩, h6⟩, h7⟩, h8⟩, h9⟩, h10⟩ := h
      refine ⟨⟨i, z, d, hi, Nat.eq_of_beq_eq_true h1, Nat.eq_of_beq_eq_true h2, hz, h3, fun ha => ?_, hu, beqB_eq h5, deB_ok h6, fun u hty => ?_⟩, Nat.eq_of_beq_eq_true h8, fun ha => ?_, fun hn => ?_⟩
      · rcases h4 with h4 | h4
        · rw [ha] at h4; cases h4
        · cases z <;> first | cases h4 | skip
          rename_i l
          exact ⟨l.toList, by simp⟩
      · rw [hty] at h7
        simp only [tyB, Bool.and_eq_true] at h7
        obtain ⟨⟨⟨⟨k1, k2⟩, k3⟩, k4⟩, k5⟩ := h7
        refine ⟨Nat.eq_of_beq_eq_true k1, beqB_eq k2, by rw [Nat.blt_eq] at k3; exact k3, nilB_eq k4, fun k hk => ?_, fun hk => ?_, fun hk => ?_, fun v hk => ?_⟩
        · subst hk
          simp only [descB] at k5
          split at k5
          · rw [kindEq_sound k5]
          · cases k5
        · subst hk
          simp only [descB] at k5
          split at k5
          · rfl
          · cases k5
        · subst hk
          simp only [descB] at k5
          split at k5
          · rfl
          · cases k5
        · subst hk
          simp only [descB] at k5
          split at k5
          · exact ⟨_, rfl⟩
          · cases k5
      · rcases h9 with h9 | h9
        · rw [ha] at h9; cases h9
        · exact Nat.eq_of_beq_eq_true h9
      · rcases h10 with h10 | h10
        · have := Nat.eq_of_beq_eq_true h10; omega
        · rw [Nat.blt_eq] at h10; exact h10
    · cases h
  · cases h

def tblB (P : Program) : List (Nat × Option TI) → Bool
  | [] => true
  | (t, some ti) :: r => tiB P t ti && tblB P r
  | (_, none) :: r => tblB P r

theorem tblB_ok {P : Program} : ∀ {l : List (Nat × Option TI)}, tblB P l = true → ∀ t ti, find none l t = some ti → TiOk P t ti
  | [], _, t, ti, h => by cases h
  | (k, some x) :: l, hb, t, ti, h => by
    simp only [tblB, Bool.and_eq_true] at hb
    simp only [find] at h
    cases he : Nat.beq t k with
    | true => rw [he] at h; cases h; rw [Nat.eq_of_beq_eq_true he]; exact tiB_ok hb.1
    | false => rw [he] at h; exact tblB_ok hb.2 t ti h
  | (k, none) :: l, hb, t, ti, h => by
    simp only [find] at h
    cases he : Nat.beq t k with
    | true => rw [he] at h; cases h
    | false => rw [he] at h; exact tblB_ok (l := l) hb t ti h

theorem cxOk_of {P : Program} {cx : Cx} {l : List (Nat × Option TI)} (hl : cx.ti = fun t => find none l t) (h : tblB P l = true) : CxOk cx P := fun t ti ht => tblB_ok h t ti (by rw [hl] at ht; exact ht)
end Vi

set_option autoImplicit false
namespace Vi
open Go

def szTi (ti : Nat → Option TI) (t : Nat) (u : Ty) : Bool := match ti t with | some i => Nat.beq i.n u.n && beqB i.ag u.agg | none => false

def eqFsB (ti : Nat → Option TI) (q : Nat → Ty → Bool) : Nat → List Field → Ty → Bool
  | _, [], _ => false
  | o, [f], u => Nat.beq f.offset o && !(f.name == "_") && szTi ti f.type u && q f.type u
  | o, f :: g :: r, u => match u with
    | .pair a b => Nat.beq f.offset o && !(f.name == "_") && szTi ti f.type a && q f.type a && eqFsB ti q (o + a.n) (g :: r) b
    | _ => false

def eqTyB (P : Program) (ti : Nat → Option TI) : Nat → Nat → Ty → Bool
  | 0, _, _ => false
  | d + 1, t, u => match u with
    | .int k => (match P.underlying t with | some (.int k') => kindEq k' k | _ => false)
    | .bool => (match P.underlying t with | some .bool => true | _ => false)
    | .str => (match P.underlying t with | some .string => true | _ => false)
    | .one v => (match P.underlying t with | some (.struct fs) => !P.stoodInHeld t && Nat.beq fs.toList.length 1 && eqFsB ti (eqTyB P ti d) 0 fs.toList v | _ => false)
    | .pair a b => (match P.underlying t with | some (.struct fs) => !P.stoodInHeld t && Nat.blt 1 fs.toList.length && eqFsB ti (eqTyB P ti d) 0 fs.toList (.pair a b) | _ => false)
    | .arr n v => (match P.underlying t with | some (.array n' e) => Nat.beq n' n && szTi ti e v && eqTyB P ti d e v | _ => false)
    | _ => false

def vOf (u : Ty) (l : List Value) : Value := if u.agg then .agg l.toArray else l.headD undef

section
variable {P : Program} {ti : Nat → Option TI}

theorem szTi_ok (hc : ∀ t i, ti t = some i → TiOk P t i) {t : Nat} {u : Ty} (h : szTi ti t u = true) : ∃ i, ti t = some i ∧ TiOk P t i ∧ i.n = u.n ∧ i.ag = u.agg := by
  unfold szTi at h
  split at h
  · rename_i i hi
    simp only [Bool.and_eq_true] at h
    exact ⟨i, hi, hc _ _ hi, Nat.eq_of_beq_eq_true h.1, beqB_eq h.2⟩
  · cases h

theorem part_vOf {w : World} {t : Nat} {u : Ty} {i : TI} (h : TiOk P t i) (hn : i.n = u.n) (ha : i.ag = u.agg) {l : List Value} {o : Nat} (hl : o + u.n ≤ l.length) :
    (part t l.toArray o).run P w = .ok (vOf u ((l.drop o).take u.n)) w := by
  rw [part_run h (by omega) h.one, hn]
  unfold valOf vOf
  rw [ha]

theorem eqFs_ok (hc : ∀ t i, ti t = some i → TiOk P t i) {q : Nat → Ty → Bool} {dd : Nat}
    (hq : ∀ t u, q t u = true → ∀ (F : Nat → Prop) (w : World) (a b : u.D) (l m : List Value), Rp F w u a l → Rp F w u b m → (Op.equalIn dd t (vOf u l) (vOf u m)).run P w = .ok (eqD u a b) w) :
    ∀ (fs : List Field) (o : Nat) (u : Ty), eqFsB ti q o fs u = true → ∀ (F : Nat → Prop) (w : World) (a b : u.D) (l m L M : List Value), Rp F w u a l → Rp F w u b m →
      o ≤ L.length → o ≤ M.length → L.drop o = l → M.drop o = m → (Op.eqFields dd L.toArray M.toArray fs).run P w = .ok (eqD u a b) w
  | [], o, u, h, F, w, a, b, l, m, L, M, ha, hb, h1, h2, h3, h4 => by simp [eqFsB] at h
  | [f], o, u, h, F, w, a, b, l, m, L, M, ha, hb, h1, h2, h3, h4 => by
    simp only [eqFsB, Bool.and_eq_true, Bool.not_eq_true'] at h
    obtain ⟨⟨⟨k1, k2⟩, k3⟩, k4⟩ := h
    obtain ⟨i, _, hi, hn, hag⟩ := szTi_ok hc k3
    have ho := Nat.eq_of_beq_eq_true k1
    have hla := ha.len
    have hlb := hb.len
    have e1 : L.length - o = u.n := by rw [← hla, ← h3]; simp
    have e2 : M.length - o = u.n := by rw [← hlb, ← h4]; simp
    have hn' : f.name ≠ "_" := by simpa using k2
    have p1 : (part f.type L.toArray f.offset).run P w = .ok (vOf u l) w := by rw [ho, part_vOf hi hn hag (by omega), h3, List.take_of_length_le (by omega)]
    have p2 : (part f.type M.toArray f.offset).run P w = .ok (vOf u m) w := by rw [ho, part_vOf hi hn hag (by omega), h4, List.take_of_length_le (by omega)]
    have p3 := hq _ _ k4 F w a b l m ha hb
    simp only [Op.eqFields, if_pos hn', Sem.run_bind, p1, p2, p3, Result.andThen_ok]
    cases eqD u a b <;> simp
  | f :: g :: r, o, u, h, F, w, a, b, l, m, L, M, ha, hb, h1, h2, h3, h4 => by
    cases u <;> simp only [eqFsB] at h <;> try (cases h)
    rename_i ta tb
    simp only [Bool.and_eq_true, Bool.not_eq_true'] at h
    obtain ⟨⟨⟨⟨k1, k2⟩, k3⟩, k4⟩, k5⟩ := h
    obtain ⟨i, _, hi, hn, hag⟩ := szTi_ok hc k3
    have ho := Nat.eq_of_beq_eq_true k1
    obtain ⟨l1, l2, rfl, ha1, ha2⟩ := ha.pair_inv
    obtain ⟨m1, m2, rfl, hb1, hb2⟩ := hb.pair_inv
    have n1 := ha1.len; have n2 := ha2.len; have n3 := hb1.len; have n4 := hb2.len
    have e1 : L.length - o = ta.n + tb.n := by rw [← n1, ← n2, ← List.length_append, ← h3]; simp
    have e2 : M.length - o = ta.n + tb.n := by rw [← n3, ← n4, ← List.length_append, ← h4]; simp
    have hn' : f.name ≠ "_" := by simpa using k2
    have p1 : (part f.type L.toArray f.offset).run P w = .ok (vOf ta l1) w := by rw [ho, part_vOf hi hn hag (by omega), h3, ← n1, List.take_left]
    have p2 : (part f.type M.toArray f.offset).run P w = .ok (vOf ta m1) w := by rw [ho, part_vOf hi hn hag (by omega), h4, ← n3, List.take_left]
    have p3 := hq _ _ k4 F w a.1 b.1 l1 m1 ha1 hb1
    have d1 : L.drop (o + ta.n) = l2 := by rw [← List.drop_drop, h3, ← n1, List.drop_left]
    have d2 : M.drop (o + ta.n) = m2 := by rw [← List.drop_drop, h4, ← n3, List.drop_left]
    have ih := eqFs_ok hc hq (g :: r) (o + ta.n) tb k5 F w a.2 b.2 l2 m2 L M ha2 hb2 (by omega) (by omega) d1 d2
    rw [Op.eqFields]
    simp only [if_pos hn', Sem.run_bind, p1, p2, p3, Result.andThen_ok, eqD]
    cases eqD ta a.1 b.1
    · simp
    · simpa using ih

theorem eqItems_ok {dd e : Nat} {u : Ty} {i : TI} (hi : TiOk P e i) (hn : i.n = u.n) (hag : i.ag = u.agg)
    (hq : ∀ (F : Nat → Prop) (w : World) (a b : u.D) (l m : List Value), Rp F w u a l → Rp F w u b m → (Op.equalIn dd e (vOf u l) (vOf u m)).run P w = .ok (eqD u a b) w) {F : Nat → Prop} {w : World} {L M : List Value} {c : Nat} (hcn : c = u.n) :
    ∀ (k s : Nat) (xs ys : List u.D), xs.length = k → ys.length = k → (s + k) * u.n ≤ L.length → (s + k) * u.n ≤ M.length →
      (∀ j (h : j < xs.length), Rp F w u xs[j] ((L.drop ((s + j) * u.n)).take u.n)) → (∀ j (h : j < ys.length), Rp F w u ys[j] ((M.drop ((s + j) * u.n)).take u.n)) →
      (Op.eqItems dd e c L.toArray M.toArray (List.range' s k)).run P w = .ok ((List.zipWith (eqD u) xs ys).all id) w
  | 0, s, xs, ys, h1, h2, h3, h4, h5, h6 => by
    have : xs = [] := List.length_eq_zero_iff.1 h1
    subst this
    simp [Op.eqItems]
  | k + 1, s, xs, ys, h1, h2, h3, h4, h5, h6 => by
    cases xs with
    | nil => cases h1
    | cons x xs =>
    cases ys with
    | nil => cases h2
    | cons y ys =>
    have e1 : (s + (k + 1)) * u.n = s * u.n + u.n + k * u.n := by rw [Nat.add_mul, Nat.succ_mul]; omega
    have q1 := h5 0 (by simp)
    have q2 := h6 0 (by simp)
    simp only [Nat.add_zero, List.getElem_cons_zero] at q1 q2
    have p1 : (part e L.toArray (s * c)).run P w = .ok (vOf u ((L.drop (s * u.n)).take u.n)) w := by rw [hcn]; exact part_vOf hi hn hag (by omega)
    have p2 : (part e M.toArray (s * c)).run P w = .ok (vOf u ((M.drop (s * u.n)).take u.n)) w := by rw [hcn]; exact part_vOf hi hn hag (by omega)
    have p3 := hq F w x y _ _ q1 q2
    have ih := eqItems_ok hi hn hag hq (F := F) (w := w) (L := L) (M := M) hcn k (s + 1) xs ys (by simpa using h1) (by simpa using h2) (by rw [show s + 1 + k = s + (k + 1) from by omega]; exact h3) (by rw [show s + 1 + k = s + (k + 1) from by omega]; exact h4)
      (fun j hj => by have := h5 (j + 1) (by simpa using hj); rw [show s + 1 + j = s + (j + 1) from by omega]; simpa using this)
      (fun j hj => by have := h6 (j + 1) (by simpa using hj); rw [show s + 1 + j = s + (j + 1) from by omega]; simpa using this)
    rw [List.range'_succ, Op.eqItems]
    simp only [Sem.run_bind, p1, p2, p3, Result.andThen_ok, List.zipWith_cons_cons, List.all_cons, id]
    cases eqD u x y
    · simp
    · simpa using ih

theorem eqTy_ok (hc : ∀ t i, ti t = some i → TiOk P t i) : ∀ (d t : Nat) (u : Ty), eqTyB P ti d t u = true → ∀ (j : Nat) (F : Nat → Prop) (w : World) (a b : u.D) (l m : List Value), Rp F w u a l → Rp F w u b m →
    (Op.equalIn (d + j) t (vOf u l) (vOf u m)).run P w = .ok (eqD u a b) w := by
  intro d
  induction d with
  | zero => intro t u h; simp [eqTyB] at h
  | succ d ih =>
    intro t u h j F w a b l m ha hb
    rw [show d + 1 + j = (d + j) + 1 from by omega]
    cases u with
    | int k =>
      simp only [eqTyB] at h
      split at h
      · rename_i k' hu
        have := kindEq_sound h; subst this
        obtain ⟨rfl, _⟩ := ha.int_inv
        obtain ⟨rfl, _⟩ := hb.int_inv
        show (Op.equalIn (d + j + 1) t (.int k' a) (.int k' b)).run P w = _
        rw [run_equalIn_int w (d + j) t k' k' a b hu]
        rfl
      · cases h
    | bool =>
      simp only [eqTyB] at h
      split at h
      · rename_i hu
        have := ha.bool_inv; subst this
        have := hb.bool_inv; subst this
        exact run_equalIn_bool w _ _ _ _ hu
      · cases h
    | str =>
      simp only [eqTyB] at h
      split at h
      · rename_i hu
        obtain ⟨rfl, _⟩ := ha.str_inv
        obtain ⟨rfl, _⟩ := hb.str_inv
        show (Op.equalIn (d + j + 1) t (.string _) (.string _)).run P w = _
        rw [run_equalIn_string w _ _ _ _ hu, ByteArray.toList_eq, ByteArray.toList_eq]
        simp only [eqD, eqS]
        have : ∀ x y : Str, (x == y) = decide (x = y) := fun x y => by rw [Bool.eq_iff_iff]; simp
        exact congrArg (fun b => Result.ok b w) (this a b)
      · cases h
    | one v =>
      simp only [eqTyB] at h
      split at h
      · rename_i fs hu
        simp only [Bool.and_eq_true, Bool.not_eq_true'] at h
        have hf : P.fieldsOf t = fs := by simp [Program.fieldsOf, hu]
        show (Op.equalIn (d + j + 1) t (.agg _) (.agg _)).run P w = _
        rw [run_equalIn_struct (P := P) w (d + j) t _ _ (by rw [hf]; exact hu) h.1.1, hf]
        exact eqFs_ok hc (fun t u h F w a b l m ha hb => ih t u h j F w a b l m ha hb) fs.toList 0 v h.2 F w a b l m l m ha.one_inv hb.one_inv (Nat.zero_le _) (Nat.zero_le _) rfl rfl
      · cases h
    | pair x y =>
      simp only [eqTyB] at h
      split at h
      · rename_i fs hu
        simp only [Bool.and_eq_true, Bool.not_eq_true'] at h
        have hf : P.fieldsOf t = fs := by simp [Program.fieldsOf, hu]
        show (Op.equalIn (d + j + 1) t (.agg _) (.agg _)).run P w = _
        rw [run_equalIn_struct (P := P) w (d + j) t _ _ (by rw [hf]; exact hu) h.1.1, hf]
        exact eqFs_ok hc (fun t u h F w a b l m ha hb => ih t u h j F w a b l m ha hb) fs.toList 0 (.pair x y) h.2 F w a b l m l m ha hb (Nat.zero_le _) (Nat.zero_le _) rfl rfl
      · cases h
    | arr k v =>
      simp only [eqTyB] at h
      split at h
      · rename_i k' e hu
        simp only [Bool.and_eq_true] at h
        obtain ⟨i, _, hi, hn, hag⟩ := szTi_ok hc h.1.2
        have hk := Nat.eq_of_beq_eq_true h.1.1
        subst hk
        obtain ⟨i', z, d', hinf, hsz, _⟩ := hi.info
        obtain ⟨x1, x2, x3⟩ := ha.arr_inv
        obtain ⟨y1, y2, y3⟩ := hb.arr_inv
        have hce : P.cellsOf e = v.n := by
          have h1 : (Go.sizeOf e).run P w = .ok i.n w := size_run hi
          rw [run_sizeOf w hinf] at h1
          injection h1 with h1 _
          rw [h1, hn]
        show (Op.equalIn (d + j + 1) t (.agg _) (.agg _)).run P w = _
        rw [run_equalIn_array w (d + j) _ _ hu hinf, List.range_eq_range']
        refine eqItems_ok hi hn hag (fun F w a b l m ha hb => ih e v h.2 j F w a b l m ha hb) (F := F) hce k' 0 a b x1 y1 (by rw [Nat.zero_add]; omega) (by rw [Nat.zero_add]; omega) (fun j hj => ?_) (fun j hj => ?_)
        · have := x3 j hj; simpa using this
        · have := y3 j hj; simpa using this
      · cases h
    | sl _ => simp [eqTyB] at h
    | node => simp [eqTyB] at h

def eqTblB (P : Program) (ti : Nat → Option TI) : List (Nat × Option Ty) → Bool
  | [] => true
  | (_, none) :: r => eqTblB P ti r
  | (t, some u) :: r => u.agg && !P.eqGuardType P.depth t && eqTyB P ti 12 t u && eqTblB P ti r

theorem eqTbl_ok (hc : ∀ t i, ti t = some i → TiOk P t i) : ∀ {l : List (Nat × Option Ty)}, eqTblB P ti l = true → ∀ t u, find none l t = some u → u.agg = true ∧ P.eqGuardType P.depth t = false ∧ eqTyB P ti 12 t u = true
  | [], _, t, u, h => by cases h
  | (k, some x) :: l, hb, t, u, h => by
    simp only [eqTblB, Bool.and_eq_true, Bool.not_eq_true'] at hb
    simp only [find] at h
    cases he : Nat.beq t k with
    | true => rw [he] at h; cases h; rw [Nat.eq_of_beq_eq_true he]; exact ⟨hb.1.1.1, hb.1.1.2, hb.1.2⟩
    | false => rw [he] at h; exact eqTbl_ok hc hb.2 t u h
  | (k, none) :: l, hb, t, u, h => by
    simp only [find] at h
    cases he : Nat.beq t k with
    | true => rw [he] at h; cases h
    | false => rw [he] at h; exact eqTbl_ok hc (l := l) hb t u h

/-- Is it a type of bytes? -/
def u8B (P : Program) (e : Nat) : Bool := match P.info? e with
  | some i => (match i.zero with | some (.int .u8 z) => eqI z 0 && (Nat.beq i.size 1 && Nat.beq i.bytes 1) | _ => false)
  | none => false
theorem u8B_ok {e : Nat} (h : u8B P e = true) : ∃ i, P.info? e = some i ∧ i.zero = some (.int .u8 0) ∧ i.size = 1 ∧ i.bytes = 1 := by
  unfold u8B at h
  split at h
  · rename_i i hi
    split at h
    · rename_i z hz
      simp only [Bool.and_eq_true] at h
      have hz0 : z = 0 := of_decide_eq_true h.1
      subst hz0
      exact ⟨i, hi, hz, Nat.eq_of_beq_eq_true h.2.1, Nat.eq_of_beq_eq_true h.2.2⟩
    · cases h
  · cases h
theorem u8Ok_of {cx : Cx} {l : List Nat} (hl : cx.u8 = fun e => memb e l) (h : l.all (u8B P) = true) : U8Ok cx P := by
  intro e he
  rw [hl] at he
  exact u8B_ok (List.all_eq_true.1 h e (memb_iff.1 he))

theorem eqOk_of {cx : Cx} {l : List (Nat × Option Ty)} (hc : CxOk cx P) (hl : cx.eqt = fun t => find none l t) (h : eqTblB P cx.ti l = true) (h8 : U8Ok cx P) (hcp : ∀ f T, cx.cpy f = some T → CpysOk P f T) : EqOk cx P := by
  refine ⟨?_, h8, hcp⟩
  intro t u hu
  rw [hl] at hu
  obtain ⟨h1, h2, h3⟩ := eqTbl_ok hc h t u hu
  refine ⟨h2, fun F w a b l m ha hb => ?_⟩
  have := eqTy_ok hc 12 t u h3 9988 F w a b l m ha hb
  unfold vOf at this
  rw [if_pos h1, if_pos h1] at this
  exact this
end

/-! ### Loops -/

theorem Lp_rule {V : Type} {F : V → (V → Prop) → Prop} (I : V → Prop) (m : V → Nat) (hF : ∀ v K, I v → (∀ v', I v' → m v' < m v → K v') → F v K) {v : V} (h : I v) : Lp F v := by
  have key : ∀ n v, I v → m v < n → it F n v := by
    intro n
    induction n with
    | zero => intro v _ h; omega
    | succ n ih =>
      intro v hI hm
      exact hF v (it F n) hI fun v' hI' hm' => ih v' hI' (by omega)
  exact ⟨m v + 1, key _ v h (by omega)⟩

/-! ### Contracts -/

/-- What tells characters of so many bytes. -/
def utfRows : List (Int × Int) := [(0, 0), (0, 0), (192, 128), (224, 2048), (240, 65536)]

def CtrOk (P : Program) (f : Nat) (c : Ctr) (G : Gs := {}) : Prop := (∃ fn, P.funcs[f]? = some fn ∧ fn.body.isNone = false ∧ (fn.name == "runtime.NumGoroutine") = false) ∧
  ∀ H v r, (c.body v).Sel H r → SoundAt P f c v r G

def CtrsOkG (P : Program) (G : Gs) : List (Nat × List Ctr) → Prop
  | [] => True
  | x :: r => (∀ c ∈ x.2, CtrOk P x.1 c G) ∧ CtrsOkG P G r
abbrev CtrsOk (P : Program) (l : List (Nat × List Ctr)) (G : Gs := {}) : Prop := CtrsOkG P G l

theorem SoundAt.body {P : Program} {f k0 ex : Nat} {inp : Pat} {b1 b2 : inp.V → Tree ((p : Pat) × p.V)} {v : inp.V} {r : (p : Pat) × p.V} {G : Gs} (h : SoundAt P f ⟨k0, inp, b1, ex⟩ v r G) : SoundAt P f ⟨k0, inp, b2, ex⟩ v r G :=
  fun X μ w us h1 hg h2 h3 => (h X μ w us h1 hg h2 h3).mono fun _ _ ⟨μ', cp⟩ => ⟨μ', ⟨cp.rep, cp.res, cp.kept, cp.os, cp.tape, cp.output, cp.size, cp.blk, cp.own, cp.sh⟩⟩

theorem fsOk_of {P : Program} {cx : Cx} {l : List (Nat × List Ctr)} (h : cx.fs = fun f => find [] l f) (hl : CtrsOk P l cx.gl) : FsOk cx P := by
  intro f c hc
  rw [h] at hc
  clear h
  induction l with
  | nil => cases hc
  | cons x l ih =>
    obtain ⟨k, cs⟩ := x
    simp only [find] at hc
    cases he : Nat.beq f k with
    | true => rw [he] at hc; rw [Nat.eq_of_beq_eq_true he]; exact hl.1 c hc
    | false => rw [he] at hc; exact ih hl.2 hc

theorem sel_br {α : Type} {H : Nat → Entry} {b : Bool} {x y : Tree α} {r : α} (h : (Tree.br b x y).Sel H r) : (b = true ∧ x.Sel H r) ∨ (b = false ∧ y.Sel H r) := by
  cases b
  · exact .inr ⟨rfl, h⟩
  · exact .inl ⟨rfl, h⟩

theorem ctrC {P : Program} {f : Nat} {c : Ctr} {l : List Ctr} {G : Gs} (h : CtrOk P f c G) (hl : ∀ d ∈ l, CtrOk P f d G) : ∀ d ∈ c :: l, CtrOk P f d G := fun d hd => by
  rcases List.mem_cons.1 hd with rfl | hd
  · exact h
  · exact hl d hd
theorem ctr1 {P : Program} {f : Nat} {c : Ctr} {G : Gs} (h : CtrOk P f c G) : ∀ d ∈ [c], CtrOk P f d G := fun d hd => by
  cases hd with
  | head => exact h
  | tail _ h => cases h
end Vi

set_option autoImplicit false
namespace Vi
open Go

theorem rg64 {z : Int} : Rg .i64 z ↔ -9223372036854775808 ≤ z ∧ z ≤ 9223372036854775807 := Iff.rfl
theorem rgu8 {z : Int} : Rg .u8 z ↔ 0 ≤ z ∧ z ≤ 255 := Iff.rfl
theorem ix_iff {i : Int} {n : Nat} : Ix i n ↔ 0 ≤ i ∧ i < (n : Int) := Iff.rfl
theorem sb_iff {a b : Int} {n : Nat} : Sb a b n ↔ 0 ≤ a ∧ a ≤ b ∧ b ≤ (n : Int) := Iff.rfl
theorem dv_iff {x y : Int} : Dv x y ↔ 0 ≤ x ∧ 0 < y := Iff.rfl
theorem ln_iff {k n : Nat} : Ln k n ↔ k = n := Iff.rfl
theorem mk_iff {a b : Int} {k : Nat} : Mk a b k ↔ a = b ∧ 0 ≤ a ∧ a * k ≤ 140737488351232 := Iff.rfl
theorem shf_iff {y : Int} {k : IntKind} : Shf y k ↔ 0 ≤ y ∧ y ≤ k.bits := Iff.rfl
theorem mt_iff {m : Int} {n : Nat} : Mt m n ↔ m = n := Iff.rfl
theorem gr_iff {n m k : Nat} : Gr n m k ↔ (n + m) * k ≤ 140737488351232 := Iff.rfl

theorem cond_dec {α : Type} {p : Prop} [Decidable p] (x y : α) : (bif decide p then x else y) = if p then x else y := Bool.cond_decide p x y
theorem cond_ndec {α : Type} {p : Prop} [Decidable p] (x y : α) : (bif !decide p then x else y) = if p then y else x := by
  by_cases h : p <;> simp [h]
theorem condP {b : Bool} {x y : Prop} (h1 : b = true → x) (h2 : b = false → y) : bif b then x else y := by cases b; exact h2 rfl; exact h1 rfl

theorem nth_nat {α : Type} (l : List α) (p : Nat) (d : α) : nth l (p : Int) d = l.getD p d := rfl
theorem nth_zero {α : Type} (l : List α) (d : α) : nth l 0 d = l.getD 0 d := rfl
theorem nth_lt {α : Type} {l : List α} {p : Nat} {d : α} (h : p < l.length) : nth l (p : Int) d = l[p] := by
  rw [nth_nat, List.getD_eq_getElem?_getD, List.getElem?_eq_getElem h]; rfl
theorem drop_cons {α : Type} {l : List α} {p : Nat} {d : α} (h : p < l.length) : l.drop p = nth l (p : Int) d :: l.drop (p + 1) := by
  rw [nth_lt h, List.drop_eq_getElem_cons h]
theorem drop_end {α : Type} {l : List α} {p : Nat} (h : l.length ≤ p) : l.drop p = [] := List.drop_eq_nil_of_le h
theorem nth_succ {α : Type} (l : List α) (p : Nat) (d : α) : nth l ((p : Int) + 1) d = l.getD (p + 1) d := rfl
theorem take_succ {α : Type} {l : List α} {p : Nat} {d : α} (h : p < l.length) : l.take (p + 1) = l.take p ++ [nth l (p : Int) d] := by
  rw [nth_lt h, List.take_succ_eq_append_getElem h]
theorem nth_mid {α : Type} (l : List α) (x : α) (r : List α) (d : α) {p : Nat} (h : l.length = p) : nth (l ++ x :: r) (p : Int) d = x := by
  subst h; rw [nth_lt (by simp)]; simp
theorem nth_mid1 {α : Type} (l : List α) (x : α) (r : List α) (d : α) {p : Nat} (h : l.length = p) : nth (l ++ x :: r) ((p : Int) + 1) d = nth r 0 d := by
  subst h
  rw [show ((l.length : Int) + 1) = ((l.length + 1 : Nat) : Int) from rfl, nth_nat, nth_zero]
  simp only [List.getD_eq_getElem?_getD]
  rw [List.getElem?_append_right (by omega)]
  simp
theorem set_mid {α : Type} (l : List α) (x y : α) (r : List α) {p : Nat} (h : l.length = p) : (l ++ x :: r).set ((p : Int)).toNat y = l ++ y :: r := by
  subst h; simp
theorem set_mid' {α : Type} (l : List α) (x y : α) (r : List α) {p : Nat} (h : l.length = p) : (l ++ x :: r).set p y = l ++ y :: r := by
  subst h; simp
end Vi

set_option autoImplicit false
namespace Vi
open Go

/-- A struct's fields read as a type's parts. -/
def rdFs (P : Program) (q : Nat → Ty → Bool) : Nat → List Field → Ty → Bool
  | _, [], _ => false
  | o, [f], u => Nat.beq f.offset o && Nat.beq (P.cellsOf f.type) u.n && q f.type u
  | o, f :: g :: r, u => match u with
    | .pair a b => Nat.beq f.offset o && Nat.beq (P.cellsOf f.type) a.n && q f.type a && rdFs P q (o + a.n) (g :: r) b
    | _ => false

/-- A type of the program reads as one of these. -/
def rdB (P : Program) : Nat → Nat → Ty → Bool
  | 0, _, _ => false
  | d + 1, t, u => match u with
    | .int k => (match P.underlying t with | some (.int k') => kindEq k' k | _ => false)
    | .bool => (match P.underlying t with | some .bool => true | _ => false)
    | .str => (match P.underlying t with | some .string => true | _ => false)
    | .sl v => (match P.underlying t with | some (.slice e) => Nat.beq (P.cellsOf e) v.n && Nat.blt 0 v.n && Nat.blt 0 (P.bytesOf e) && rdB P d e v | _ => false)
    | .one v => (match P.underlying t with | some (.struct fs) => Nat.beq (P.cellsOf t) v.n && Nat.beq fs.toList.length 1 && rdFs P (rdB P d) 0 fs.toList v | _ => false)
    | .pair a b => (match P.underlying t with | some (.struct fs) => Nat.beq (P.cellsOf t) (a.n + b.n) && Nat.blt 1 fs.toList.length && rdFs P (rdB P d) 0 fs.toList (.pair a b) | _ => false)
    | .arr n v => (match P.underlying t with | some (.array n' e) => Nat.beq (P.cellsOf t) (n * v.n) && Nat.beq n' n && Nat.beq (P.cellsOf e) v.n && rdB P d e v | _ => false)
    | .node => Nat.beq (P.cellsOf t) 6 && Nat.blt 0 (P.bytesOf t) && (match P.underlying t with
      | some (.struct fs) => (match fs.toList with
        | [f0, f1, f2, f3, f4, f5] => Nat.beq f0.offset 0 && Nat.beq f1.offset 1 && Nat.beq f2.offset 2 && Nat.beq f3.offset 3 && Nat.beq f4.offset 4 && Nat.beq f5.offset 5 &&
          Nat.beq (P.cellsOf f0.type) 1 && Nat.beq (P.cellsOf f1.type) 1 && Nat.beq (P.cellsOf f2.type) 1 && Nat.beq (P.cellsOf f3.type) 1 && Nat.beq (P.cellsOf f4.type) 1 && Nat.beq (P.cellsOf f5.type) 1 &&
          rdB P d f0.type (.int .i64) && rdB P d f1.type (.int .i64) && rdB P d f2.type .str && rdB P d f3.type (.sl (.pair .str .str)) && rdB P d f4.type .str &&
          (match P.underlying f5.type with | some (.slice e) => Nat.beq e t | _ => false)
        | _ => false)
      | _ => false)

/-- A measure of how much a reading holds. -/
structure BlkFn (H : Type) where
  b : DataW H → Nat
  ba : List (DataW H) → Nat
  str : ∀ s, s.length + 1 ≤ b (.lit (.string s))
  lit : ∀ l, 1 ≤ b (.lit l)
  nil : 1 ≤ b .nil
  sl : ∀ e s, ba e + 1 ≤ b (.slice e s)
  agg : ∀ p, ba p ≤ b (.agg p)
  cons : ∀ d r, b d + ba r ≤ ba (d :: r)

theorem sizeOf_len (s : List UInt8) : s.length ≤ sizeOf s := by
  induction s with
  | nil => simp
  | cons x s ih => simp only [List.length_cons, List.cons.sizeOf_spec]; omega
theorem blkSize (H : Type) : Nonempty (BlkFn H) := ⟨{
  b := sizeOf
  ba := sizeOf
  str := fun s => by have := sizeOf_len s; simp only [DataW.lit.sizeOf_spec, Lit.string.sizeOf_spec]; omega
  lit := fun l => by simp only [DataW.lit.sizeOf_spec]; omega
  nil := by simp
  sl := fun e s => by simp only [DataW.slice.sizeOf_spec]; omega
  agg := fun p => by simp only [DataW.agg.sizeOf_spec]; omega
  cons := fun d r => by simp only [List.cons.sizeOf_spec]; omega }⟩

section
variable {H : Type} {Z : BlkFn H} {enc : TypeId × Value → H} {P : Program} {w : World} {base : Nat} {spare : Nat → Bool} {held : Bool}

theorem mapM_each {α β : Type} {f : α → Option β} : ∀ {l : List α} {r : List β}, l.mapM f = some r → r.length = l.length ∧ ∀ (i : Nat) (x : α), l[i]? = some x → ∃ y, r[i]? = some y ∧ f x = some y
  | [], r, h => by
    have : r = [] := by simpa using h.symm
    subst this
    exact ⟨rfl, fun i x hx => by simp at hx⟩
  | a :: l, r, h => by
    rw [List.mapM_cons] at h
    simp only [bind, Option.bind_eq_some_iff, pure, Option.some.injEq] at h
    obtain ⟨b, h1, bs, h2, rfl⟩ := h
    obtain ⟨h3, h4⟩ := mapM_each h2
    refine ⟨by simp [h3], fun i x hx => ?_⟩
    cases i with
    | zero => simp at hx; subst hx; exact ⟨b, rfl, h1⟩
    | succ i => obtain ⟨y, hy, he⟩ := h4 i x (by simpa using hx); exact ⟨y, by simpa using hy, he⟩

/-- Each text and each row is no longer than so much; all together hold so much. -/
inductive Lim (B : Nat) : (u : Ty) → u.D → Nat → Prop where
  | int (k : IntKind) (x : Int) : Lim B (.int k) x 1
  | bool (b : Bool) : Lim B .bool b 1
  | str (s : Str) : s.length ≤ B → Lim B .str s (s.length + 1)
  | sl (t : Ty) (xs : List t.D) (f : Nat → Nat) : xs.length ≤ B → (∀ j (h : j < xs.length), Lim B t xs[j] (f j)) → Lim B (.sl t) xs (((List.range xs.length).map f).sum + 1)
  | pair (a b : Ty) (x : a.D) (y : b.D) (T1 T2 : Nat) : Lim B a x T1 → Lim B b y T2 → Lim B (.pair a b) (x, y) (T1 + T2)
  | one (t : Ty) (x : t.D) (T : Nat) : Lim B t x T → Lim B (.one t) x T
  | arr (n : Nat) (t : Ty) (xs : List t.D) (f : Nat → Nat) : (∀ j (h : j < xs.length), Lim B t xs[j] (f j)) → Lim B (.arr n t) xs (((List.range xs.length).map f).sum)
  | node (k s : Int) (n : Str) (a : List (Str × Str)) (t : Str) (kk : List Node) (T1 T2 T3 T4 : Nat) : Lim B .str n T1 → Lim B (.sl (.pair .str .str)) a T2 → Lim B .str t T3 → Lim B (.sl .node) kk T4 →
    Lim B .node (Node.mk k s n a t kk) (T1 + T2 + T3 + T4)

/-- What a reading says of limits. -/
def LimOf {H : Type} (Z : BlkFn H) (P : Program) (t : Nat) (u : Ty) (y : u.D) (d : DataW H) : Prop := ∀ B, (∀ m, m ∈ d.weights P t → m ≤ B) → ∃ T, Lim B u y T ∧ T ≤ Z.b d

/-- The blocks that are there. -/
def There (w : World) (b : Nat) : Prop := b < w.heap.size

/-- How a list of cells of a type reads. -/
def Opens (Z : BlkFn H) (enc : TypeId × Value → H) (P : Program) (w : World) (base : Nat) (spare : Nat → Bool) (held : Bool) (fuel : Nat) (t : Nat) (u : Ty) : Prop :=
  ∀ (cs : List Value) (x : DataW H × List MemPlace), DataW.trod enc P w base spare held fuel t cs = some x → ∃ y : u.D, Rp (There w) w u y cs ∧ LimOf Z P t u y x.1

theorem weightsAll_mem {e : Nat} {d : DataW H} {m : Nat} : ∀ {l : List (DataW H)}, d ∈ l → m ∈ d.weights P e → m ∈ DataW.weightsAll P e l
  | c :: l, hd, hm => by
    simp only [DataW.weightsAll, List.mem_append]
    rcases List.mem_cons.1 hd with rfl | hd
    · exact .inl hm
    · exact .inr (weightsAll_mem hd hm)

theorem blkAll_sum : ∀ {l : List (DataW H)} {f : Nat → Nat}, (∀ j (h : j < l.length), f j ≤ Z.b l[j]) → ((List.range l.length).map f).sum ≤ Z.ba l
  | [], f, _ => by simp
  | d :: l, f, h => by
    rw [List.length_cons, List.range_succ_eq_map, List.map_cons, List.map_map, List.sum_cons]
    have hz := Z.cons d l
    have h0 := h 0 (by simp)
    have := blkAll_sum (l := l) (f := f ∘ Nat.succ) (fun j hj => by have := h (j + 1) (by simp; omega); simpa using this)
    simp only [List.getElem_cons_zero] at h0
    omega

/-- Limits of a row's elements, out of those of each. -/
theorem lim_row {B e : Nat} {v : Ty} {ys : List v.D} {ds : List (DataW H)} (hl : ys.length = ds.length) (h : ∀ j (h1 : j < ys.length) (h2 : j < ds.length), LimOf Z P e v ys[j] ds[j])
    (hw : ∀ m, m ∈ DataW.weightsAll P e ds → m ≤ B) : ∃ f : Nat → Nat, (∀ j (h : j < ys.length), Lim B v ys[j] (f j)) ∧ ((List.range ys.length).map f).sum ≤ Z.ba ds := by
  have each : ∀ j, ∃ T : Nat, ∀ h1 : j < ys.length, Lim B v ys[j] T ∧ T ≤ Z.b (ds[j]'(hl ▸ h1)) := fun j => by
    by_cases hj : j < ys.length
    · obtain ⟨T, h1, h2⟩ := h j hj (hl ▸ hj) B (fun m hm => hw m (weightsAll_mem (List.getElem_mem _) hm))
      exact ⟨T, fun _ => ⟨h1, h2⟩⟩
    · exact ⟨0, fun h => absurd h hj⟩
  obtain ⟨f, hf⟩ := Classical.axiomOfChoice each
  refine ⟨f, fun j hj => (hf j hj).1, ?_⟩
  rw [hl]
  exact blkAll_sum fun j hj => (hf j (hl ▸ hj)).2

theorem opens_slice {fuel t e : Nat} {v : Ty} (hu : P.underlying t = some (.slice e)) (hc : P.cellsOf e = v.n) (hn : 0 < v.n) (hby : 0 < P.bytesOf e) (ih : Opens Z enc P w base spare held fuel e v) : Opens Z enc P w base spare held (fuel + 1) t (.sl v) := by
  intro cs x h
  unfold DataW.trod at h
  rw [hu] at h
  split at h <;> first | (rename_i he _ <;> simp_all; done) | skip
  all_goals first | (simp_all; done) | skip
  · refine ⟨[], .sl v [] none 0 (fun _ => []) (Nat.le_refl _) (Nat.zero_le _) (fun j hj => absurd hj (Nat.not_lt_zero _)) (fun j hj => absurd hj (Nat.not_lt_zero _)), fun B _ => ⟨1, ?_, ?_⟩⟩
    · exact Lim.sl (B := B) v [] (fun _ => 0) (Nat.zero_le _) (fun j hj => absurd hj (Nat.not_lt_zero _))
    · simp only [Option.some.injEq] at h; subst h; exact Z.nil
  · rename_i e' a len cap he
    simp only [Option.some.injEq, TypeDesc.slice.injEq] at he
    subst he
    simp only at h
    split at h
    · rename_i hb
      rw [Option.bind_eq_some_iff] at h
      obtain ⟨elems, h1, h2⟩ := h
      obtain ⟨hl, hget⟩ := mapM_each h1
      rw [List.length_range] at hl
      have each (j : Nat) (hj : j < len) : ∃ (l : List Value) (y : v.D), Rp (There w) w v y l ∧ (There w a.block) ∧ (∀ i z, l[i]? = some z → w.cell? (a.add (j * v.n + i)) = some z) ∧ ∃ x, elems[j]? = some x ∧ LimOf Z P e v y x.1 := by
        obtain ⟨y, hyj, hy⟩ := hget j j (by simp [hj])
        rw [Option.bind_eq_some_iff] at hy
        obtain ⟨l, hl1, hl2⟩ := hy
        obtain ⟨z, hz, hzl⟩ := ih l y hl2
        rw [hc] at hl1
        obtain ⟨_, k1, k2⟩ := World.cells?_some hl1
        refine ⟨l, z, hz, ?_, fun i z' hi => ?_, y, hyj, hzl⟩
        · have := World.cells?_block hl1 hn
          rwa [add_block] at this
        · have hil : i < l.length := by
            rcases Nat.lt_or_ge i l.length with h | h
            · exact h
            · rw [List.getElem?_eq_none h] at hi; cases hi
          have := k2 i (by omega)
          rw [Addr.add_add] at this
          rw [this, hi]
      have each' : ∀ j, ∃ (l : List Value) (y : v.D), j < len → Rp (There w) w v y l ∧ (There w a.block) ∧ (∀ i z, l[i]? = some z → w.cell? (a.add (j * v.n + i)) = some z) ∧ ∃ x, elems[j]? = some x ∧ LimOf Z P e v y x.1 := fun j => by
        by_cases hj : j < len
        · obtain ⟨l, y, h⟩ := each j hj; exact ⟨l, y, fun _ => h⟩
        · exact ⟨[], v.zero, fun h => absurd h hj⟩
      obtain ⟨ls, hls⟩ := Classical.axiomOfChoice each'
      obtain ⟨ys, hys⟩ := Classical.axiomOfChoice hls
      have hlen : ((List.range len).map ys).length = len := by simp
      rw [Option.map_eq_some_iff] at h2
      obtain ⟨rest, _, h2⟩ := h2
      subst h2
      refine ⟨(List.range len).map ys, ?_, fun B hB => ?_⟩
      rotate_left
      · simp only [DataW.weights, hu, List.mem_cons, List.mem_append] at hB
        have hl2 : ((List.range len).map ys).length = (elems.map (·.1)).length := by rw [hlen, List.length_map, hl]
        obtain ⟨f, g1, g2⟩ := lim_row (P := P) (B := B) (e := e) (ys := (List.range len).map ys) (ds := elems.map (·.1)) hl2 (fun j h1 h2 => by
          obtain ⟨x, hx1, hx2⟩ := (hys j (by rwa [hlen] at h1)).2.2.2
          have e1 : (elems.map (·.1))[j] = x.1 := by
            rw [List.getElem_map]
            have := (List.getElem?_eq_some_iff.1 hx1).2
            rw [this]
          rw [e1]
          simpa using hx2) (fun m hm => hB m (.inr (.inl hm)))
        refine ⟨_, Lim.sl v _ f ?_ g1, ?_⟩
        · have h5 := hB _ (.inl rfl)
          rw [List.length_map, hl] at h5
          rw [hlen]
          refine Nat.le_trans ?_ h5
          refine Nat.le_trans (Nat.le_add_right _ _) (Nat.le_mul_of_pos_right _ hby)
        · have h6 := Z.sl (elems.map (·.1)) (rest.map (·.1))
          dsimp only
          omega
      have := Rp.sl (F := There w) (w := w) v ((List.range len).map ys) (some a) cap ls (by rw [hlen]; exact hb.2.1) hb.2.2 (fun j hj => ⟨a, rfl, (hys j (by rwa [hlen] at hj)).2.1, (hys j (by rwa [hlen] at hj)).2.2.1⟩)
        (fun j hj => by have := (hys j (by rwa [hlen] at hj)).1; simpa using this)
      rwa [hlen] at this
    · cases h

/-- Fields, and how each reads. -/
inductive FsX (enc : TypeId × Value → H) (P : Program) (w : World) (base : Nat) (spare : Nat → Bool) (held : Bool) (fuel : Nat) (cs : List Value) : List Field → List (DataW H × List MemPlace) → Prop where
  | nil : FsX enc P w base spare held fuel cs [] []
  | cons (f : Field) (x : DataW H × List MemPlace) (fs : List Field) (xs : List (DataW H × List MemPlace)) : DataW.trod enc P w base spare held fuel f.type ((cs.drop f.offset).take (P.cellsOf f.type)) = some x →
    FsX enc P w base spare held fuel cs fs xs → FsX enc P w base spare held fuel cs (f :: fs) (x :: xs)

theorem fsX_of {fuel : Nat} {cs : List Value} : ∀ {fs : List Field} {xs : List (DataW H × List MemPlace)}, (fs.mapM fun f => DataW.trod enc P w base spare held fuel f.type ((cs.drop f.offset).take (P.cellsOf f.type))) = some xs → FsX enc P w base spare held fuel cs fs xs
  | [], xs, h => by
    have : xs = [] := by simpa using h.symm
    subst this
    exact .nil
  | f :: fs, xs, h => by
    rw [List.mapM_cons] at h
    simp only [bind, Option.bind_eq_some_iff, pure, Option.some.injEq] at h
    obtain ⟨b, h1, bs, h2, rfl⟩ := h
    exact .cons _ _ _ _ h1 (fsX_of h2)

theorem opens_fs {fuel : Nat} {q : Nat → Ty → Bool} (hq : ∀ t u, q t u = true → Opens Z enc P w base spare held fuel t u) : ∀ (fs : List Field) (o : Nat) (u : Ty), rdFs P q o fs u = true → ∀ (cs : List Value), cs.length = o + u.n →
    ∀ {xs : List (DataW H × List MemPlace)}, FsX enc P w base spare held fuel cs fs xs → ∃ y : u.D, Rp (There w) w u y (cs.drop o) ∧
      ∀ B, (∀ m, m ∈ DataW.weightsEach P (fs.map (·.type)) (xs.map (·.1)) → m ≤ B) → ∃ T, Lim B u y T ∧ T ≤ Z.ba (xs.map (·.1))
  | [], o, u, h, cs, hl, xs, hx => by simp [rdFs] at h
  | [f], o, u, h, cs, hl, xs, hx => by
    simp only [rdFs, Bool.and_eq_true] at h
    cases hx with
    | cons _ x _ xs hx hr =>
    cases hr
    rw [Nat.eq_of_beq_eq_true h.1.1, Nat.eq_of_beq_eq_true h.1.2, List.take_of_length_le (by simp; omega)] at hx
    obtain ⟨y, h1, h2⟩ := hq _ _ h.2 _ _ hx
    refine ⟨y, h1, fun B hB => ?_⟩
    obtain ⟨T, h3, h4⟩ := h2 B (fun m hm => hB m (by simp [DataW.weightsEach, hm]))
    exact ⟨T, h3, by have := Z.cons x.1 []; simp only [List.map_cons, List.map_nil]; omega⟩
  | f :: g :: r, o, u, h, cs, hl, xs, hx => by
    cases u <;> simp only [rdFs] at h <;> try (cases h)
    rename_i a b
    simp only [Bool.and_eq_true] at h
    cases hx with
    | cons _ x _ xs hx1 hr =>
    rw [Nat.eq_of_beq_eq_true h.1.1.1, Nat.eq_of_beq_eq_true h.1.1.2] at hx1
    obtain ⟨y, hy, hy2⟩ := hq _ _ h.1.2 _ _ hx1
    simp only [Ty.n] at hl
    obtain ⟨z, hz, hz2⟩ := opens_fs hq (g :: r) (o + a.n) b h.2 cs (by omega) hr
    refine ⟨(y, z), ?_, fun B hB => ?_⟩
    · have := Rp.pair a b y z _ _ hy hz
      rw [← List.drop_drop, List.take_append_drop] at this
      exact this
    · obtain ⟨T1, k1, k2⟩ := hy2 B (fun m hm => hB m (by simp [DataW.weightsEach, hm]))
      obtain ⟨T2, k3, k4⟩ := hz2 B (fun m hm => hB m (by
        show m ∈ x.1.weights P f.type ++ DataW.weightsEach P ((g :: r).map (·.type)) (xs.map (·.1))
        exact List.mem_append.2 (.inr hm)))
      exact ⟨T1 + T2, .pair a b y z T1 T2 k1 k3, by have := Z.cons x.1 (xs.map (·.1)); simp only [List.map_cons] at k4 ⊢; omega⟩

theorem opens_struct {fuel t : Nat} {fs : Array Field} (hu : P.underlying t = some (.struct fs)) {cs : List Value} {x : DataW H × List MemPlace} (h : DataW.trod enc P w base spare held (fuel + 1) t cs = some x) :
    cs.length = P.cellsOf t ∧ ∃ xs, FsX enc P w base spare held fuel cs fs.toList xs ∧ x.1 = .agg (xs.map (·.1)) := by
  unfold DataW.trod at h
  rw [hu] at h
  split at h <;> first | (rename_i he _ <;> simp_all; done) | skip
  all_goals first | (simp_all; done) | skip
  rename_i fs' he
  simp only [Option.some.injEq, TypeDesc.struct.injEq] at he
  subst he
  split at h
  · rename_i hl
    rw [Option.map_eq_some_iff] at h
    obtain ⟨xs, h1, h2⟩ := h
    exact ⟨hl, xs, fsX_of h1, by rw [← h2]⟩
  · cases h

theorem struct_lim {t : Nat} {fs : Array Field} (hu : P.underlying t = some (.struct fs)) {u : Ty} {y : u.D} {d : DataW H} {xs : List (DataW H × List MemPlace)} (hd : d = .agg (xs.map (·.1)))
    (h : ∀ B, (∀ m, m ∈ DataW.weightsEach P (fs.toList.map (·.type)) (xs.map (·.1)) → m ≤ B) → ∃ T, Lim B u y T ∧ T ≤ Z.ba (xs.map (·.1))) : LimOf Z P t u y d := by
  subst hd
  intro B hB
  obtain ⟨T, h1, h2⟩ := h B (fun m hm => hB m (by simp only [DataW.weights, hu]; exact hm))
  exact ⟨T, h1, Nat.le_trans h2 (Z.agg _)⟩

theorem opens_arr {fuel t e n : Nat} {v : Ty} (hu : P.underlying t = some (.array n e)) (ht : P.cellsOf t = n * v.n) (hc : P.cellsOf e = v.n) (ih : Opens Z enc P w base spare held fuel e v) {cs : List Value} {x : DataW H × List MemPlace}
    (h : DataW.trod enc P w base spare held (fuel + 1) t cs = some x) : ∃ y : (Ty.arr n v).D, Rp (There w) w (.arr n v) y cs ∧ LimOf Z P t (.arr n v) y x.1 := by
  unfold DataW.trod at h
  rw [hu] at h
  split at h <;> first | (rename_i he _ <;> simp_all; done) | skip
  all_goals first | (simp_all; done) | skip
  rename_i cs _ _ n1 e1 he
  simp only [Option.some.injEq, TypeDesc.array.injEq] at he
  obtain ⟨rfl, rfl⟩ := he
  split at h
  · rename_i hl
    rw [Option.map_eq_some_iff] at h
    obtain ⟨xs, h1, hx⟩ := h
    obtain ⟨hxl, hg⟩ := mapM_each h1
    rw [List.length_range] at hxl
    have each : ∀ j, ∃ y : v.D, j < n → Rp (There w) w v y ((cs.drop (j * v.n)).take v.n) ∧ ∃ x, xs[j]? = some x ∧ LimOf Z P e v y x.1 := fun j => by
      by_cases hj : j < n
      · obtain ⟨y, hyj, hy⟩ := hg j j (by simp [hj])
        rw [hc] at hy
        obtain ⟨z, hz, hz2⟩ := ih _ _ hy
        exact ⟨z, fun _ => ⟨hz, y, hyj, hz2⟩⟩
      · exact ⟨v.zero, fun h => absurd h hj⟩
    obtain ⟨ys, hys⟩ := Classical.axiomOfChoice each
    refine ⟨(List.range n).map ys, ?_, ?_⟩
    · exact Rp.arr n v _ cs (by simp) (by omega) (fun j hj => by have := (hys j (by simpa using hj)).1; simpa using this)
    · subst hx
      intro B hB
      simp only [DataW.weights, hu] at hB
      obtain ⟨f, g1, g2⟩ := lim_row (P := P) (B := B) (e := e) (ys := (List.range n).map ys) (ds := xs.map (·.1)) (by simp [hxl]) (fun j h1 h2 => by
        obtain ⟨x, hx1, hx2⟩ := (hys j (by simpa using h1)).2
        have e1 : (xs.map (·.1))[j] = x.1 := by
          rw [List.getElem_map]
          have := (List.getElem?_eq_some_iff.1 hx1).2
          rw [this]
        rw [e1]
        simpa using hx2) hB
      exact ⟨_, Lim.arr n v _ f g1, Nat.le_trans g2 (Z.agg _)⟩
  · cases h

theorem wf_range {k : IntKind} {n : Int} (h : (Lit.int k n).wf = true) : k.min ≤ n ∧ n ≤ k.max := by
  simpa [Lit.wf] using h

theorem rd_ok : ∀ (fuel d t : Nat) (u : Ty), rdB P d t u = true → Opens Z enc P w base spare held fuel t u := by
  intro fuel
  induction fuel with
  | zero => intro d t u _ cs x h; simp [DataW.trod] at h
  | succ fuel ih =>
    intro d t u h
    cases d with
    | zero => simp [rdB] at h
    | succ d =>
    cases u with
    | int k =>
      simp only [rdB] at h
      split at h
      · rename_i k' hu
        have := kindEq_sound h; subst this
        intro cs x hx
        obtain ⟨n, rfl, hxe, hw⟩ := DataW.trod_int hu hx
        obtain ⟨h1, h2⟩ := wf_range hw
        subst hxe
        exact ⟨n, .int _ n h1 h2, fun B _ => ⟨1, .int _ _, Z.lit _⟩⟩
      · cases h
    | bool =>
      simp only [rdB] at h
      split at h
      · rename_i hu
        intro cs x hx
        obtain ⟨b, rfl, hxe⟩ := DataW.trod_bool hu hx
        subst hxe
        exact ⟨b, .bool b, fun B _ => ⟨1, .bool _, Z.lit _⟩⟩
      · cases h
    | str =>
      simp only [rdB] at h
      split at h
      · rename_i hu
        intro cs x hx
        obtain ⟨s, rfl, hxe, hs⟩ := DataW.trod_string hu hx
        subst hxe
        refine ⟨s.data.toList, .str _ (by simpa using hs), fun B hB => ⟨_, .str _ (hB _ (by simp [DataW.weights])), Z.str _⟩⟩
      · cases h
    | sl v =>
      simp only [rdB] at h
      split at h
      · rename_i e hu
        simp only [Bool.and_eq_true] at h
        exact opens_slice hu (Nat.eq_of_beq_eq_true h.1.1.1) (by have := h.1.1.2; rwa [Nat.blt_eq] at this) (by have := h.1.2; rwa [Nat.blt_eq] at this) (ih d e v h.2)
      · cases h
    | one v =>
      simp only [rdB] at h
      split at h
      · rename_i fs hu
        simp only [Bool.and_eq_true] at h
        intro cs x hx
        obtain ⟨hl, xs, hf, hxe⟩ := opens_struct hu hx
        obtain ⟨y, hy, hy2⟩ := opens_fs (ih d) fs.toList 0 v h.2 cs (by rw [hl, Nat.eq_of_beq_eq_true h.1.1]; omega) hf
        refine ⟨y, .one v y _ hy, struct_lim hu hxe fun B hB => ?_⟩
        obtain ⟨T, k1, k2⟩ := hy2 B hB
        exact ⟨T, .one v y T k1, k2⟩
      · cases h
    | pair a b =>
      simp only [rdB] at h
      split at h
      · rename_i fs hu
        simp only [Bool.and_eq_true] at h
        intro cs x hx
        obtain ⟨hl, xs, hf, hxe⟩ := opens_struct hu hx
        obtain ⟨y, hy, hy2⟩ := opens_fs (ih d) fs.toList 0 (.pair a b) h.2 cs (by rw [hl, Nat.eq_of_beq_eq_true h.1.1]; simp [Ty.n]) hf
        exact ⟨y, hy, struct_lim hu hxe hy2⟩
      · cases h
    | arr n v =>
      simp only [rdB] at h
      split at h
      · rename_i n' e hu
        simp only [Bool.and_eq_true] at h
        have hn := Nat.eq_of_beq_eq_true h.1.1.2
        subst hn
        intro cs x hx
        exact opens_arr hu (Nat.eq_of_beq_eq_true h.1.1.1) (Nat.eq_of_beq_eq_true h.1.2) (ih d e v h.2) hx
      · cases h
    | node =>
      have h0 := h
      simp only [rdB, Bool.and_eq_true] at h
      obtain ⟨⟨hct, hbyt⟩, h⟩ := h
      split at h
      · rename_i fs hu
        split at h
        · rename_i f0 f1 f2 f3 f4 f5 hfs
          simp only [Bool.and_eq_true] at h
          obtain ⟨⟨⟨⟨⟨⟨⟨⟨⟨⟨⟨⟨⟨⟨⟨⟨⟨o0, o1⟩, o2⟩, o3⟩, o4⟩, o5⟩, c0⟩, c1⟩, c2⟩, c3⟩, c4⟩, c5⟩, r0⟩, r1⟩, r2⟩, r3⟩, r4⟩, r5⟩ := h
          intro cs x hx
          obtain ⟨hl, xs, hf, hxe⟩ := opens_struct hu hx
          rw [Nat.eq_of_beq_eq_true hct] at hl
          rw [hfs] at hf
          obtain ⟨v0, cs, rfl⟩ : ∃ v l, cs = v :: l := by cases cs; simp at hl; exact ⟨_, _, rfl⟩
          obtain ⟨v1, cs, rfl⟩ : ∃ v l, cs = v :: l := by cases cs; simp at hl; exact ⟨_, _, rfl⟩
          obtain ⟨v2, cs, rfl⟩ : ∃ v l, cs = v :: l := by cases cs; simp at hl; exact ⟨_, _, rfl⟩
          obtain ⟨v3, cs, rfl⟩ : ∃ v l, cs = v :: l := by cases cs; simp at hl; exact ⟨_, _, rfl⟩
          obtain ⟨v4, cs, rfl⟩ : ∃ v l, cs = v :: l := by cases cs; simp at hl; exact ⟨_, _, rfl⟩
          obtain ⟨v5, cs, rfl⟩ : ∃ v l, cs = v :: l := by cases cs; simp at hl; exact ⟨_, _, rfl⟩
          have : cs = [] := by cases cs; rfl; simp at hl
          subst this
          cases hf with
          | cons _ x0 _ xs0 g0 hf =>
          cases hf with
          | cons _ x1 _ xs1 g1 hf =>
          cases hf with
          | cons _ x2 _ xs2 g2 hf =>
          cases hf with
          | cons _ x3 _ xs3 g3 hf =>
          cases hf with
          | cons _ x4 _ xs4 g4 hf =>
          cases hf with
          | cons _ x5 _ xs5 g5 hf =>
          cases hf
          rw [Nat.eq_of_beq_eq_true o0, Nat.eq_of_beq_eq_true c0] at g0
          rw [Nat.eq_of_beq_eq_true o1, Nat.eq_of_beq_eq_true c1] at g1
          rw [Nat.eq_of_beq_eq_true o2, Nat.eq_of_beq_eq_true c2] at g2
          rw [Nat.eq_of_beq_eq_true o3, Nat.eq_of_beq_eq_true c3] at g3
          rw [Nat.eq_of_beq_eq_true o4, Nat.eq_of_beq_eq_true c4] at g4
          rw [Nat.eq_of_beq_eq_true o5, Nat.eq_of_beq_eq_true c5] at g5
          obtain ⟨y0, k0, l0⟩ := ih d _ _ r0 _ _ g0
          obtain ⟨y1, k1, l1⟩ := ih d _ _ r1 _ _ g1
          obtain ⟨y2, k2, l2⟩ := ih d _ _ r2 _ _ g2
          obtain ⟨y3, k3, l3⟩ := ih d _ _ r3 _ _ g3
          obtain ⟨y4, k4, l4⟩ := ih d _ _ r4 _ _ g4
          have g5' : ∃ y5 : (Ty.sl .node).D, Rp (There w) w (.sl .node) y5 [v5] ∧ LimOf Z P f5.type (.sl .node) y5 x5.1 := by
            split at r5
            · rename_i e hu5
              have := Nat.eq_of_beq_eq_true r5
              subst this
              cases fuel with
              | zero => simp [DataW.trod] at g5
              | succ fuel =>
                refine opens_slice (v := .node) hu5 (Nat.eq_of_beq_eq_true hct) (by decide) (by rwa [Nat.blt_eq] at hbyt) ?_ _ _ g5
                intro cs x hx
                -- elements by what is shown of one step less
                have := ih (d + 1) e .node h0
                exact this cs x (DataW.trod_succ _ _ _ _ hx)
            · cases r5
          obtain ⟨y5, k5, l5⟩ := g5'
          refine ⟨Node.mk y0 y1 y2 y3 y4 y5, .node _ _ _ _ _ _ _ _ _ _ _ _ k0 k1 k2 k3 k4 k5, struct_lim hu hxe fun B hB => ?_⟩
          rw [hfs] at hB
          simp only [List.map_cons, List.map_nil, DataW.weightsEach, List.mem_append] at hB
          obtain ⟨T2, m2, n2⟩ := l2 B (fun m hm => hB m (.inr (.inr (.inl hm))))
          obtain ⟨T3, m3, n3⟩ := l3 B (fun m hm => hB m (.inr (.inr (.inr (.inl hm)))))
          obtain ⟨T4, m4, n4⟩ := l4 B (fun m hm => hB m (.inr (.inr (.inr (.inr (.inl hm))))))
          obtain ⟨T5, m5, n5⟩ := l5 B (fun m hm => hB m (.inr (.inr (.inr (.inr (.inr (.inl hm)))))))
          exact ⟨_, .node y0 y1 y2 y3 y4 y5 T2 T3 T4 T5 m2 m3 m4 m5, by
            simp only [List.map_cons, List.map_nil]
            have q0 := Z.cons x0.1 [x1.1, x2.1, x3.1, x4.1, x5.1]
            have q1 := Z.cons x1.1 [x2.1, x3.1, x4.1, x5.1]
            have q2 := Z.cons x2.1 [x3.1, x4.1, x5.1]
            have q3 := Z.cons x3.1 [x4.1, x5.1]
            have q4 := Z.cons x4.1 [x5.1]
            have q5 := Z.cons x5.1 []
            omega⟩
        · cases h
      · cases h
end
end Vi

set_option autoImplicit false
namespace Vi
open Go Go.WideShapes

/-- What stands somewhere as a value of a type, no text or row of it longer than what a statement speaks of, and all of it of so much at most. -/
def SzT (K : Nat) (u : Ty) (x : u.D) : Prop := ∃ (F : Nat → Prop) (w : World) (l : List Value), Rp F w u x l ∧ ∃ T, Lim reachBytes u x T ∧ T ≤ K
/-- What stands somewhere as a value of a type, no text or row of it longer than what a statement speaks of. -/
def Sz (u : Ty) (x : u.D) : Prop := ∃ K, SzT K u x

theorem reachBytes_eq : reachBytes = 140737488351232 := rfl
theorem SzT.sz {K : Nat} {u : Ty} {x : u.D} (h : SzT K u x) : Sz u x := ⟨K, h⟩
theorem Lim.sl_inv {B T : Nat} {u : Ty} {xs : List u.D} (h : Lim B (.sl u) xs T) : ∃ f : Nat → Nat, xs.length ≤ B ∧ (∀ j (h : j < xs.length), Lim B u xs[j] (f j)) ∧ T = ((List.range xs.length).map f).sum + 1 := by
  cases h with
  | sl _ _ f h1 h2 => exact ⟨f, h1, h2, rfl⟩
theorem Lim.arr_inv {B T k : Nat} {u : Ty} {xs : List u.D} (h : Lim B (.arr k u) xs T) : ∃ f : Nat → Nat, (∀ j (h : j < xs.length), Lim B u xs[j] (f j)) ∧ T = ((List.range xs.length).map f).sum := by
  cases h with
  | arr _ _ _ f h1 => exact ⟨f, h1, rfl⟩
theorem Lim.pair_inv {B T : Nat} {a b : Ty} {x : a.D × b.D} (h : Lim B (.pair a b) x T) : ∃ T1 T2, Lim B a x.1 T1 ∧ Lim B b x.2 T2 ∧ T = T1 + T2 := by
  cases h with
  | pair _ _ _ _ T1 T2 h1 h2 => exact ⟨T1, T2, h1, h2, rfl⟩
theorem Lim.one_inv {B T : Nat} {a : Ty} {x : a.D} (h : Lim B (.one a) x T) : Lim B a x T := by
  cases h with
  | one _ _ _ h1 => exact h1
theorem Lim.str_inv {B T : Nat} {s : Str} (h : Lim B .str s T) : s.length ≤ B ∧ T = s.length + 1 := by
  cases h with
  | str _ h1 => exact ⟨h1, rfl⟩
theorem sum_mem {f : Nat → Nat} {n j : Nat} (h : j < n) : f j ≤ ((List.range n).map f).sum := by
  induction n with
  | zero => omega
  | succ n ih =>
    rw [List.range_succ, List.map_append, List.sum_append]
    simp only [List.map_cons, List.map_nil, List.sum_cons, List.sum_nil]
    by_cases hj : j = n
    · subst hj; omega
    · have := ih (by omega); omega

theorem SzT.mem {K : Nat} {u : Ty} {xs : List u.D} (h : SzT K (.sl u) xs) : ∀ x, x ∈ xs → SzT K u x := by
  obtain ⟨F, w, l, h, T, hT, hK⟩ := h
  obtain ⟨_, c, ls, _, _, _, _, h4⟩ := h.sl_inv
  obtain ⟨f, _, g2, rfl⟩ := hT.sl_inv
  intro x hx
  obtain ⟨i, hi, rfl⟩ := List.getElem_of_mem hx
  exact ⟨F, w, _, h4 i hi, f i, g2 i hi, by have := sum_mem (f := f) hi; omega⟩
theorem SzT.pair {K : Nat} {a b : Ty} {x : a.D × b.D} (h : SzT K (.pair a b) x) : SzT K a x.1 ∧ SzT K b x.2 := by
  obtain ⟨F, w, l, h, T, hT, hK⟩ := h
  obtain ⟨l1, l2, _, h1, h2⟩ := h.pair_inv
  obtain ⟨T1, T2, g1, g2, rfl⟩ := hT.pair_inv
  exact ⟨⟨F, w, l1, h1, T1, g1, by omega⟩, F, w, l2, h2, T2, g2, by omega⟩
theorem Sz.sl {u : Ty} {xs : List u.D} (h : Sz (.sl u) xs) : xs.length ≤ 9223372036854775807 := by
  obtain ⟨K, F, w, l, h, _⟩ := h
  obtain ⟨_, c, _, _, h1, h2, _⟩ := h.sl_inv
  exact Nat.le_trans h1 h2
theorem Sz.sl47 {u : Ty} {xs : List u.D} (h : Sz (.sl u) xs) : xs.length ≤ 140737488351232 := by
  obtain ⟨K, F, w, l, h, T, hT, hK⟩ := h
  obtain ⟨f, g1, _⟩ := hT.sl_inv
  exact g1
theorem Sz.mem {u : Ty} {xs : List u.D} (h : Sz (.sl u) xs) : ∀ x, x ∈ xs → Sz u x := by
  obtain ⟨K, h⟩ := h
  exact fun x hx => ⟨K, h.mem x hx⟩
theorem Sz.arr {k : Nat} {u : Ty} {xs : List u.D} (h : Sz (.arr k u) xs) : xs.length = k ∧ ∀ x, x ∈ xs → Sz u x := by
  obtain ⟨K, F, w, l, h, T, hT, hK⟩ := h
  obtain ⟨h1, h2, h3⟩ := h.arr_inv
  obtain ⟨f, g2, rfl⟩ := hT.arr_inv
  refine ⟨h1, fun x hx => ?_⟩
  obtain ⟨i, hi, rfl⟩ := List.getElem_of_mem hx
  exact ⟨K, F, w, _, h3 i hi, f i, g2 i hi, by have := sum_mem (f := f) hi; omega⟩
theorem Sz.str47 {s : Str} (h : Sz .str s) : s.length ≤ 140737488351232 := by
  obtain ⟨K, F, w, l, h, T, hT, hK⟩ := h
  exact hT.str_inv.1
theorem Sz.str {s : Str} (h : Sz .str s) : s.length ≤ 9223372036854775807 := by
  have := h.str47
  omega
theorem Sz.int {k : IntKind} {n : Int} (h : Sz (.int k) n) : k.min ≤ n ∧ n ≤ k.max := by
  obtain ⟨K, F, w, l, h, _⟩ := h
  exact h.int_inv.2
theorem Sz.pair {a b : Ty} {x : a.D × b.D} (h : Sz (.pair a b) x) : Sz a x.1 ∧ Sz b x.2 := by
  obtain ⟨K, h⟩ := h
  exact ⟨⟨K, h.pair.1⟩, K, h.pair.2⟩
theorem Sz.one {a : Ty} {x : a.D} (h : Sz (.one a) x) : Sz a x := by
  obtain ⟨K, F, w, l, h, T, hT, hK⟩ := h
  exact ⟨K, F, w, l, h.one_inv, T, hT.one_inv, hK⟩
theorem Sz.node {n : Node} (h : Sz .node n) : Sz (.int .i64) n.kind ∧ Sz (.int .i64) n.space ∧ Sz .str n.name ∧ Sz (.sl (.pair .str .str)) n.attrs ∧ Sz .str n.text ∧ Sz (.sl .node) n.kids := by
  obtain ⟨K, F, w, l, h, T, hT, hK⟩ := h
  obtain ⟨v0, v1, v2, v3, v4, v5, _, h0, h1, h2, h3, h4, h5⟩ := h.node_inv
  cases hT with
  | node k s n a t kk T1 T2 T3 T4 g1 g2 g3 g4 =>
  exact ⟨⟨_, F, w, _, h0, 1, .int _ _, Nat.le_refl _⟩, ⟨_, F, w, _, h1, 1, .int _ _, Nat.le_refl _⟩, ⟨_, F, w, _, h2, _, g1, Nat.le_refl _⟩, ⟨_, F, w, _, h3, _, g2, Nat.le_refl _⟩, ⟨_, F, w, _, h4, _, g3, Nat.le_refl _⟩, _, F, w, _, h5, _, g4, Nat.le_refl _⟩

section
variable {H : Type} {enc : TypeId × Value → H} {P : Program} {W : World} {base : Nat} {spare : Nat → Bool} {held : Bool}

theorem arg_okT (Z : BlkFn H) {t : Nat} {u : Ty} {v : Value} {r : Reach} {b0 : Nat} {d : DataW H} {ps : List MemPlace} (hr : rdB P 12 t u = true) (hval : Value.okWide P W r b0 t v) (hd : DataW.Trod enc P W base spare held t v d ps)
    (hw : ∀ m, m ∈ d.weights P t → m ≤ reachBytes) :
    ∃ x : u.D, SzT (Z.b d) u x ∧ ∀ (F : Nat → Prop) (S : Nat → Sh) (μ : Nat → Value), (∀ b, There W b → F b) → QR F W S μ (asQ u x) v := by
  obtain ⟨fuel, hf⟩ := hd
  obtain ⟨x, hx, hlim⟩ := rd_ok (Z := Z) fuel 12 t u hr _ _ hf
  refine ⟨x, ⟨_, _, _, hx, hlim _ hw⟩, fun F S μ hF => ?_⟩
  have hx' := hx.mono hF (fun _ _ => rfl)
  unfold rdB at hr
  cases u with
  | int k =>
    simp only at hr
    split at hr
    · rename_i k' hu
      obtain ⟨n, rfl⟩ := okWide_int hu hval
      exact ⟨rfl, rfl, hx'⟩
    · cases hr
  | bool =>
    simp only at hr
    split at hr
    · rename_i hu
      obtain ⟨n, rfl⟩ := okWide_bool hu hval
      exact ⟨rfl, rfl, hx'⟩
    · cases hr
  | str =>
    simp only at hr
    split at hr
    · rename_i hu
      obtain ⟨n, rfl⟩ := okWide_string hu hval
      exact ⟨rfl, rfl, hx'⟩
    · cases hr
  | sl w =>
    simp only at hr
    split at hr
    · rename_i e hu
      obtain ⟨a, l, c, rfl⟩ := okWide_slice hu hval
      exact ⟨rfl, rfl, hx'⟩
    · cases hr
  | one w =>
    simp only at hr
    split at hr
    · rename_i fs hu
      obtain ⟨cs, rfl, _⟩ := okWide_struct hu hval
      exact ⟨rfl, cs.toList, by simp, hx'⟩
    · cases hr
  | pair a b =>
    simp only at hr
    split at hr
    · rename_i fs hu
      obtain ⟨cs, rfl, _⟩ := okWide_struct hu hval
      exact ⟨rfl, cs.toList, by simp, hx'⟩
    · cases hr
  | arr n w =>
    simp only at hr
    split at hr
    · rename_i n' e hu
      have : ∃ cs, v = .agg cs := by
        unfold Value.okWide at hval
        rw [hu] at hval
        obtain ⟨cs, h, _⟩ := hval
        exact ⟨cs, h⟩
      obtain ⟨cs, rfl⟩ := this
      exact ⟨rfl, cs.toList, by simp, hx'⟩
    · cases hr
  | node =>
    simp only [Bool.and_eq_true] at hr
    obtain ⟨_, hr⟩ := hr
    split at hr
    · rename_i fs hu
      obtain ⟨cs, rfl, _⟩ := okWide_struct hu hval
      exact ⟨rfl, cs.toList, by simp, hx'⟩
    · cases hr

theorem arg_ok {t : Nat} {u : Ty} {v : Value} {r : Reach} {b0 : Nat} {d : DataW H} {ps : List MemPlace} (hr : rdB P 12 t u = true) (hval : Value.okWide P W r b0 t v) (hd : DataW.Trod enc P W base spare held t v d ps)
    (hw : ∀ m, m ∈ d.weights P t → m ≤ reachBytes) : ∃ x : u.D, Sz u x ∧ ∀ (F : Nat → Prop) (S : Nat → Sh) (μ : Nat → Value), (∀ b, There W b → F b) → QR F W S μ (asQ u x) v := by
  obtain ⟨Z⟩ := blkSize H
  obtain ⟨x, h1, h2⟩ := arg_okT Z hr hval hd hw
  exact ⟨x, h1.sz, h2⟩

/-- Values that stand for what is known of slots. -/
def slotsR (F : Nat → Prop) (w : World) (S : Nat → Sh) (μ : Nat → Value) (us : List Value) : List (Nat × Q) → Prop
  | [] => True
  | x :: r => QR F w S μ x.2 (us.getD x.1 undef) ∧ slotsR F w S μ us r
theorem slotsR_mem {F : Nat → Prop} {w : World} {S : Nat → Sh} {μ : Nat → Value} {us : List Value} : ∀ {l : List (Nat × Q)}, slotsR F w S μ us l → ∀ x, x ∈ l → QR F w S μ x.2 (us.getD x.1 undef)
  | y :: l, h, x, hx => by
    rcases List.mem_cons.1 hx with rfl | hx
    · exact h.1
    · exact slotsR_mem h.2 x hx

theorem law_okG {G : Gs} (hG : GOk G (fun _ => False) W (fun _ => .dead) (fun _ => undef)) {f : Nat} {slots : List (Nat × KQ)} {body : Pat.V ⟨slots, []⟩ → Tree ((p : Pat) × p.V)} (hc : CtrOk P f ⟨0, ⟨slots, []⟩, body, 0⟩ G) {v : Pat.V ⟨slots, []⟩} {us : List Value}
    (hb : (body v).Sel (fun _ => .dead) ⟨⟨[(0, .ce (.v .bool))], []⟩, (true, ())⟩)
    (hs : ∀ (F : Nat → Prop) (S : Nat → Sh) (μ : Nat → Value), (∀ b, There W b → F b) → slotsR F W S μ us (slotsEmb Nat.succ slots (vsplit (slotTys slots) v).1)) :
    Calls P f us.toArray W fun e w' => e = .returned (.bool true) ∧ Go.RowKit.Below W.heap.size W w' := by
  have h := hc.2 (fun _ => .dead) v ⟨⟨[(0, .ce (.v .bool))], []⟩, (true, ())⟩ hb
  have hdead : ∀ id, (Pat.st ⟨slots, []⟩ v).ent id = .dead := fun id => rfl
  have hfr : ∀ (X : Nat → Prop) b, (∀ b, ¬ X b) → There W b → Fr X W (Pat.st ⟨slots, []⟩ v).ent (fun _ => undef) b := fun X b hX hb => ⟨⟨hb, hX b⟩, fun id he => absurd (hdead id) he⟩
  have hrep : Rep (fun _ => False) (patA ⟨slots, []⟩) (Pat.st ⟨slots, []⟩ v).ent (fun _ => undef) W :=
    ⟨fun id => by rw [hdead]; trivial, fun i j b _ he => absurd (hdead i) he, fun id he => absurd (hdead id) he, fun id b he => absurd (hdead id) he, fun b hb => hb.elim⟩
  have hr := h (fun _ => False) (fun _ => undef) W us (.inl rfl) ⟨fun x hx => ⟨(hG.1 x hx).1, (hG.1 x hx).2.1, fun id he => absurd (hdead id) he⟩, fun x hx => ⟨(hG.2 x hx).1, (hG.2 x hx).2.1, fun id he => absurd (hdead id) he⟩⟩ hrep (slotsR_mem (hs _ _ _ fun b hb => hfr _ b (fun _ h => h) hb))
  refine Calls.mono hr fun e w' he => ?_
  cases e with
  | returned u =>
    obtain ⟨μ', hp⟩ := he
    have hres := hp.res
    have hu : u = .bool true := bool_of hres
    subst hu
    exact ⟨rfl, hp.os, hp.tape, hp.output, hp.size, fun k hk => hp.blk k (hfr _ k (fun _ h => h) hk)⟩
  | panicked _ => exact he.elim
  | outgrown => exact he.elim
theorem law_ok {f : Nat} {slots : List (Nat × KQ)} {body : Pat.V ⟨slots, []⟩ → Tree ((p : Pat) × p.V)} (hc : CtrOk P f ⟨0, ⟨slots, []⟩, body, 0⟩) {v : Pat.V ⟨slots, []⟩} {us : List Value}
    (hb : (body v).Sel (fun _ => .dead) ⟨⟨[(0, .ce (.v .bool))], []⟩, (true, ())⟩)
    (hs : ∀ (F : Nat → Prop) (S : Nat → Sh) (μ : Nat → Value), (∀ b, There W b → F b) → slotsR F W S μ us (slotsEmb Nat.succ slots (vsplit (slotTys slots) v).1)) :
    Calls P f us.toArray W fun e w' => e = .returned (.bool true) ∧ Go.RowKit.Below W.heap.size W w' := law_okG (G := {}) ⟨fun x hx => (by cases hx), fun x hx => (by cases hx)⟩ hc hb hs
end
end Vi

set_option autoImplicit false
namespace Vi
open Go

theorem pure_okG {P : Program} {G : Gs} {f ex : Nat} {slots oslots : List (Nat × KQ)} {body : Pat.V ⟨slots, []⟩ → Tree ((p : Pat) × p.V)} {v : Pat.V ⟨slots, []⟩} {z : Pat.V ⟨oslots, []⟩}
    (h : ∀ (F : Nat → Prop) (S : Nat → Sh) (μ : Nat → Value) (w : World) (us : List Value), (∀ g, g ∈ G.nums → ∃ m, w.cell? ⟨g, 0, none⟩ = some (.int .i64 m)) → (∀ b, F b → b < w.heap.size) → (ex = 0 ∨ us.length = ex) →
      (∀ x, x ∈ slotsEmb Nat.succ slots (vsplit (slotTys slots) v).1 → QR F w S μ x.2 (us.getD x.1 undef)) →
      Returns P f us.toArray w fun u w' => Go.RowKit.Below w.heap.size w w' ∧ ∀ (F' : Nat → Prop) (S' : Nat → Sh) (μ' : Nat → Value), (∀ b, F b → F' b) → (∀ b, w.heap.size ≤ b → b < w'.heap.size → F' b) →
        PR F' w' S' μ' (resPV Nat.succ ⟨⟨oslots, []⟩, z⟩) u) :
    SoundAt P f ⟨0, ⟨slots, []⟩, body, ex⟩ v ⟨⟨oslots, []⟩, z⟩ G := by
  intro X μ w us hex hG hr hs
  have hdead : ∀ id, (Pat.st ⟨slots, []⟩ v).ent id = .dead := fun id => rfl
  have hdead' : ∀ id, (Pat.st ⟨oslots, []⟩ z).ent id = .dead := fun id => rfl
  refine (h _ _ _ w us (fun g hg => (hG.1 g hg).1) (fun b hb => hb.1.1) hex hs).mono fun u w' hp => ?_
  obtain ⟨bel, hp⟩ := hp
  refine ⟨fun _ => undef, ?_⟩
  have hX : ∀ b, X b → b < w'.heap.size := fun b hb => Nat.lt_of_lt_of_le (hr.hlt b hb) bel.size
  exact {
    rep := ⟨fun id => by rw [hdead']; trivial, fun i j b _ he => absurd (hdead' i) he, fun id he => absurd (hdead' id) he, fun id b he => absurd (hdead' id) he, hX⟩
    res := hp _ _ _ (fun b hb => ⟨⟨Nat.lt_of_lt_of_le hb.1.1 bel.size, hb.1.2⟩, fun id he => absurd (hdead' id) he⟩) (fun b h1 h2 => ⟨⟨h2, fun hx => by have := hr.hlt b hx; omega⟩, fun id he => absurd (hdead' id) he⟩)
    kept := fun j hj => absurd hj (Nat.not_lt_zero _)
    os := bel.os
    tape := bel.tape
    output := bel.output
    size := bel.size
    blk := fun b hb => bel.block b hb.1.1
    own := fun id b he => absurd (hdead' id) he
    sh := fun j hj => absurd hj (Nat.not_lt_zero _) }

theorem pure_ok {P : Program} {G : Gs} {f ex : Nat} {slots oslots : List (Nat × KQ)} {body : Pat.V ⟨slots, []⟩ → Tree ((p : Pat) × p.V)} {v : Pat.V ⟨slots, []⟩} {z : Pat.V ⟨oslots, []⟩}
    (h : ∀ (F : Nat → Prop) (S : Nat → Sh) (μ : Nat → Value) (w : World) (us : List Value), (∀ b, F b → b < w.heap.size) → (ex = 0 ∨ us.length = ex) →
      (∀ x, x ∈ slotsEmb Nat.succ slots (vsplit (slotTys slots) v).1 → QR F w S μ x.2 (us.getD x.1 undef)) →
      Returns P f us.toArray w fun u w' => Go.RowKit.Below w.heap.size w w' ∧ ∀ (F' : Nat → Prop) (S' : Nat → Sh) (μ' : Nat → Value), (∀ b, F b → F' b) → (∀ b, w.heap.size ≤ b → b < w'.heap.size → F' b) →
        PR F' w' S' μ' (resPV Nat.succ ⟨⟨oslots, []⟩, z⟩) u) :
    SoundAt P f ⟨0, ⟨slots, []⟩, body, ex⟩ v ⟨⟨oslots, []⟩, z⟩ G := pure_okG fun F S μ w us _ => h F S μ w us

theorem slstr_arg {F : Nat → Prop} {w : World} {S : Nat → Sh} {μ : Nat → Value} {l : List Str} {u : Value} (h : QR F w S μ (.ce (.v (.sl .str) l)) u) :
    ∃ (Aa : Option Addr) (c : Nat), u = .slice Aa l.length c ∧ l.length ≤ c ∧ c ≤ maxLen ∧ ∀ (j : Nat) (x : Str), l[j]? = some x → ∃ ad : Addr, Aa = some ad ∧ F ad.block ∧ w.cell? (ad.add j) = some (.string ⟨x.toArray⟩) := by
  obtain ⟨Aa, c, ls, hu, g1, g2, g3, g4⟩ := h.2.2.sl_inv
  simp only [List.cons.injEq, and_true] at hu
  refine ⟨Aa, c, hu, g1, g2, fun j x hx => ?_⟩
  obtain ⟨hj, rfl⟩ := List.getElem?_eq_some_iff.1 hx
  obtain ⟨ad, h1, h2, h3⟩ := g3 j hj
  obtain ⟨e, _⟩ := (g4 j hj).str_inv
  have e2 : w.cell? (ad.add (j * 1 + 0)) = some (.string ⟨(l[j]).toArray⟩) := h3 0 _ (by rw [e]; rfl)
  rw [Nat.mul_one] at e2
  exact ⟨ad, h1, h2, e2⟩
theorem slint_arg {F : Nat → Prop} {w : World} {S : Nat → Sh} {μ : Nat → Value} {k : IntKind} {l : List Int} {u : Value} (h : QR F w S μ (.ce (.v (.sl (.int k)) l)) u) :
    ∃ (Aa : Option Addr) (c : Nat), u = .slice Aa l.length c ∧ l.length ≤ c ∧ c ≤ maxLen ∧ ∀ (j : Nat) (x : Int), l[j]? = some x → (k.min ≤ x ∧ x ≤ k.max) ∧ ∃ ad : Addr, Aa = some ad ∧ F ad.block ∧ w.cell? (ad.add j) = some (.int k x) := by
  obtain ⟨Aa, c, ls, hu, g1, g2, g3, g4⟩ := h.2.2.sl_inv
  simp only [List.cons.injEq, and_true] at hu
  refine ⟨Aa, c, hu, g1, g2, fun j x hx => ?_⟩
  obtain ⟨hj, rfl⟩ := List.getElem?_eq_some_iff.1 hx
  obtain ⟨ad, h1, h2, h3⟩ := g3 j hj
  obtain ⟨e, e2⟩ := (g4 j hj).int_inv
  have e3 : w.cell? (ad.add (j * 1 + 0)) = some (.int k l[j]) := h3 0 _ (by rw [e]; rfl)
  rw [Nat.mul_one] at e3
  exact ⟨e2, ad, h1, h2, e3⟩
theorem slint_nil {F : Nat → Prop} {w : World} {S : Nat → Sh} {μ : Nat → Value} {k : IntKind} : PR F w S μ (.one (.ce (.v (.sl (.int k)) ([] : List Int)))) (.slice none 0 0) :=
  ⟨rfl, rfl, .sl _ [] none 0 (fun _ => []) (Nat.le_refl _) (Nat.zero_le _) (fun j hj => absurd hj (Nat.not_lt_zero _)) (fun j hj => absurd hj (Nat.not_lt_zero _))⟩
theorem slint_res {F : Nat → Prop} {w : World} {S : Nat → Sh} {μ : Nat → Value} {k : IntKind} {l : List Int} {g cap : Nat} (h1 : l.length ≤ cap) (h2 : cap ≤ maxLen) (hg : F g)
    (hc : ∀ (j : Nat) (x : Int), l[j]? = some x → (k.min ≤ x ∧ x ≤ k.max) ∧ w.cell? ⟨g, j, none⟩ = some (.int k x)) : PR F w S μ (.one (.ce (.v (.sl (.int k)) l))) (.slice (some ⟨g, 0, none⟩) l.length cap) := by
  refine ⟨rfl, rfl, .sl (.int k) l (some ⟨g, 0, none⟩) cap (fun j => [.int k (l.getD j 0)]) h1 h2 (fun j hj => ⟨_, rfl, hg, fun i x hx => ?_⟩) (fun j hj => ?_)⟩
  · have hj' : j < l.length := hj
    cases i with
    | zero =>
      simp only [List.getElem?_cons_zero, Option.some.injEq] at hx
      subst hx
      have := (hc j _ (List.getElem?_eq_getElem hj')).2
      have e : l.getD j 0 = l[j] := by rw [List.getD_eq_getElem?_getD, List.getElem?_eq_getElem hj']; rfl
      rw [show l.getD j 0 = l[j] from e, show j * Ty.n (.int k) + 0 = j from Nat.mul_one j, Addr.add_mid, Nat.zero_add]
      exact this
    | succ i => simp at hx
  · have hj' : j < l.length := hj
    have e : l.getD j 0 = l[j] := by rw [List.getD_eq_getElem?_getD, List.getElem?_eq_getElem hj']; rfl
    have := (hc j _ (List.getElem?_eq_getElem hj')).1
    rw [e]
    exact .int k _ this.1 this.2

/-- The other way round: what a contract tells of a function of values alone. -/
theorem val_ok {P : Program} {f ex : Nat} {slots oslots : List (Nat × KQ)} {body : Pat.V ⟨slots, []⟩ → Tree ((p : Pat) × p.V)} (hc : CtrOk P f ⟨0, ⟨slots, []⟩, body, ex⟩) {v : Pat.V ⟨slots, []⟩} {us : List Value} {z : Pat.V ⟨oslots, []⟩} {W : World}
    (hex : ex = 0 ∨ us.length = ex) (hb : (body v).Sel (fun _ => .dead) ⟨⟨oslots, []⟩, z⟩)
    (hs : ∀ (F : Nat → Prop) (S : Nat → Sh) (μ : Nat → Value), (∀ b, There W b → F b) → slotsR F W S μ us (slotsEmb Nat.succ slots (vsplit (slotTys slots) v).1)) :
    Calls P f us.toArray W fun e W' => Go.RowKit.Below W.heap.size W W' ∧ ∃ (u : Value) (F : Nat → Prop) (S : Nat → Sh) (μ : Nat → Value), e = .returned u ∧ PR F W' S μ (resPV Nat.succ ⟨⟨oslots, []⟩, z⟩) u := by
  have h := hc.2 (fun _ => .dead) v ⟨⟨oslots, []⟩, z⟩ hb
  have hdead : ∀ id, (Pat.st ⟨slots, []⟩ v).ent id = .dead := fun id => rfl
  have hfr : ∀ (X : Nat → Prop) b, (∀ b, ¬ X b) → There W b → Fr X W (Pat.st ⟨slots, []⟩ v).ent (fun _ => undef) b := fun X b hX hb => ⟨⟨hb, hX b⟩, fun id he => absurd (hdead id) he⟩
  have hrep : Rep (fun _ => False) (patA ⟨slots, []⟩) (Pat.st ⟨slots, []⟩ v).ent (fun _ => undef) W :=
    ⟨fun id => by rw [hdead]; trivial, fun i j b _ he => absurd (hdead i) he, fun id he => absurd (hdead id) he, fun id b he => absurd (hdead id) he, fun b hb => hb.elim⟩
  have hr := h (fun _ => False) (fun _ => undef) W us hex ⟨fun x hx => (by cases hx), fun x hx => (by cases hx)⟩ hrep (slotsR_mem (hs _ _ _ fun b hb => hfr _ b (fun _ h => h) hb))
  refine Calls.mono hr fun e w' he => ?_
  cases e with
  | returned u =>
    obtain ⟨μ', hp⟩ := he
    exact ⟨⟨hp.os, hp.tape, hp.output, hp.size, fun k hk => hp.blk k (hfr _ k (fun _ h => h) hk)⟩, u, _, _, _, rfl, hp.res⟩
  | panicked _ => exact he.elim
  | outgrown => exact he.elim

/-- A function that reads what is there and makes new things: a contract out of what is known of its calls. -/
theorem read_ok {P : Program} {G : Gs} {f : Nat} {c : Ctr} {v : c.inp.V} {r : (p : Pat) × p.V} (hent : (r.1.st r.2).ent = (c.inp.st v).ent) (hA : patA r.1 = patA c.inp)
    (h : ∀ (X : Nat → Prop) (μ : Nat → Value) (w : World) (us : List Value), (c.ex = 0 ∨ us.length = c.ex) → Rep X (patA c.inp) (c.inp.st v).ent μ w →
      (∀ x, x ∈ slotsEmb Nat.succ c.inp.slots (vsplit (slotTys c.inp.slots) v).1 → QR (Fr X w (c.inp.st v).ent μ) w (Sf (patA c.inp) (c.inp.st v).ent) μ x.2 (us.getD x.1 undef)) →
      Returns P f us.toArray w fun u w' => Go.RowKit.Below w.heap.size w w' ∧ ∀ (F' : Nat → Prop) (S' : Nat → Sh), (∀ b, w.heap.size ≤ b → b < w'.heap.size → F' b) → PR F' w' S' μ (resPV Nat.succ r) u) :
    SoundAt P f c v r G := by
  intro X μ w us hex _ hr hs
  refine (h X μ w us hex hr hs).mono fun u w' hp => ?_
  obtain ⟨bel, hp⟩ := hp
  have hx : Ext X 0 (patA c.inp) (c.inp.st v).ent μ w (patA c.inp) (c.inp.st v).ent μ w' :=
    ⟨bel.os, bel.tape, bel.output, bel.size, fun b hb => bel.block b hb.1.1, fun id b hd hb => .inl ⟨id, hd, hb⟩, fun id => .inr (.inl rfl), fun _ _ => rfl, fun _ h => h, fun _ h => .inl h⟩
  have hrep : Rep X (patA c.inp) (c.inp.st v).ent μ w' :=
    hr.step hx (fun id hd => .inl ⟨rfl, rfl, fun b hb => bel.block b ((hr.ent id).lt hd hb)⟩) hr.sep hr.born
  refine ⟨μ, ?_⟩
  exact {
    rep := by rw [hent, hA]; exact hrep
    res := by
      rw [hent, hA]
      exact hp _ _ (fun b h1 h2 => ⟨⟨h2, fun hX => by have := hr.hlt b hX; omega⟩, fun id hd hb => by have := (hr.ent id).lt hd hb; omega⟩)
    kept := fun j _ => rfl
    os := bel.os
    tape := bel.tape
    output := bel.output
    size := bel.size
    blk := fun b hb => bel.block b hb.1.1
    own := fun id b he hb => by rw [hent] at he; exact .inl ⟨id, he, hb⟩
    sh := fun j _ => by rw [hent, hA]; exact .inl rfl }
theorem slstr_nil {F : Nat → Prop} {w : World} {S : Nat → Sh} {μ : Nat → Value} : PR F w S μ (.one (.ce (.v (.sl .str) ([] : List Str)))) (.slice none 0 0) :=
  ⟨rfl, rfl, .sl _ [] none 0 (fun _ => []) (Nat.le_refl _) (Nat.zero_le _) (fun j hj => absurd hj (Nat.not_lt_zero _)) (fun j hj => absurd hj (Nat.not_lt_zero _))⟩
theorem slstr_res {F : Nat → Prop} {w : World} {S : Nat → Sh} {μ : Nat → Value} {l : List Str} {g cap : Nat} (h1 : l.length ≤ cap) (h2 : cap ≤ maxLen) (hg : F g) (hm : ∀ s, s ∈ l → s.length ≤ maxLen)
    (hc : ∀ (j : Nat) (s : Str), l[j]? = some s → w.cell? ⟨g, j, none⟩ = some (.string ⟨s.toArray⟩)) : PR F w S μ (.one (.ce (.v (.sl .str) l))) (.slice (some ⟨g, 0, none⟩) l.length cap) := by
  refine ⟨rfl, rfl, .sl .str l (some ⟨g, 0, none⟩) cap (fun j => [.string ⟨(l.getD j []).toArray⟩]) h1 h2 (fun j hj => ⟨_, rfl, hg, fun i x hx => ?_⟩) (fun j hj => ?_)⟩
  · have hj' : j < l.length := hj
    cases i with
    | zero =>
      simp only [List.getElem?_cons_zero, Option.some.injEq] at hx
      subst hx
      have := hc j _ (List.getElem?_eq_getElem hj')
      have e : l.getD j [] = l[j] := by rw [List.getD_eq_getElem?_getD, List.getElem?_eq_getElem hj']; rfl
      rw [e, show j * Ty.n .str + 0 = j from Nat.mul_one j, Addr.add_mid, Nat.zero_add]
      exact this
    | succ i => simp at hx
  · have hj' : j < l.length := hj
    have e : l.getD j [] = l[j] := by rw [List.getD_eq_getElem?_getD, List.getElem?_eq_getElem hj']; rfl
    rw [e]
    exact .str _ (hm _ (List.getElem_mem _))

theorem str_arg {F : Nat → Prop} {w : World} {S : Nat → Sh} {μ : Nat → Value} {s : Str} {u : Value} (h : QR F w S μ (.ce (.v .str s)) u) : u = .string ⟨s.toArray⟩ ∧ s.length ≤ maxLen := str_of h
end Vi
