/- A range over a function whose iterator writes a box of its own between two rounds. Theorems. -/
import Derived.Test.YtpgodffogmgnhaaFnlN
import Derived.Test.YtpgodffogmgnhaaPlN
import Derived.Test.YtpgodffogmgnhaaPlL
import Derived.Test.YtpgodffogmgnhaaViThree
import Derived.RangeFuncNested
import Derived.RangeFuncBound
import Derived.RangeFuncCalls
import Derived.RangeFuncLeaves
import Derived.RangeFuncBox
import Derived.Shelf.Abstract
import Derived.Shelf.RegionOpen
import Derived.WalkKit
import Derived.OwnWalkIn
import Derived.TacticsInMore
import Derived.LoopNIn
import Derived.LoopIn
import Derived.Maps.AppendAt
set_option linter.unnecessarySimpa false
set_option linter.unusedVariables false
set_option linter.unusedSectionVars false
set_option linter.unusedSimpArgs false
set_option autoImplicit false
set_option linter.unusedVariables false
section
open Vi
namespace Sp
end Sp
end

namespace Go.Proofs
open Go.RowKit Go.Shelf Vi
attribute [local go_sem] Oper.semAt_some

abbrev sv (s : Vi.Str) : Value := .string ⟨s.toArray⟩

theorem takeText_calls (b : Vi.Str) (hb : b.length ≤ 9223372036854775807) (hm : b.length ≤ maxLen) (w : World) :
    Calls Try.prog 92 #[sv b] w fun e w' => e = .returned (.tuple #[sv (Sp.takeText b).1, sv (Sp.takeText b).2.1, .int .i64 (Sp.takeText b).2.2]) ∧ Below w.heap.size w w' := by
  refine Calls.mono (Vi.val_ok (W := w) (us := [sv b]) (oslots := [(0, .ce (.v .str)), (1, .ce (.v .str)), (2, .ce (.v (.int .i64)))]) Vs.ctr_quill_TakeText (v := (b, ())) (z := ((Sp.takeText b).1, (Sp.takeText b).2.1, (Sp.takeText b).2.2, ())) (.inl rfl) ⟨hb, rfl⟩ (fun F S μ hF => ⟨pr_str (s := b) hm, trivial⟩)) fun e w' he => ?_
  obtain ⟨hbel, u, F, S, μ, rfl, us, rfl, hq⟩ := he
  refine ⟨?_, hbel⟩
  have h0 := hq.at 0
  have h1 := hq.at 1
  have h2 := hq.at 2
  have hl := hq.len
  match us, hl with
  | [u0, u1, u2], _ =>
  obtain ⟨e0, _⟩ := str_of (x := (Sp.takeText b).1) h0
  obtain ⟨e1, _⟩ := str_of (x := (Sp.takeText b).2.1) h1
  obtain ⟨e2, _⟩ := int_of (x := (Sp.takeText b).2.2) h2
  have e0 : u0 = _ := e0
  have e1 : u1 = _ := e1
  have e2 : u2 = _ := e2
  subst e0 e1 e2
  rfl

/-- What a box holds is so much shorter: the measure. -/
def leftOf (Bb : Nat) (W : World) : Nat := match W.cell? ⟨Bb, 0, none⟩ with
  | some (.string x) => x.size
  | _ => 0
theorem leftOf_box {Bb : Nat} {W : World} {s : Vi.Str} (h : Boxed W Bb 9 (sv s)) : leftOf Bb W = s.length := by
  unfold leftOf
  rw [h.cell]
  simp [ByteArray.size]

theorem grownBy_below {W W' : World} (h : Below W.heap.size W W') (r : Option Nat) : W.grownBy W' r :=
  ⟨h.os, h.tape, h.output, h.size, fun k hk _ => h.block k hk⟩

set_option maxRecDepth 100000 in
set_option maxHeartbeats 4000000 in
/-- The iterator: whatever the loop's body does, so it goes on, and leaves the iterator's box alone. -/
theorem each1_in (n : Nat) (hn : 2 ≤ n) (l Bb : Nat) (J : List (Vi.Str × Vi.Str) → World → Prop) (b0 : Vi.Str) (hlen : b0.length ≤ 1000000)
    (hJ : ∀ s W W', J s W → W.grownBy W' (some Bb) → J s W')
    (hY : ∀ pre x W, J pre W → pre ++ x :: Sp.eachL x.2 = Sp.eachL b0 → x.2.length ≤ b0.length → x.1.length ≤ b0.length → (∃ u, Boxed W Bb 9 u) → YieldAt Fence.wide (n - 1) Try.prog l #[sv x.1, sv x.2] W fun e W' => e = .returned (.bool true) ∧ J (pre ++ [x]) W' ∧ W'.heap[Bb]? = W.heap[Bb]?)
    (W : World) (hB : Boxed W Bb 9 (sv b0)) (h0 : J [] W) :
    CallsIn Fence.wide n Try.prog 91 #[.func (.yield l) #[] #[], .pointer (some ⟨Bb, 0, none⟩)] W fun e W' => (∃ v, e = .returned v) ∧ J (Sp.eachL b0) W' := by
  have h1 : 1 ≤ n := by omega
  refine callsIn_of_wp Try.func91 rfl trivial ?_ rfl
  simp only [Try.ntmps91, List.size_toArray, List.length_cons, List.length_nil, Nat.reduceAdd, Nat.reduceSub, Array.replicate_succ, Array.replicate_zero, List.push_toArray, List.append_toArray, List.nil_append, List.cons_append]
  gi_wp2
  gi_loopw [] (fun wr => ∃ (pre : List (Vi.Str × Vi.Str)) (rest : Vi.Str), Boxed wr Bb 9 (sv rest) ∧ pre ++ Sp.eachL rest = Sp.eachL b0 ∧ rest.length ≤ b0.length ∧ J pre wr) (fun wr => leftOf Bb wr)
  case atStart => exact ⟨[], b0, hB, rfl, Nat.le_refl _, h0⟩
  case round =>
    obtain ⟨pre, rest, hb, hp, hl, hj⟩ := hrel
    have hc := hb.cell
    have hf := hb.frozen
    cases rest with
    | nil =>
      gi_wp2
      go_end0
      exact ⟨⟨_, rfl⟩, by rw [← hp]; simpa [Sp.eachL_nil] using hj⟩
    | cons k r =>
      by_cases ht : (Sp.takeText (k :: r)).2.2 = 0
      · have hcons := Sp.eachL_cons (b := k :: r) (by simp) ht
        have hless := Sp.takeText_less ht
        have htk := takeText_calls (k :: r) (by omega) (by simp only [maxLen]; omega) wr
        rw [ht] at htk
        obtain ⟨x, hx⟩ : ∃ x : Vi.Str × Vi.Str, x = ((Sp.takeText (k :: r)).1, (Sp.takeText (k :: r)).2.1) := ⟨_, rfl⟩
        have hx1 : (Sp.takeText (k :: r)).1 = x.1 := by rw [hx]
        have hx2 : (Sp.takeText (k :: r)).2.1 = x.2 := by rw [hx]
        rw [← hx, hx2] at hcons
        rw [hx1, hx2] at htk
        rw [hx2] at hless
        have hx1l : x.1.length ≤ b0.length := by rw [← hx1]; exact Nat.le_trans (Sp.takeText_fst _) hl
        clear hx hx1 hx2 ht
        gi_wp2_with (refine ⟨trivial, ?_⟩; gi_at_call 92; refine (callsIn_wide.2 htk).mono ?_; rintro e w' ⟨rfl, hbel⟩; have hj2 := hJ _ _ _ hj (grownBy_below hbel _); have hb2 : Boxed w' Bb 9 (sv (k :: r)) := (hbel.block Bb hb.lt).trans hb; obtain ⟨fn, tmps, assign, body, hy, hR⟩ := hY pre x w' hj2 (by rw [← hcons]; exact hp) (by omega) hx1l ⟨_, hb2⟩)
        refine hR.mono ?_
        rintro e W3 ⟨rfl, hJ3, hk3⟩
        have hb3 : Boxed W3 Bb 9 (sv (k :: r)) := hk3.trans hb2
        have hc3 := hb3.cell
        have hf3 := hb3.frozen
        gi_wp2
        go_roundw
        case rel => exact ⟨pre ++ [x], x.2, hb3.set _, by rw [List.append_assoc, List.singleton_append, ← hcons]; exact hp, by omega, hJ _ _ _ hJ3 (grownBy_setCell' _ _ _)⟩
        case measure => rw [leftOf_box (hb3.set (sv x.2)), leftOf_box hb]; omega
      · have hnil := Sp.eachL_bad ht
        have htk := takeText_calls (k :: r) (by omega) (by simp only [maxLen]; omega) wr
        obtain ⟨q, hq⟩ : ∃ q : Int, q = (Sp.takeText (k :: r)).2.2 := ⟨_, rfl⟩
        have hne : ¬ q = 0 := by rw [hq]; exact ht
        rw [← hq] at htk
        clear hq ht
        gi_wp2_with (refine ⟨trivial, ?_⟩; gi_at_call 92; refine (callsIn_wide.2 htk).mono ?_; rintro e w' ⟨rfl, hbel⟩; have hj2 := hJ _ _ _ hj (grownBy_below hbel _))
        refine ⟨fun _ h => (by cases h), ?_⟩
        have hq0 : (q != 0) = true := by simp [hne]
        gi_wp2
        refine bodyPost_ret (results_none rfl _ _ _) rfl ?_
        exact ⟨⟨_, rfl⟩, by rw [← hp, hnil, List.append_nil]; exact hj2⟩

/-- each(b): the function value captures a new box that holds b. -/
theorem each_in (n : Nat) (b : Vi.Str) (w : World) :
    CallsIn Fence.wide n Try.prog 64 #[sv b] w fun e w' => e = .returned (.func (.func 91) #[] #[.pointer (some ⟨w.heap.size, 0, none⟩)]) ∧ w' = w.alloc (.cells #[sv b] 9) := by
  refine callsIn_of_wp Try.func64 rfl trivial ?_ rfl
  simp only [Try.ntmps64, List.size_toArray, List.length_cons, List.length_nil, Nat.reduceAdd, Nat.reduceSub, Array.replicate_succ, Array.replicate_zero, List.push_toArray, List.append_toArray, List.nil_append, List.cons_append]
  gi_wp2
  go_ret
  exact ⟨rfl, rfl⟩

/-- How a round's body is left: off its end, the iterator's box as it was. -/
def boxPost (Bb : Nat) (I : List (Vi.Str × Vi.Str) → World → Prop) (xs : List (Vi.Str × Vi.Str)) (W : World) : Exit → Act → World → Prop
  | .normal, _, W' => KeepsOthers W W' ∧ W'.heap[Bb]? = W.heap[Bb]? ∧ I xs W'
  | _, _, _ => False

set_option maxHeartbeats 1000000 in
/-- A range over each(b): the loop's own invariant, one walk of its body. -/
theorem range_each {n : Nat} {g : Operand} {ps : Array Tmp} {assign body : Code} {Q : Exit → Act → World → Prop} {a : Act} {w : World} {Bb : Nat} {b0 : Vi.Str} (hn : 3 ≤ n) (hlen : b0.length ≤ 1000000)
    (hg : a.eval g = .func (.func 91) #[] #[.pointer (some ⟨Bb, 0, none⟩)]) (hps : ps.size = 2) (hB : Boxed w Bb 9 (sv b0))
    (I : List (Vi.Str × Vi.Str) → World → Prop)
    (hI : ∀ s W W' row, I s W → W.grownBy W' row → (∀ r, row = some r → r = Bb ∨ (w.heap.size ≤ r ∧ ∃ o : Obj, W.heap[r]? = some o ∧ o.isCells = false)) → I s W')
    (h0 : I [] w) (a₁ : Vi.Str × Vi.Str → Act)
    (hassign : ∀ (l : Nat) (x : Vi.Str × Vi.Str) (W : World) (K : Act → World → Prop), K (a₁ x) W →
      assign.wpIn (Fence.wide.inRound l) (n - 1 - 1) Try.prog (Exit.then K (fun _ _ _ => False)) { tmps := (ps.zip #[sv x.1, sv x.2]).foldl (fun t (p, v) => t.setIfInBounds p v) a.tmps, defers := [] } W)
    (hbody : ∀ (l : Nat) (pre : List (Vi.Str × Vi.Str)) (x : Vi.Str × Vi.Str) (W : World), I pre W → pre ++ x :: Sp.eachL x.2 = Sp.eachL b0 → x.1.length ≤ b0.length → (∃ u, Boxed W Bb 9 u) → body.wpIn (Fence.wide.inRound l) (n - 1 - 1) Try.prog (boxPost Bb I (pre ++ [x]) W) (a₁ x) W)
    (hdone : ∀ (D : Nat) (W : World), w.heap.size ≤ D → I (Sp.eachL b0) W → W.heap[D]? = some (.deferred (some [])) → Q .normal { a with defers := { target := .collected D, args := #[] } :: a.defers } W) :
    (Code.rangeFunc g ps assign body).wpIn Fence.wide n Try.prog Q a w := by
  have h1 : 1 ≤ n := by omega
  have hBlt := hB.lt
  refine wpIn_rangeFunc ?_
  intro fn hfn
  show ∃ (l : Nat) (mark : List Deferred) (w₁ : World) (d : Deferred) (w₁' : World) (f : FuncId) (args : Array Value) (w₂ : World), (Instr.enterLoop fn a.tmps ps assign body none).run Try.prog w = .ok (l, mark) w₁ ∧ _
  obtain ⟨rec, hrec⟩ : ∃ rec : LoopState → Option Code → Loop, rec = fun st pe => { state := st, pending := pe, fn, tmps := a.tmps, params := ps, assign, body, defers := w.heap.size } := ⟨_, rfl⟩
  obtain ⟨W1, hW1⟩ : ∃ W1, (w.alloc (.deferred (some []))).alloc (.loop (rec .ready none)) = W1 := ⟨_, rfl⟩
  have hL1 : W1.heap[w.heap.size + 1]? = some (.loop (rec .ready none)) := by
    rw [← hW1]; have := World.alloc_heap_new (w.alloc (.deferred (some []))) (.loop (rec .ready none)); rwa [World.size_alloc] at this
  have hK1 : W1.heap[w.heap.size]? = some (.deferred (some [])) := by
    rw [← hW1]; exact (Below.heap_alloc _ _ _ (by simp)).trans (World.alloc_heap_new w _)
  have hIa : ∀ {s : List (Vi.Str × Vi.Str)} {W : World} (o : Obj), I s W → I s (W.alloc o) := fun o h => hI _ _ _ none h (World.grownBy_alloc _ o none) (fun r e => by cases e)
  have hIp : ∀ {s : List (Vi.Str × Vi.Str)} {W : World} {l : Nat} {o : Obj} (o' : Obj), I s W → w.heap.size ≤ l → W.heap[l]? = some o → o.isCells = false → I s (W.putObj l o') :=
    fun o' h hl ho hc => hI _ _ _ (some _) h (grownBy_putObj' _ _ _) (fun r e => by cases e; exact .inr ⟨hl, _, ho, hc⟩)
  have hI1 : I [] W1 := by rw [← hW1]; exact hIa _ (hIa _ h0)
  have hB1 : Boxed W1 Bb 9 (sv b0) := by rw [← hW1]; exact (hB.alloc _).alloc _
  refine ⟨w.heap.size + 1, [{ target := .collected w.heap.size, args := #[] }], W1, { target := .fn (.func 91) #[.pointer (some ⟨Bb, 0, none⟩)], args := #[.func (.yield (w.heap.size + 1)) #[] #[]] }, W1, 91,
    #[.func (.yield (w.heap.size + 1)) #[] #[]] ++ #[.pointer (some ⟨Bb, 0, none⟩)], W1, ?_, ?_, ?_, ?_, fun _ => h1, ?_⟩
  · rw [← hW1, hrec]; exact run_enterLoop_outer _ _ _ _ _
  · simp only [resolve, hg]
    simp [go_sem]
  · intro f' hf'; trivial
  · have eg := enters_of Try.func91 (by kernel_rfl) rfl
    simp [invoke, go_sem, eg]
  · refine (each1_in (n - 1) (by omega) (w.heap.size + 1) Bb
      (fun pre W => I pre W ∧ W.heap[w.heap.size + 1]? = some (.loop (rec .ready none)) ∧ W.heap[w.heap.size]? = some (.deferred (some [])))
      b0 hlen
      (fun s A B hs hg' => ⟨hI s A B _ hs.1 hg' (fun r e => by cases e; exact .inl rfl),
        (hg'.block _ (Array.getElem?_eq_some_iff.1 hs.2.1).1 (by simp; omega)).trans hs.2.1, (hg'.block _ (Array.getElem?_eq_some_iff.1 hs.2.2).1 (by simp; omega)).trans hs.2.2⟩)
      ?_ W1 hB1 ⟨hI1, hL1, hK1⟩).mono ?_
    · rintro pre x W ⟨hi, hl, hk⟩ hp hx2 hx1 ⟨u, hu⟩
      have hlt : w.heap.size + 1 < W.heap.size := (Array.getElem?_eq_some_iff.1 hl).1
      have hy := run_yield (P := Try.prog) (args := #[sv x.1, sv x.2]) hl (by rw [hrec]; exact hps.symm)
      rw [hrec] at hy
      refine ⟨fn, _, assign, body, hy, roundIn_of_wpIn hfn (hassign _ x W _ ⟨_, run_beginRound hl (by rw [hrec]), ?_⟩)⟩
      have hl2 : (W.putObj (w.heap.size + 1) (.loop { rec .ready none with state := .busy })).heap[w.heap.size + 1]? = some (.loop { rec .ready none with state := .busy }) := World.putObj_heap_same hlt
      have hk2 : (W.putObj (w.heap.size + 1) (.loop { rec .ready none with state := .busy })).heap[w.heap.size]? = some (.deferred (some [])) := (World.putObj_heap_other (by omega)).trans hk
      have hu2 : Boxed (W.putObj (w.heap.size + 1) (.loop { rec .ready none with state := .busy })) Bb 9 u := (World.putObj_heap_other (by omega)).trans hu
      refine wpIn_mono (hbody _ pre x _ (hIp _ hi (by omega) hl rfl) hp hx1 ⟨u, hu2⟩) ?_
      rintro e a3 W3 hq
      cases e with
      | normal =>
        obtain ⟨hk3, hb3, hi3⟩ := hq
        have hl3 := hk3.same _ _ hl2 rfl
        have hend := run_endRound (P := Try.prog) none hl3
        rw [hrec] at hend
        have hl3' := hl3
        rw [hrec] at hl3'
        refine ⟨_, _, hend, rfl, ⟨hIp _ hi3 (by omega) hl3' rfl, ?_, ?_⟩, ?_⟩
        · rw [hrec]; exact World.putObj_heap_same (Array.getElem?_eq_some_iff.1 hl3).1
        · exact (World.putObj_heap_other (by omega)).trans (hk3.same _ _ hk2 rfl)
        · exact (World.putObj_heap_other (by omega)).trans (hb3.trans (World.putObj_heap_other (by omega)))
      | ret => exact hq.elim
      | exit id => exact hq.elim
      | goto t => exact hq.elim
      | panic ch => exact hq.elim
      | outgrown => exact hq.elim
    · rintro e W2 ⟨⟨v, rfl⟩, hi, hl, hk⟩
      exact ⟨none, _, by have := run_endLoop (P := Try.prog) hl (by rw [hrec]; simp); rw [hrec] at this; exact this, hdone _ _ (Nat.le_refl _) (hIp _ hi (by omega) hl rfl) ((World.putObj_heap_other (by omega)).trans hk)⟩
end Go.Proofs

section
open Vi
namespace Sp
end Sp
end
namespace Go.Proofs
open Go.RowKit Go.Shelf Vi
attribute [local go_sem] Oper.semAt_some

theorem dec_nil (s : Vi.Str) : (Value.string ⟨s.toArray⟩ : Value) = sv s := rfl

set_option maxRecDepth 100000 in
set_option maxHeartbeats 2000000 in
theorem whole_in (n : Nat) (hn : 4 ≤ n) (b : Vi.Str) (hlen : b.length ≤ 1000000) (w : World) :
    CallsIn Fence.wide n Try.prog 61 #[sv b] w fun e w' => e = .returned (.bool (Sp.wholeB b)) ∧ Below w.heap.size w w' := by
  have h1 : 1 ≤ n := by omega
  refine callsIn_of_wp_marks Try.func61 rfl trivial ?_ rfl
  simp only [Try.ntmps61, List.size_toArray, List.length_cons, List.length_nil, Nat.reduceAdd, Nat.reduceSub, Array.replicate_succ, Array.replicate_zero, List.push_toArray, List.append_toArray, List.nil_append, List.cons_append]
  gi_wp2_with (refine ⟨trivial, ?_⟩; gi_at_call 64; refine (each_in (n - 1) b _).mono ?_; rintro e w' ⟨rfl, rfl⟩)
  obtain ⟨W0, hW0⟩ : ∃ W0, (w.alloc (Obj.cells #[Value.string { data := List.toArray b }] 9)).alloc (Obj.cells #[sv b] 9) = W0 := ⟨_, rfl⟩
  have hs0 : W0.heap.size = w.heap.size + 2 := by rw [← hW0]; simp
  have hl0 : Boxed W0 w.heap.size 9 (sv b) := by rw [← hW0]; exact (Boxed.new w 9 (sv b)).alloc _
  have hb0 : Boxed W0 (w.heap.size + 1) 9 (sv b) := by
    rw [← hW0]; have := Boxed.new (w.alloc (Obj.cells #[Value.string { data := List.toArray b }] 9)) 9 (sv b); rwa [World.size_alloc] at this
  have hB0 : Below w.heap.size w W0 := by rw [← hW0]; exact ((Below.refl _ w).alloc (Nat.le_refl _) _).alloc (by simp) _
  rw [hW0]
  clear hW0
  refine range_each (Bb := w.heap.size + 1) (b0 := b) (by omega) hlen rfl rfl hb0 (fun pre W => Boxed W w.heap.size 9 (sv (Sp.leftP b pre)) ∧ Below w.heap.size w W)
    (fun s A B row hs hg hr => ⟨hs.1.kept hg (fun e => by rcases hr _ e.symm with h | h <;> omega), hs.2.grown hg hs.2.size (fun k e => by rcases hr k e with h | h <;> omega)⟩)
    ⟨hl0, hB0⟩
    (fun x => { tmps := #[sv b, undef, .bool false, .pointer (some ⟨w.heap.size, 0, none⟩), undef, sv x.2, sv b, sv b, .func (.func 91) #[] #[.pointer (some ⟨w.heap.size + 1, 0, none⟩)], sv x.1, sv x.2, undef, undef, undef], defers := [] }) ?assign ?body ?done
  case assign =>
    intro l x W K hK
    gi_wp2
    exact hK
  case body =>
    rintro l pre x W ⟨hc, hbl⟩ _ _ ⟨u, hu⟩
    have hcell := hc.cell
    have hfr := hc.frozen
    gi_wp2
    exact ⟨KeepsOthers.setCell _ _ _, Below.heap_setCell _ _ _ _ (by simp), by rw [Sp.leftP_snoc]; exact hc.set _, hbl.setCell (p := ⟨w.heap.size, 0, none⟩) (Nat.le_refl _) _⟩
  case done =>
    rintro D W hD ⟨hc, hbl⟩ hK
    have hcell := hc.cell
    gi_wp2
    refine ⟨by simp, .inl ⟨_, _, rfl, run_takeDeferred hK, ?_⟩⟩
    exact ⟨_, results_tmp rfl _ _ _, rfl, hbl.trans (belowK_b (w := w) (Nat.le_refl _) W D _ _ (by omega) hK rfl rfl)⟩

theorem ownsRow_lower {W : World} {base base' : Nat} {e : TypeId} {size : Nat} {v : Value} {k : Nat} {xs : List Value} (h : W.ownsRow base e size v k xs) (hb : base' ≤ base) : W.ownsRow base' e size v k xs := by
  refine ⟨h.1, ?_⟩
  rcases h.2 with hn | ⟨g, cap, cur, hv, hbg, rest⟩
  · exact .inl hn
  · exact .inr ⟨g, cap, cur, hv, Nat.le_trans hb hbg, rest⟩

/-- A slice of texts in new memory. -/
def NewTexts (n₀ : Nat) (v : Value) (xs : List Vi.Str) (W : World) : Prop :=
  (v = .slice none 0 0 ∧ xs = []) ∨ ∃ g cap, v = .slice (some ⟨g, 0, none⟩) xs.length cap ∧ xs.length ≤ cap ∧ cap ≤ maxLen ∧ n₀ ≤ g ∧ g < W.heap.size ∧ ∀ (j : Nat) (s : Vi.Str), xs[j]? = some s → W.cell? ⟨g, j, none⟩ = some (sv s)

theorem clip_nil_in (n : Nat) (w : World) : CallsIn Fence.wide n Try.prog 65 #[.slice none 0 0] w fun e w' => e = .returned (.slice none 0 0) ∧ w' = w := by
  refine callsIn_of_wp Try.func65 rfl trivial ?_ rfl
  simp only [Try.ntmps65, List.size_toArray, List.length_cons, List.length_nil, Nat.reduceAdd, Nat.reduceSub, Array.replicate_succ, Array.replicate_zero, List.push_toArray, List.append_toArray, List.nil_append, List.cons_append]
  gi_wp2
  go_ret
  exact ⟨rfl, rfl⟩
theorem clip_in (n g k cap : Nat) (hk : k ≤ cap) (hc : cap ≤ maxLen) (w : World) : CallsIn Fence.wide n Try.prog 65 #[.slice (some ⟨g, 0, none⟩) k cap] w fun e w' => e = .returned (.slice (some ⟨g, 0, none⟩) k k) ∧ w' = w := by
  refine callsIn_of_wp Try.func65 rfl trivial ?_ rfl
  simp only [Try.ntmps65, List.size_toArray, List.length_cons, List.length_nil, Nat.reduceAdd, Nat.reduceSub, Array.replicate_succ, Array.replicate_zero, List.push_toArray, List.append_toArray, List.nil_append, List.cons_append]
  gi_wp2
  go_ret
  exact ⟨rfl, rfl⟩

theorem info9 : (Try.prog.info? 9).map (fun i => (i.zero, i.size, i.bytes)) = some (some (.string ⟨#[]⟩), 1, 16) := by kernel_rfl

set_option maxRecDepth 100000 in
set_option maxHeartbeats 2000000 in
theorem records_in (n : Nat) (hn : 4 ≤ n) (lg : Nat) (b : Vi.Str) (hlen : b.length ≤ 1000000) (w : World) (hlt : lg < w.heap.size) (hcell : w.cell? ⟨lg, 3, none⟩ = some (sv b)) :
    CallsIn Fence.wide n Try.prog 19 #[.pointer (some ⟨lg, 0, none⟩)] w fun e w' => ∃ v, e = .returned v ∧ NewTexts w.heap.size v ((Sp.eachL b).map (·.1)) w' ∧ Below w.heap.size w w' := by
  have h1 : 1 ≤ n := by omega
  obtain ⟨i0, hi, hz0, hz1, hz2⟩ := info_parts info9
  refine callsIn_of_wp_marks Try.func19 rfl trivial ?_ rfl
  simp only [Try.ntmps19, List.size_toArray, List.length_cons, List.length_nil, Nat.reduceAdd, Nat.reduceSub, Array.replicate_succ, Array.replicate_zero, List.push_toArray, List.append_toArray, List.nil_append, List.cons_append]
  have hcell2 : (w.alloc (Obj.cells #[Value.slice none 0 0] 41)).cell? ⟨lg, 3, none⟩ = some (sv b) := by rw [← hcell]; exact Below.cell ((Below.refl _ w).alloc (Nat.le_refl _) _) hlt
  gi_wp2_with (refine ⟨trivial, ?_⟩; gi_at_call 64; refine (each_in (n - 1) b _).mono ?_; rintro e w' ⟨rfl, rfl⟩)
  obtain ⟨W0, hW0⟩ : ∃ W0, (w.alloc (Obj.cells #[Value.slice none 0 0] 41)).alloc (Obj.cells #[sv b] 9) = W0 := ⟨_, rfl⟩
  have hs0 : W0.heap.size = w.heap.size + 2 := by rw [← hW0]; simp
  have hl0 : Boxed W0 w.heap.size 41 (.slice none 0 0) := by rw [← hW0]; exact (Boxed.new w 41 (.slice none 0 0)).alloc _
  have hb0 : Boxed W0 (w.heap.size + 1) 9 (sv b) := by
    rw [← hW0]; have := Boxed.new (w.alloc (Obj.cells #[Value.slice none 0 0] 41)) 9 (sv b); rwa [World.size_alloc] at this
  have hB0 : Below w.heap.size w W0 := by rw [← hW0]; exact ((Below.refl _ w).alloc (Nat.le_refl _) _).alloc (by simp) _
  rw [hW0]
  clear hW0 hcell2
  refine range_each (Bb := w.heap.size + 1) (b0 := b) (by omega) hlen rfl rfl hb0
    (fun pre W => (∃ v, Boxed W w.heap.size 41 v ∧ W.ownsRow (w.heap.size + 2) 9 1 v pre.length (pre.map fun x => sv x.1)) ∧ Below w.heap.size w W ∧ w.heap.size + 2 ≤ W.heap.size)
    (fun s A B row hs hg hr => ?_)
    ⟨⟨_, hl0, World.ownsRow_nil _ _ _ _⟩, hB0, by omega⟩
    (fun x => { tmps := #[.pointer (some ⟨lg, 0, none⟩), undef, .slice none 0 0, .pointer (some ⟨w.heap.size, 0, none⟩), sv x.1, .pointer (some ⟨lg, 0, none⟩), .bool false, .pointer (some ⟨lg, 0, none⟩), .pointer (some ⟨lg, 0, none⟩), .pointer (some ⟨lg, 3, none⟩), sv b, .func (.func 91) #[] #[.pointer (some ⟨w.heap.size + 1, 0, none⟩)], sv x.1, sv x.2, undef, undef, undef, undef, undef, undef], defers := [] }) ?assign ?body ?done
  · obtain ⟨⟨v, hv, hrow⟩, hb, hsz⟩ := hs
    refine ⟨⟨v, hv.kept hg (fun e => by rcases hr _ e.symm with h | h <;> omega), hrow.kept hg ?_⟩, hb.grown hg hb.size (fun k e => by rcases hr k e with h | h <;> omega), Nat.le_trans hsz hg.size⟩
    rcases hrow.2 with ⟨rfl, _⟩ | ⟨g, cap, cur, rfl, hgb, hgc, _⟩
    · exact .inl rfl
    · refine .inr fun e' => ?_
      rcases hr g (by simpa [Value.ownBlock] using e'.symm) with h | ⟨_, o, ho, hoc⟩
      · omega
      · rw [hgc] at ho; cases ho; cases hoc
  case assign =>
    intro l x W K hK
    gi_wp2
    exact hK
  case body =>
    rintro l pre x W ⟨⟨v, hv, hrow⟩, hB, hsz⟩ hp _ ⟨u, hu⟩
    have hc := hv.cell
    have hul := hu.lt
    have hpl : pre.length + 1 ≤ 1000000 := by
      have h2 := Sp.eachL_len b
      rw [← hp, List.length_append, List.length_cons] at h2
      omega
    have hmx : pre.length + 1 ≤ maxLen := by simp only [maxLen]; omega
    gi_wp2_with (gi_at_builtin; refine wpListIn_append_own _ rfl _ _ 41 rfl (w.heap.size + 2) 9 i0 (.string ⟨#[]⟩) 1 16 Try.underlying41 hi hz0 hz1 hz2 rfl (by decide) _ _ _ rfl (hrow.alloc _) ⟨W.heap.size, 0, none⟩ 1 1 [sv x.1] rfl rfl (cell_one_new _ _ _) (by simp [Value.oneCell']) (by omega) (by omega) (by simp; omega) ?_; intro v' w1 hown' hgrow _; obtain ⟨g', cap', rfl⟩ := ownsRow_succ hown'; obtain ⟨hv1, hv2, hr2, hk2, hb2⟩ := hv.appended (by decide) (ownsRow_lower hrow (base' := w.heap.size) (by omega)) hB.size (Nat.le_refl _) (ownsRow_lower hown' (base' := w.heap.size) (by omega)) hgrow; have hc1 := hv1.cell; have hf1 := hv1.frozen)
    have hne : some (w.heap.size + 1) ≠ v.ownBlock := by
      rcases hrow.2 with ⟨rfl, _⟩ | ⟨g, cap, cur, rfl, hgb, hgc, _⟩
      · simp [Value.ownBlock]
      · intro e; have : w.heap.size + 1 = g := by simpa [Value.ownBlock] using e
        omega
    refine ⟨hk2, ?_, ⟨_, hv2, ?_⟩, hB.trans hb2, Nat.le_trans hsz hb2.size⟩
    · exact (Below.heap_setCell _ _ _ _ (by simp)).trans ((hgrow.block _ (by simp; omega) hne).trans (Below.heap_alloc _ _ _ hul))
    · have := hown'.kept (grownBy_setCell' w1 w.heap.size (.slice (some ⟨g', 0, none⟩) (pre.length + 1) cap')) (.inr (hv1.not_row (by decide) hown').symm)
      simpa using this
  case done =>
    rintro D W hD ⟨⟨v, hv, hrow⟩, hB, hsz⟩ hK
    have hc := hv.cell
    rcases hrow.2 with ⟨rfl, hn0⟩ | ⟨g, cap, cur, rfl, hgb, hgc, hg1, hg2, _⟩
    · gi_wp2_with (refine ⟨trivial, ?_⟩; gi_at_call 65; refine (clip_nil_in (n - 1) _).mono ?_; rintro e w' ⟨rfl, hww⟩; rw [hww]; clear hww w')
      refine ⟨by simp, .inl ⟨_, _, rfl, run_takeDeferred hK, ?_⟩⟩
      refine ⟨_, results_tmp rfl _ _ _, _, rfl, .inl ⟨rfl, ?_⟩, hB.trans (belowK_b (w := w) (Nat.le_refl _) W D _ _ (by omega) hK rfl rfl)⟩
      rw [List.eq_nil_of_length_eq_zero hn0]; rfl
    · gi_wp2_with (refine ⟨trivial, ?_⟩; gi_at_call 65; refine (clip_in (n - 1) g _ cap hg1 hg2 _).mono ?_; rintro e w' ⟨rfl, hww⟩; rw [hww]; clear hww w')
      refine ⟨by simp, .inl ⟨_, _, rfl, run_takeDeferred hK, ?_⟩⟩
      have hrow2 := ownsRow_putObj hrow (.deferred none) hK rfl
      refine ⟨_, results_tmp rfl _ _ _, _, rfl, .inr ⟨g, (Sp.eachL b).length, by rw [List.length_map]; rfl, by rw [List.length_map]; exact Nat.le_refl _, Nat.le_trans hg1 hg2, by omega, ?_, fun j s hs => ?_⟩, hB.trans (belowK_b (w := w) (Nat.le_refl _) W D _ _ (by omega) hK rfl rfl)⟩
      · have := (Array.getElem?_eq_some_iff.1 hgc).1
        simpa using this
      · have := hrow2.cells (g := g) rfl j (sv s) (by
          rw [List.getElem?_map] at hs ⊢
          cases hx : (Sp.eachL b)[j]? with
          | none => rw [hx] at hs; cases hs
          | some x => rw [hx] at hs; simp only [Option.map_some, Option.some.injEq] at hs ⊢; rw [hs])
        rwa [Addr.add_mid, Nat.zero_add] at this
end Go.Proofs
