/-
  Calm regions with facts on values: a call's result bears a fact that later calls leave (a slice of the call's own, say), and a later operation that waits for it may use it.
-/
import Derived.Test.YtbmabpnolheghaaCy
set_option linter.unusedVariables false
set_option linter.unusedSimpArgs false
namespace Go.Proofs.Ytbmabpnolheghaa
open Go.RowKit

/-- A fact: of which operation, on which slot, what. -/
abbrev VFact := Nat × Tmp × (Value → World → Prop)
def RVF : List VFact → Nat → Act → World → Prop
  | [], _, _, _ => True
  | q :: l, j, a, w => (q.1 = j → q.2.2 (a.eval (.tmp q.2.1)) w) ∧ RVF l j a w
def rsV : List VFact → Nat → List Tmp
  | [], _ => []
  | q :: l, j => (if q.1 = j then [q.2.1] else []) ++ rsV l j
/-- What holds stays, where only new blocks come or draws are made. -/
def stableV (fs : List VFact) : Prop := ∀ q ∈ fs, ∀ v w w', Below w.heap.size w w' → q.2.2 v w → q.2.2 v w'

theorem RVF_put : ∀ (fs : List VFact) (j : Nat) (a : Act) (d : Option Tmp) (v : Value) (w : World), (∀ t, d = some t → t ∉ rsV fs j) → (RVF fs j (a.put d v) w ↔ RVF fs j a w)
  | [], _, _, _, _, _, _ => Iff.rfl
  | q :: l, j, a, d, v, w, h => by
    have h1 := RVF_put l j a d v w (fun t ht hm => h t ht (by simp [rsV, hm]))
    unfold RVF
    rw [h1]
    refine and_congr_left fun _ => ?_
    by_cases hq : q.1 = j
    · have e : (a.put d v).eval (.tmp q.2.1) = a.eval (.tmp q.2.1) := Act.eval_put (fun t ht hk => by cases hk; exact h q.2.1 ht (by simp [rsV, hq]))
      rw [e]
    · exact ⟨fun _ e => absurd e hq, fun _ e => absurd e hq⟩
theorem RVF_below {a : Act} {w w' : World} (hb : Below w.heap.size w w') : ∀ {fs : List VFact} {j : Nat}, stableV fs → RVF fs j a w → RVF fs j a w'
  | [], _, _, _ => trivial
  | q :: l, j, hs, h => ⟨fun e => hs q (by simp) _ _ _ hb (h.1 e), RVF_below hb (fun p hp => hs p (by simp [hp])) h.2⟩
theorem RVF_get {a : Act} {w : World} {i k : Nat} {φ : Value → World → Prop} : ∀ {fs : List VFact}, RVF fs i a w → (i, k, φ) ∈ fs → φ (a.eval (.tmp k)) w
  | [], _, hm => by cases hm
  | q :: l, h, hm => by
    rcases List.mem_cons.1 hm with e | hm
    · subst e; exact h.1 rfl
    · exact RVF_get h.2 hm

def sepVB (md : Region.Mode) (ops : Array Oper) (fs : List (Nat × Tmp)) : Bool :=
  fs.all fun q => (List.range ops.size).all fun i => i == q.1 || Region.waitsFor md ops q.1 i || (match (ops[i]?).bind (·.dst) with | some t => !(t == q.2) | none => true)
theorem sepV_of {md : Region.Mode} {ops : Array Oper} : ∀ {fs : List VFact}, sepVB md ops (fs.map fun q => (q.1, q.2.1)) = true → SepR md ops (rsV fs)
  | [], _ => fun _ _ _ _ _ _ _ _ _ _ => by simp [rsV]
  | q :: l, h => by
    simp only [sepVB, List.map_cons, List.all_cons, Bool.and_eq_true] at h
    obtain ⟨h1, h2⟩ := h
    have ih := sepV_of (md := md) (ops := ops) (fs := l) h2
    intro i j oi oj hi hj hij hno t ht hm
    simp only [rsV, List.mem_append] at hm
    rcases hm with hm | hm
    · split at hm
      · rename_i hq
        have hlt : i < ops.size := (Array.getElem?_eq_some_iff.1 hi).1
        have := List.all_eq_true.1 h1 i (List.mem_range.2 hlt)
        simp only [Bool.or_eq_true, beq_iff_eq] at this
        rcases this with (this | this) | this
        · exact hij (this.trans hq)
        · obtain ⟨oq, hoq, e, he, hb, hon⟩ := Region.waitsFor_spec this
          rw [hq] at hoq
          have : oq = oj := Option.some.inj (hoq.symm.trans hj)
          subst this
          exact hno e he hb hon
        · rw [hi] at this
          simp only [Option.bind_some, ht] at this
          have := List.mem_singleton.1 hm
          simp_all
      · cases hm
    · exact ih i j oi oj hi hj hij hno t ht hm

section
variable {P : Program} {ops : Array Oper} {md : Region.Mode} {T : FuncId → Array Value → Value → Prop} {Q : Act → Prop} {o : Oper} {rest : List Oper} {a : Act} {k : Nat} {l : List (Addr × Value)} {w0 : World} {fs : List VFact}
theorem depV {ia : Nat} {w : World} (h : DepsR md (RVF fs) o a w) (hdep : Region.waitsFor md #[o] 0 ia = true) : RVF fs ia a w := by
  obtain ⟨o', ho', e, he, hb, hon⟩ := Region.waitsFor_spec hdep
  have : o' = o := by simpa using ho'.symm
  subst this
  rw [← hon]
  exact h e he hb

theorem calmV_nil (h : Q a) : wpCalmR P ops md (InC l w0) T (RVF fs) Q k [] a := h

/-- A plain operation. -/
theorem calmV_plain (hst : stableV fs) (hp : plainOp o.op = true) (hw : Region.wanted o (yielded ops a.tmps) = true) (hk : ∀ a w, RVF fs k a w)
    (h : ∀ (K : Act → Prop), (∀ a', wpCalmR P ops md (InC l w0) T (RVF fs) Q (k + 1) rest a' → K a') → ∀ w, InC l w0 w → wpList P #[] (calmQB w K) [{ o with guard := none }] a w) : wpCalmR P ops md (InC l w0) T (RVF fs) Q k (o :: rest) a := by
  have h1 := h (fun a' => wpCalmR P ops md (InC l w0) T (RVF fs) Q (k + 1) rest a') (fun _ h => h)
  have key : ∀ w, InC l w0 w → ∃ v w', ((execOp a.eval o).run P w = .ok (.value v) w' ∨ ((execOp a.eval o).run P w = .ok .skip w' ∧ v = undef)) ∧ Below w.heap.size w w' ∧ wpCalmR P ops md (InC l w0) T (RVF fs) Q (k + 1) rest (a.put o.dst v) := by
    intro w hC
    have h2 := h1 w hC
    unfold wpList at h2
    rw [if_pos (by rfl)] at h2
    rcases h2 with h2 | h2
    · unfold Oper.wp at h2
      have he : execOp a.eval { o with guard := none } = execOp a.eval o := rfl
      rw [he] at h2
      cases hr : (execOp a.eval o).run P w with
      | ok n w' =>
        rw [hr] at h2
        rcases plain_next hp hr with ⟨v, rfl⟩ | rfl
        · exact ⟨v, w', .inl rfl, h2.2.1, h2.2.2⟩
        · exact ⟨undef, w', .inr ⟨rfl, rfl⟩, h2.2.1, h2.2.2⟩
      | halt x w' =>
        rw [hr] at h2
        cases x <;> simp [Oper.upon, calmQB] at h2
    · exfalso
      have := h2.2
      simp [LetsOut, calmQB] at this
  refine ⟨?_, fun v hv => ?_⟩
  · unfold OkO
    rw [if_pos hw]
    intro w hC hD
    obtain ⟨v, w', hr, hb, _⟩ := key w hC
    have hkept : ∀ u, keptR (InC l w0) (RVF fs) k a o.dst w u w' := fun u => ⟨hC.below hb, hk _ _, fun j a' _ hj => RVF_below hb hst hj⟩
    rcases hr with hr | ⟨hr, _⟩ <;> rw [hr] <;> exact hkept _
  · unfold Yl at hv
    rw [if_pos hw] at hv
    obtain ⟨w, hC, _, hy⟩ := hv
    obtain ⟨v', w', hr, _, hn⟩ := key w hC
    rcases hr with hr | ⟨hr, rfl⟩ <;> rw [hr] at hy
    · have : v = v' := hy
      rw [this]; exact hn
    · have : v = undef := hy
      rw [this]; exact hn

/-- An operation that yields a value of a set and lays a fact. -/
theorem calmV_op {Tv : Value → Prop} (hst : stableV fs) (hw : Region.wanted o (yielded ops a.tmps) = true)
    (hrun : ∀ w, InC l w0 w → ∃ v w', (execOp a.eval o).run P w = .ok (.value v) w' ∧ Tv v ∧ RVF fs k (a.put o.dst v) w' ∧ Below w.heap.size w w')
    (hn : ∀ v, Tv v → wpCalmR P ops md (InC l w0) T (RVF fs) Q (k + 1) rest (a.put o.dst v)) : wpCalmR P ops md (InC l w0) T (RVF fs) Q k (o :: rest) a := by
  refine ⟨?_, fun v hv => ?_⟩
  · unfold OkO
    rw [if_pos hw]
    intro w hC hD
    obtain ⟨v, w', hr, _, hR, hb⟩ := hrun w hC
    rw [hr]
    exact ⟨hC.below hb, hR, fun j a' _ hj => RVF_below hb hst hj⟩
  · unfold Yl at hv
    rw [if_pos hw] at hv
    obtain ⟨w, hC, _, hy⟩ := hv
    obtain ⟨v', w', hr, hT, _⟩ := hrun w hC
    rw [hr] at hy
    have : v = v' := hy
    rw [this]; exact hn _ hT

/-- An operation whose guard says no. -/
theorem calmV_skip (hw : Region.wanted o (yielded ops a.tmps) = false) (hk : ∀ a w, RVF fs k a w) (h : wpCalmR P ops md (InC l w0) T (RVF fs) Q (k + 1) rest (a.put o.dst undef)) : wpCalmR P ops md (InC l w0) T (RVF fs) Q k (o :: rest) a := by
  refine ⟨?_, fun v hv => ?_⟩
  · unfold OkO
    rw [if_neg (by rw [hw]; decide)]
    exact fun w _ _ => hk _ _
  · unfold Yl at hv
    rw [if_neg (by rw [hw]; decide)] at hv
    rw [hv]; exact h

/-- A nil check of a pointer that is none. -/
theorem calmV_check {x : Operand} {p : Addr} (hop : o.op = .nilCheck x) (hx : a.eval x = .pointer (some p)) (hw : Region.wanted o (yielded ops a.tmps) = true) (hk : ∀ a w, RVF fs k a w)
    (h : wpCalmR P ops md (InC l w0) T (RVF fs) Q (k + 1) rest (a.put o.dst (.pointer (some p)))) : wpCalmR P ops md (InC l w0) T (RVF fs) Q k (o :: rest) a := by
  have hrun : ∀ w, (execOp a.eval o).run P w = .ok (.value (.pointer (some p))) w := fun w => by
    unfold execOp
    rw [hop]
    simp [hx, Sem.run_pure]
  refine ⟨?_, fun v hv => ?_⟩
  · unfold OkO
    rw [if_pos hw]
    intro w hC hD
    rw [hrun]
    exact ⟨hC, hk _ _, fun _ _ _ h => h⟩
  · unfold Yl at hv
    rw [if_pos hw] at hv
    obtain ⟨w, _, _, hy⟩ := hv
    rw [hrun] at hy
    have : v = _ := hy
    rw [this]; exact h

/-- A call: it may use the facts of what it waits for, and lays its own. -/
theorem calmV_call {f : FuncId} {args : Array Value} (hst : stableV fs) (hw : Region.wanted o (yielded ops a.tmps) = true) (hrun : ∀ w, (execOp a.eval o).run P w = .ok (.enter f args) w)
    (hc : ∀ w, InC l w0 w → DepsR md (RVF fs) o a w → Calls P f args w (fun e w' => ∃ v, e = .returned v ∧ T f args v ∧ RVF fs k (a.put o.dst v) w' ∧ Below w.heap.size w w'))
    (hn : ∀ v, T f args v → wpCalmR P ops md (InC l w0) T (RVF fs) Q (k + 1) rest (a.put o.dst v)) : wpCalmR P ops md (InC l w0) T (RVF fs) Q k (o :: rest) a := by
  refine ⟨?_, fun v hv => ?_⟩
  · unfold OkO
    rw [if_pos hw]
    intro w hC hD
    rw [hrun]
    exact (hc w hC hD).mono fun e w' ⟨v, he, hT, hR, hb⟩ => ⟨v, he, hT, hC.below hb, hR, fun j a' _ hj => RVF_below hb hst hj⟩
  · unfold Yl at hv
    rw [if_pos hw] at hv
    obtain ⟨w, _, _, hy⟩ := hv
    rw [hrun] at hy
    exact hn v hy
end

/-- The region, with facts on values. -/
theorem region_calmV {P : Program} {id : Nat} {Q : Exit → Act → World → Prop} {a : Act} {w : World} {l : List Oper} (w0 : World) (h0 : List (Addr × Value)) (T : FuncId → Array Value → Value → Prop) (fs : List VFact) (hm : P.follows .mixedOrders = true) (hB : Region.lexB .any l.toArray = true) (hsep : sepVB .any l.toArray (fs.map fun q => (q.1, q.2.1)) = true)
    (hw : InC h0 w0 w.drew) (h : wpCalmR P l.toArray .any (InC h0 w0) T (RVF fs) (fun a' => ∀ w', InC h0 w0 w' → (∀ j, j < l.length → RVF fs j a' w') → Q .normal a' w') 0 l a) : (Code.region id l.toArray true).wp P Q a w :=
  wp_region_calmR (InC h0 w0) T (RVF fs) (rsV fs) (fun j a d v w => RVF_put fs j a d v w) (sepV_of hsep) hm hB hw h
theorem region_calmV_tail {P : Program} {id : Nat} {Q : Exit → Act → World → Prop} {a : Act} {w : World} {l : List Oper} (n : Nat) (w0 : World) (h0 : List (Addr × Value)) (T : FuncId → Array Value → Value → Prop) (fs : List VFact) (hm : P.follows .mixedOrders = true) (hB : Region.lexTailB .any l.toArray n = true) (hsep : sepVB .any l.toArray (fs.map fun q => (q.1, q.2.1)) = true)
    (hw : InC h0 w0 w.drew) (h : wpCalmR P l.toArray .any (InC h0 w0) T (RVF fs) (fun a' => ∀ w', InC h0 w0 w' → (∀ j, j < n → RVF fs j a' w') → wpList P l.toArray Q (l.drop n) a' w') 0 (l.take n) a) : (Code.region id l.toArray true).wp P Q a w :=
  wp_region_calmR_tail n (InC h0 w0) T (RVF fs) (rsV fs) (fun j a d v w => RVF_put fs j a d v w) (sepV_of hsep) hm hB hw h

end Go.Proofs.Ytbmabpnolheghaa
