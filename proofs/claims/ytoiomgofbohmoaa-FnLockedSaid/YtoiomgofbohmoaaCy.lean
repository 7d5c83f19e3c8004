/-
  The use of calm regions with facts: the class of worlds is that some cells hold what they held; facts tell of a new block and of what was put into it.
-/
import Derived.Test.YtoiomgofbohmoaaCx
import Derived.Deep.MidRow
set_option linter.unusedVariables false
set_option linter.unusedSimpArgs false
namespace Go.Proofs.Ytoiomgofbohmoaa
open Go.RowKit

@[go_sem] theorem alloc_drewN (w : World) (n : Nat) (o : Obj) : (w.drewN n).alloc o = (w.alloc o).drewN n := rfl
@[go_sem] theorem setCell_drewN (w : World) (n : Nat) (a : Addr) (v : Value) : (w.drewN n).setCell a v = (w.setCell a v).drewN n := by
  unfold World.setCell World.drewN
  rfl

def cellsAt (b : Nat) : Nat → List Value → List (Addr × Value)
  | _, [] => []
  | i, v :: l => (⟨b, i, none⟩, v) :: cellsAt b (i + 1) l

/-- A fact: slot 'k' holds a new block of 'n' cells; or: what slot 'x' holds was put into the block of slot 'p'. -/
inductive Fct where
  | new (k : Tmp) (n : Nat)
  | put (p x : Tmp)
def Fct.slots : Fct → List Tmp
  | .new k _ => [k]
  | .put p x => [p, x]
def Fct.isNew : Fct → Bool
  | .new .. => true
  | .put .. => false
def Fct.holds (N : Nat) : Fct → Act → World → Prop
  | .new k n, a, w => ∃ b, a.eval (.tmp k) = .pointer (some ⟨b, 0, none⟩) ∧ N ≤ b ∧ b < w.heap.size ∧ w.there b 0 n
  | .put p x, a, w => ∃ b vs, a.eval (.tmp p) = .pointer (some ⟨b, 0, none⟩) ∧ a.eval (.tmp x) = .agg vs ∧ N ≤ b ∧ Held (cellsAt b 0 vs.toList) w
def RA (N : Nat) : List (Nat × Fct) → Nat → Act → World → Prop
  | [], _, _, _ => True
  | q :: l, j, a, w => (q.1 = j → q.2.holds N a w) ∧ RA N l j a w
def rsA : List (Nat × Fct) → Nat → List Tmp
  | [], _ => []
  | q :: l, j => (if q.1 = j then q.2.slots else []) ++ rsA l j

theorem Fct.holds_put {N : Nat} {f : Fct} {a : Act} {d : Option Tmp} {v : Value} {w : World} (h : ∀ t, d = some t → t ∉ f.slots) : f.holds N (a.put d v) w ↔ f.holds N a w := by
  cases f with
  | new k n =>
    have e : (a.put d v).eval (.tmp k) = a.eval (.tmp k) := Act.eval_put (fun t ht hk => by cases hk; exact h k ht (by simp [Fct.slots]))
    simp only [Fct.holds, e]
  | put p x =>
    have e : (a.put d v).eval (.tmp p) = a.eval (.tmp p) := Act.eval_put (fun t ht hk => by cases hk; exact h p ht (by simp [Fct.slots]))
    have e2 : (a.put d v).eval (.tmp x) = a.eval (.tmp x) := Act.eval_put (fun t ht hk => by cases hk; exact h x ht (by simp [Fct.slots]))
    simp only [Fct.holds, e, e2]
theorem RA_put {N : Nat} : ∀ (fs : List (Nat × Fct)) (j : Nat) (a : Act) (d : Option Tmp) (v : Value) (w : World), (∀ t, d = some t → t ∉ rsA fs j) → (RA N fs j (a.put d v) w ↔ RA N fs j a w)
  | [], _, _, _, _, _, _ => Iff.rfl
  | q :: l, j, a, d, v, w, h => by
    have h1 := RA_put (N := N) l j a d v w (fun t ht hm => h t ht (by simp [rsA, hm]))
    unfold RA
    rw [h1]
    refine and_congr_left fun _ => ?_
    by_cases hq : q.1 = j
    · refine imp_congr_right fun _ => Fct.holds_put fun t ht hm => h t ht ?_
      simp [rsA, hq, hm]
    · exact ⟨fun _ e => absurd e hq, fun _ e => absurd e hq⟩

theorem World.there_below {w w' : World} (hb : Below w.heap.size w w') {b o n : Nat} (hlt : b < w.heap.size) (h : w.there b o n) : w'.there b o n := fun j hj => by
  rw [hb.cell (p := ⟨b, o + j, none⟩) hlt, hb.frozen (p := ⟨b, o + j, none⟩) hlt]
  exact h j hj
theorem Fct.holds_below {N : Nat} {f : Fct} {a : Act} {w w' : World} (hb : Below w.heap.size w w') (h : f.holds N a w) : f.holds N a w' := by
  cases f with
  | new k n =>
    obtain ⟨b, h1, h2, h3, h4⟩ := h
    exact ⟨b, h1, h2, Nat.lt_of_lt_of_le h3 hb.size, World.there_below hb h3 h4⟩
  | put p x =>
    obtain ⟨b, vs, h1, h2, h3, h4⟩ := h
    exact ⟨b, vs, h1, h2, h3, Held.below hb h4⟩
theorem RA_below {N : Nat} {a : Act} {w w' : World} (hb : Below w.heap.size w w') : ∀ {fs : List (Nat × Fct)} {j : Nat}, RA N fs j a w → RA N fs j a w'
  | [], _, _ => trivial
  | q :: l, j, h => ⟨fun e => Fct.holds_below hb (h.1 e), RA_below hb h.2⟩
theorem RA_get {N n : Nat} {a : Act} {w : World} {i : Nat} {f : Fct} : ∀ {fs : List (Nat × Fct)}, (∀ j, j < n → RA N fs j a w) → (i, f) ∈ fs → i < n → f.holds N a w
  | [], _, hm, _ => by cases hm
  | q :: l, h, hm, hi => by
    rcases List.mem_cons.1 hm with e | hm
    · subst e; exact (h i hi).1 rfl
    · exact RA_get (fun j hj => (h j hj).2) hm hi

def sepB (md : Region.Mode) (ops : Array Oper) (fs : List (Nat × Fct)) : Bool :=
  fs.all fun q => (List.range ops.size).all fun i => i == q.1 || Region.waitsFor md ops q.1 i || (match (ops[i]?).bind (·.dst) with | some t => !q.2.slots.contains t | none => true)
theorem sep_of {md : Region.Mode} {ops : Array Oper} : ∀ {fs : List (Nat × Fct)}, sepB md ops fs = true → SepR md ops (rsA fs)
  | [], _ => fun _ _ _ _ _ _ _ _ _ _ => by simp [rsA]
  | q :: l, h => by
    simp only [sepB, List.all_cons, Bool.and_eq_true] at h
    obtain ⟨h1, h2⟩ := h
    have ih := sep_of (md := md) (ops := ops) (fs := l) h2
    intro i j oi oj hi hj hij hno t ht hm
    simp only [rsA, List.mem_append] at hm
    rcases hm with hm | hm
    · split at hm
      · rename_i hq
        have hlt : i < ops.size := (Array.getElem?_eq_some_iff.1 hi).1
        have := List.all_eq_true.1 h1 i (List.mem_range.2 hlt)
        simp only [Bool.or_eq_true, beq_iff_eq] at this
        rcases this with (this | this) | this
        · exact hij (this.trans hq)
        · obtain ⟨oq, hoq, e, he, hb, hon⟩ := Region.waitsFor_spec this
          rw [hq] at hoq
          have : oq = oj := Option.some.inj (hoq.symm.trans hj)
          subst this
          exact hno e he hb hon
        · rw [hi] at this
          simp only [Option.bind_some, ht] at this
          have := List.contains_iff_mem.2 hm
          simp_all
      · cases hm
    · exact ih i j oi oj hi hj hij hno t ht hm

/-- Cells that hold what they held; of what was there nothing else has turned; block 'N' is not older. -/
def InN (N : Nat) (l : List (Addr × Value)) (w w' : World) : Prop := InC l w w' ∧ N ≤ w'.heap.size
theorem InN.below {N : Nat} {l : List (Addr × Value)} {w w1 w2 : World} (h : InN N l w w1) (hb : Below w1.heap.size w1 w2) : InN N l w w2 := ⟨h.1.below hb, Nat.le_trans h.2 hb.size⟩

theorem setCells_size (b : Nat) : ∀ (vs : List Value) (o : Nat) (w : World), (w.setCells b o vs).heap.size = w.heap.size
  | [], _, _ => rfl
  | v :: r, o, w => by rw [World.setCells, setCells_size b r]; simp [go_sem]
theorem Below.setCells {B b : Nat} {a : World} (hp : B ≤ b) : ∀ (vs : List Value) (o : Nat) {w : World}, Below B a w → Below B a (w.setCells b o vs)
  | [], _, _, h => h
  | v :: r, o, w, h => by rw [World.setCells]; exact Below.setCells hp r _ (h.setCell (p := ⟨b, o, none⟩) hp v)
theorem Held.setCells {b o : Nat} {vs : List Value} {w : World} : ∀ {l : List (Addr × Value)}, (∀ q ∈ l, q.1.block ≠ b) → Held l w → Held l (w.setCells b o vs)
  | [], _, _ => trivial
  | p :: l, hl, h => by
    refine ⟨⟨?_, ?_, ?_⟩, Held.setCells (fun q hq => hl q (by simp [hq])) h.2⟩
    · rw [setCells_size]; exact h.1.1
    · rw [World.cell?_setCells_out b vs o w p.1 (fun e _ => absurd e (hl p (by simp)))]; exact h.1.2.1
    · rw [World.frozen?_setCells]; exact h.1.2.2
theorem there_setCells {b b' o o' n : Nat} {vs : List Value} {w : World} (hv : w.there b' o' vs.length) (h : w.there b o n) : (w.setCells b' o' vs).there b o n := fun j hj => by
  refine ⟨?_, by rw [World.frozen?_setCells]; exact (h j hj).2⟩
  by_cases hb : b = b' ∧ o' ≤ o + j ∧ o + j < o' + vs.length
  · obtain ⟨rfl, h1, h2⟩ := hb
    obtain ⟨i, hi⟩ : ∃ i, o + j = o' + i := ⟨o + j - o', by omega⟩
    rw [hi, World.cell?_setCells_in b vs o' w (fun j hj => (hv j hj).1) i (by omega)]
    rfl
  · rw [World.cell?_setCells_out b' vs o' w _ (fun e _ => by simp at e; subst e; simp at hb ⊢; omega)]
    exact (h j hj).1
theorem held_put {b : Nat} {w : World} (hlt : b < w.heap.size) : ∀ (vs : List Value) (o : Nat), (∀ j (hj : j < vs.length), w.cell? ⟨b, o + j, none⟩ = some vs[j]) → (∀ j, j < vs.length → w.frozen? ⟨b, o + j, none⟩ = false) → Held (cellsAt b o vs) w
  | [], _, _, _ => trivial
  | v :: r, o, hc, hf => ⟨⟨hlt, hc 0 (by simp), hf 0 (by simp)⟩, held_put hlt r (o + 1)
      (fun j hj => by have := hc (j + 1) (by simp; omega); rw [show o + (j + 1) = o + 1 + j by omega] at this; simpa using this)
      (fun j hj => by have := hf (j + 1) (by simp; omega); rwa [show o + (j + 1) = o + 1 + j by omega] at this)⟩

theorem there_alloc (w : World) (zs : Array Value) (t : TypeId) : (w.alloc (.cells zs t)).there w.heap.size 0 zs.size := fun j hj => by
  simp [go_sem, hj]

/-- The post of one operation on its own. -/
def calmQB (w : World) (K : Act → Prop) : Exit → Act → World → Prop := fun x a' w' => x = .normal ∧ Below w.heap.size w w' ∧ K a'

section
variable {P : Program} {ops : Array Oper} {md : Region.Mode} {T : FuncId → Array Value → Value → Prop} {Q : Act → Prop} {o : Oper} {rest : List Oper} {a : Act} {k N : Nat} {l : List (Addr × Value)} {w0 : World} {fs : List (Nat × Fct)}
theorem calmA_nil (h : Q a) : wpCalmR P ops md (InN N l w0) T (RA N fs) Q k [] a := h

/-- A plain operation. -/
theorem calmA_plain (hp : plainOp o.op = true) (hw : Region.wanted o (yielded ops a.tmps) = true) (hk : ∀ a w, RA N fs k a w)
    (h : ∀ (K : Act → Prop), (∀ a', wpCalmR P ops md (InN N l w0) T (RA N fs) Q (k + 1) rest a' → K a') → ∀ w, InN N l w0 w → wpList P #[] (calmQB w K) [{ o with guard := none }] a w) : wpCalmR P ops md (InN N l w0) T (RA N fs) Q k (o :: rest) a := by
  have h1 := h (fun a' => wpCalmR P ops md (InN N l w0) T (RA N fs) Q (k + 1) rest a') (fun _ h => h)
  have key : ∀ w, InN N l w0 w → ∃ v w', ((execOp a.eval o).run P w = .ok (.value v) w' ∨ ((execOp a.eval o).run P w = .ok .skip w' ∧ v = undef)) ∧ Below w.heap.size w w' ∧ wpCalmR P ops md (InN N l w0) T (RA N fs) Q (k + 1) rest (a.put o.dst v) := by
    intro w hC
    have h2 := h1 w hC
    unfold wpList at h2
    rw [if_pos (by rfl)] at h2
    rcases h2 with h2 | h2
    · unfold Oper.wp at h2
      have he : execOp a.eval { o with guard := none } = execOp a.eval o := rfl
      rw [he] at h2
      cases hr : (execOp a.eval o).run P w with
      | ok n w' =>
        rw [hr] at h2
        rcases plain_next hp hr with ⟨v, rfl⟩ | rfl
        · exact ⟨v, w', .inl rfl, h2.2.1, h2.2.2⟩
        · exact ⟨undef, w', .inr ⟨rfl, rfl⟩, h2.2.1, h2.2.2⟩
      | halt x w' =>
        rw [hr] at h2
        cases x <;> simp [Oper.upon, calmQB] at h2
    · exfalso
      have := h2.2
      simp [LetsOut, calmQB] at this
  refine ⟨?_, fun v hv => ?_⟩
  · unfold OkO
    rw [if_pos hw]
    intro w hC hD
    obtain ⟨v, w', hr, hb, _⟩ := key w hC
    have hkept : ∀ u, keptR (InN N l w0) (RA N fs) k a o.dst w u w' := fun u => ⟨hC.below hb, hk _ _, fun j a' _ hj => RA_below hb hj⟩
    rcases hr with hr | ⟨hr, _⟩ <;> rw [hr] <;> exact hkept _
  · unfold Yl at hv
    rw [if_pos hw] at hv
    obtain ⟨w, hC, _, hy⟩ := hv
    obtain ⟨v', w', hr, _, hn⟩ := key w hC
    rcases hr with hr | ⟨hr, rfl⟩ <;> rw [hr] at hy
    · have : v = v' := hy
      rw [this]; exact hn
    · have : v = undef := hy
      rw [this]; exact hn

/-- An operation whose guard says no. -/
theorem calmA_skip (hw : Region.wanted o (yielded ops a.tmps) = false) (hk : ∀ a w, RA N fs k a w) (h : wpCalmR P ops md (InN N l w0) T (RA N fs) Q (k + 1) rest (a.put o.dst undef)) : wpCalmR P ops md (InN N l w0) T (RA N fs) Q k (o :: rest) a := by
  refine ⟨?_, fun v hv => ?_⟩
  · unfold OkO
    rw [if_neg (by rw [hw]; decide)]
    exact fun w _ _ => hk _ _
  · unfold Yl at hv
    rw [if_neg (by rw [hw]; decide)] at hv
    rw [hv]; exact h

/-- A nil check of a pointer that is none. -/
theorem calmA_check {x : Operand} {p : Addr} (hop : o.op = .nilCheck x) (hx : a.eval x = .pointer (some p)) (hw : Region.wanted o (yielded ops a.tmps) = true) (hk : ∀ a w, RA N fs k a w)
    (h : wpCalmR P ops md (InN N l w0) T (RA N fs) Q (k + 1) rest (a.put o.dst (.pointer (some p)))) : wpCalmR P ops md (InN N l w0) T (RA N fs) Q k (o :: rest) a := by
  have hrun : ∀ w, (execOp a.eval o).run P w = .ok (.value (.pointer (some p))) w := fun w => by
    unfold execOp
    rw [hop]
    simp [hx, Sem.run_pure]
  refine ⟨?_, fun v hv => ?_⟩
  · unfold OkO
    rw [if_pos hw]
    intro w hC hD
    rw [hrun]
    exact ⟨hC, hk _ _, fun _ _ _ h => h⟩
  · unfold Yl at hv
    rw [if_pos hw] at hv
    obtain ⟨w, _, _, hy⟩ := hv
    rw [hrun] at hy
    have : v = _ := hy
    rw [this]; exact h

/-- A call that leaves what was there. -/
theorem calmA_call {f : FuncId} {args : Array Value} (hw : Region.wanted o (yielded ops a.tmps) = true) (hk : ∀ a w, RA N fs k a w) (hrun : ∀ w, (execOp a.eval o).run P w = .ok (.enter f args) w)
    (hc : ∀ w, InN N l w0 w → Calls P f args w (fun e w' => ∃ v, e = .returned v ∧ T f args v ∧ Below w.heap.size w w')) (hn : ∀ v, T f args v → wpCalmR P ops md (InN N l w0) T (RA N fs) Q (k + 1) rest (a.put o.dst v)) : wpCalmR P ops md (InN N l w0) T (RA N fs) Q k (o :: rest) a := by
  refine ⟨?_, fun v hv => ?_⟩
  · unfold OkO
    rw [if_pos hw]
    intro w hC hD
    rw [hrun]
    exact (hc w hC).mono fun e w' ⟨v, he, hT, hb⟩ => ⟨v, he, hT, hC.below hb, hk _ _, fun j a' _ hj => RA_below hb hj⟩
  · unfold Yl at hv
    rw [if_pos hw] at hv
    obtain ⟨w, _, _, hy⟩ := hv
    rw [hrun] at hy
    exact hn v hy

/-- A new block. -/
theorem calmA_alloc {s n : Nat} {zs : Array Value} {t : TypeId} (hw : Region.wanted o (yielded ops a.tmps) = true) (hd : o.dst = some s) (hs : s < a.tmps.size) (hk : ∀ a w, (Fct.new s n).holds N a w → RA N fs k a w)
    (hrun : ∀ w, (execOp a.eval o).run P w = .ok (.value (.pointer (some ⟨w.heap.size, 0, none⟩))) (w.alloc (.cells zs t)))
    (hz : zs.size = n)
    (hn : ∀ b, N ≤ b → wpCalmR P ops md (InN N l w0) T (RA N fs) Q (k + 1) rest (a.put o.dst (.pointer (some ⟨b, 0, none⟩)))) : wpCalmR P ops md (InN N l w0) T (RA N fs) Q k (o :: rest) a := by
  refine ⟨?_, fun v hv => ?_⟩
  · unfold OkO
    rw [if_pos hw]
    intro w hC hD
    rw [hrun]
    have hb : Below w.heap.size w (w.alloc (.cells zs t)) := Below.allocS (Below.refl _ _) _
    refine ⟨hC.below hb, hk _ _ ⟨w.heap.size, ?_, hC.2, by simp [go_sem], by rw [← hz]; exact there_alloc w zs t⟩, fun j a' _ hj => RA_below hb hj⟩
    rw [hd]
    simp [Act.put, Act.eval, hs]
  · unfold Yl at hv
    rw [if_pos hw] at hv
    obtain ⟨w, hC, _, hy⟩ := hv
    rw [hrun] at hy
    have : v = _ := hy
    rw [this]
    exact hn _ hC.2

/-- What a slot holds is put into a new block. -/
theorem calmA_store {t : TypeId} {p x : Tmp} {b ia n : Nat} {vs : Array Value} (hop : o.op = .store t (.tmp p) (.tmp x)) (hw : Region.wanted o (yielded ops a.tmps) = true) (hd : o.dst = none)
    (hp : a.eval (.tmp p) = .pointer (some ⟨b, 0, none⟩)) (hN : N ≤ b) (hx : a.eval (.tmp x) = .agg vs) (hdep : Region.waitsFor md #[o] 0 ia = true) (hia : ∀ a w, RA N fs ia a w → (Fct.new p n).holds N a w)
    (hi : (P.info? t).map (·.size) = some n) (hsz : vs.size = n) (h1 : vs.all (·.oneCell') = true) (hk : ∀ a w, (Fct.put p x).holds N a w → RA N fs k a w) (hl : ∀ q ∈ l, q.1.block < N) (hN0 : w0.heap.size ≤ N)
    (hoth : (fs.all fun q => q.1 == k || q.2.isNew) = true) (hn : wpCalmR P ops md (InN N l w0) T (RA N fs) Q (k + 1) rest (a.put o.dst undef)) : wpCalmR P ops md (InN N l w0) T (RA N fs) Q k (o :: rest) a := by
  have key : ∀ w, InN N l w0 w → DepsR md (RA N fs) o a w → (execOp a.eval o).run P w = .ok .skip (w.setCells b 0 vs.toList) ∧ b < w.heap.size ∧ w.there b 0 vs.toList.length := by
    intro w hC hD
    obtain ⟨o', ho', e, he, hb, hon⟩ := Region.waitsFor_spec hdep
    have : o' = o := by simpa using ho'.symm
    subst this
    obtain ⟨b', hb1, hb2, hb3, hb4⟩ := hia a w (by rw [← hon]; exact hD e he hb)
    rw [hp] at hb1
    obtain rfl : b = b' := by cases hb1; rfl
    have hth : w.there b 0 vs.size := by rw [hsz]; exact hb4
    refine ⟨?_, hb3, by simpa using hth⟩
    unfold execOp
    simp only [hop, hp, hx, Sem.run_bind, Sem.run_pure, run_storeAt_mid w b 0 t vs hth (by rw [hsz]; exact hi) h1, Result.andThen_ok]
  refine ⟨?_, fun v hv => ?_⟩
  · unfold OkO
    rw [if_pos hw]
    intro w hC hD
    obtain ⟨hr, hlt, hth⟩ := key w hC hD
    rw [hr]
    refine ⟨⟨⟨Held.setCells (fun q hq => by have := hl q hq; omega) hC.1.1, Below.setCells (Nat.le_trans hN0 hN) _ _ hC.1.2⟩, by rw [setCells_size]; exact hC.2⟩, hk _ _ ?_, ?_⟩
    · rw [hd]
      refine ⟨b, vs, hp, hx, hN, held_put (by rw [setCells_size]; exact hlt) _ 0 (fun j hj => ?_) (fun j hj => by rw [World.frozen?_setCells]; exact (hth j hj).2)⟩
      exact World.cell?_setCells_in b vs.toList 0 w (fun j hj => (hth j hj).1) j hj
    · intro j a' hj hR
      have : ∀ fs : List (Nat × Fct), (fs.all fun q => q.1 == k || q.2.isNew) = true → RA N fs j a' w → RA N fs j a' (w.setCells b 0 vs.toList) := by
        intro fs
        induction fs with
        | nil => intro _ _; trivial
        | cons q fs ih =>
          intro hq hR
          simp only [List.all_cons, Bool.and_eq_true, Bool.or_eq_true, beq_iff_eq] at hq
          refine ⟨fun e => ?_, ih hq.2 hR.2⟩
          have hh := hR.1 e
          rcases hq.1 with h | h
          · exact absurd (e.symm.trans h) hj
          · obtain ⟨i, f⟩ := q
            cases f with
            | new k' n' =>
              obtain ⟨b', g1, g2, g3, g4⟩ := hh
              exact ⟨b', g1, g2, by rw [setCells_size]; exact g3, there_setCells hth g4⟩
            | put p' x' => cases h
      exact this fs hoth hR
  · unfold Yl at hv
    rw [if_pos hw] at hv
    obtain ⟨w, hC, hD, hy⟩ := hv
    rw [(key w hC hD).1] at hy
    have : v = undef := hy
    rw [this]; exact hn
end

/-- The region, with facts. -/
theorem region_calmA {P : Program} {id : Nat} {Q : Exit → Act → World → Prop} {a : Act} {w : World} {l : List Oper} (w0 : World) (N : Nat) (h0 : List (Addr × Value)) (T : FuncId → Array Value → Value → Prop) (fs : List (Nat × Fct)) (hm : P.follows .mixedOrders = true) (hB : Region.lexB .any l.toArray = true) (hsep : sepB .any l.toArray fs = true)
    (hw : InN N h0 w0 w.drew) (h : wpCalmR P l.toArray .any (InN N h0 w0) T (RA N fs) (fun a' => ∀ w', InN N h0 w0 w' → (∀ j, j < l.length → RA N fs j a' w') → Q .normal a' w') 0 l a) : (Code.region id l.toArray true).wp P Q a w :=
  wp_region_calmR (InN N h0 w0) T (RA N fs) (rsA fs) (fun j a d v w => RA_put fs j a d v w) (sep_of hsep) hm hB hw h
theorem region_calmA_tail {P : Program} {id : Nat} {Q : Exit → Act → World → Prop} {a : Act} {w : World} {l : List Oper} (n : Nat) (w0 : World) (N : Nat) (h0 : List (Addr × Value)) (T : FuncId → Array Value → Value → Prop) (fs : List (Nat × Fct)) (hm : P.follows .mixedOrders = true) (hB : Region.lexTailB .any l.toArray n = true) (hsep : sepB .any l.toArray fs = true)
    (hw : InN N h0 w0 w.drew) (h : wpCalmR P l.toArray .any (InN N h0 w0) T (RA N fs) (fun a' => ∀ w', InN N h0 w0 w' → (∀ j, j < n → RA N fs j a' w') → wpList P l.toArray Q (l.drop n) a' w') 0 (l.take n) a) : (Code.region id l.toArray true).wp P Q a w :=
  wp_region_calmR_tail n (InN N h0 w0) T (RA N fs) (rsA fs) (fun j a d v w => RA_put fs j a d v w) (sep_of hsep) hm hB hw h

end Go.Proofs.Ytoiomgofbohmoaa
