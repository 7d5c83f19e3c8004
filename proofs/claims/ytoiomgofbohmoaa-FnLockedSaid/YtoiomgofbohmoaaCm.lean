/-
  A region that draws its order, each of whose operations keeps a class of worlds and yields some value of a set (a float whose NaN bits are drawn, a call told by a table): one walk in the text's order serves every order; a forced tail may follow.
-/
import Derived.StillTail
import Derived.Tactics
import Derived.Calls
import Derived.Test.YtoiomgofbohmoaaFx
set_option linter.unusedVariables false
set_option linter.unusedSimpArgs false
namespace Go.Proofs.Ytoiomgofbohmoaa
open Go.RowKit

/-- Operations that yield a value or nothing: no call, no spawn. -/
def plainOp : Op → Bool
  | .move _ | .assign _ | .pick .. | .alloc _ | .box .. | .build .. | .buildSlice .. | .load .. | .store .. | .binOp .. | .unOp .. | .convert .. | .makeSlice .. | .slice .. | .fieldAddr .. | .field .. | .indexAddr .. | .index .. | .extract .. => true
  | _ => false

theorem plain_next {P : Program} {o : Oper} {ρ : Operand → Value} {w w' : World} {n : Next} (hp : plainOp o.op = true) (h : (execOp ρ o).run P w = .ok n w') : (∃ v, n = .value v) ∨ n = .skip := by
  have hv : ∀ (s : Sem Value), (do pure (.value (← s)) : Sem Next).run P w = .ok n w' → ∃ v, n = .value v := by
    intro s hs
    simp only [Sem.run_bind, Sem.run_pure] at hs
    cases hr : s.run P w with
    | ok v w1 => rw [hr] at hs; simp only [Result.andThen] at hs; injection hs with h1 h2; exact ⟨v, h1.symm⟩
    | halt x w1 => rw [hr] at hs; simp [Result.andThen] at hs
  have hu : ∀ (s : Sem Unit), (do s; pure .skip : Sem Next).run P w = .ok n w' → n = .skip := by
    intro s hs
    simp only [Sem.run_bind, Sem.run_pure] at hs
    cases hr : s.run P w with
    | ok v w1 => rw [hr] at hs; simp only [Result.andThen] at hs; injection hs with h1 h2; exact h1.symm
    | halt x w1 => rw [hr] at hs; simp [Result.andThen] at hs
  unfold execOp at h
  revert hp h
  cases o.op <;> intro hp h <;> first | (cases hp; done) | exact .inl (hv _ h) | exact .inr (hu _ h) | skip
  all_goals (try (simp only [Sem.run_pure] at h; injection h with h1 h2; exact .inl ⟨_, h1.symm⟩))
  rename_i c x y
  refine .inl (hv (do pure (if ← asBool (ρ c) then ρ x else ρ y)) ?_)
  simpa using h

section
variable {P : Program} {ops : Array Oper} {md : Region.Mode} {C : World → Prop} {T : FuncId → Array Value → Value → Prop} {Fm : Oper → Value → World → Prop}

/-- What is kept when 'o' has yielded 'v' and the world 'w' has become 'w'': the class; the fact of the value; the facts of the values that were there. -/
def keptS (C : World → Prop) (Fm : Oper → Value → World → Prop) (o : Oper) (w : World) (v : Value) (w' : World) : Prop := C w' ∧ Fm o v w' ∧ ∀ o1 v1, Fm o1 v1 w → Fm o1 v1 w'
/-- What is asked of what an operation came to: that is kept, and every value that it may yield serves. -/
def calmUpon (P : Program) (T : FuncId → Array Value → Value → Prop) (S : Value → World → Prop) (G : Value → Prop) : Result Next → Prop
  | .ok (.value v) w => S v w ∧ G v
  | .ok .skip w => S undef w ∧ G undef
  | .ok (.enter f args) w => Calls P f args w (fun e w' => ∃ v, e = .returned v ∧ T f args v ∧ S v w') ∧ ∀ v, T f args v → G v
  | _ => False
/-- In every world of the class. -/
def calmV (P : Program) (T : FuncId → Array Value → Value → Prop) (C : World → Prop) (Fm : Oper → Value → World → Prop) (o : Oper) (a : Act) (G : Value → Prop) : Prop := ∀ w, C w → calmUpon P T (keptS C Fm o w) G ((execOp a.eval o).run P w)
/-- Guarded operations that do not come up leave nothing. -/
def calmG (P : Program) (ops : Array Oper) (T : FuncId → Array Value → Value → Prop) (C : World → Prop) (Fm : Oper → Value → World → Prop) (o : Oper) (a : Act) (G : Value → Prop) : Prop :=
  if Region.wanted o (yielded ops a.tmps) = true then calmV P T C Fm o a G else (∀ w, Fm o undef w) ∧ G undef
/-- The walk in the text's order; the facts of the values are gathered in 'Z'. -/
def wpCalm (P : Program) (ops : Array Oper) (T : FuncId → Array Value → Value → Prop) (C : World → Prop) (Fm : Oper → Value → World → Prop) (Q : Act → (World → Prop) → Prop) : List Oper → Act → (World → Prop) → Prop
  | [], a, Z => Q a Z
  | o :: rest, a, Z => calmG P ops T C Fm o a (fun v => wpCalm P ops T C Fm Q rest (a.put o.dst v) (fun w => Z w ∧ Fm o v w))

/-- One value that it may yield. -/
theorem calmUpon_some {S : Value → World → Prop} {G : Value → Prop} {r : Result Next} (h : calmUpon P T S G r) : ∃ v, G v := by
  match r, h with
  | .ok (.value v) _, h => exact ⟨v, h.2⟩
  | .ok .skip _, h => exact ⟨_, h.2⟩
  | .ok (.enter f args) _, h =>
    obtain ⟨e, w', fr, ⟨v, _, hv, _⟩, _⟩ := h.1 []
    exact ⟨v, h.2 v hv⟩
theorem calmUpon_mono {S : Value → World → Prop} {G G' : Value → Prop} {r : Result Next} (hg : ∀ v, G v → G' v) (h : calmUpon P T S G r) : calmUpon P T S G' r := by
  match r, h with
  | .ok (.value v) _, h => exact ⟨h.1, hg _ h.2⟩
  | .ok .skip _, h => exact ⟨h.1, hg _ h.2⟩
  | .ok (.enter f args) _, h => exact ⟨h.1, fun v hv => hg _ (h.2 v hv)⟩
theorem calmUpon_all {ι : Type} {S : Value → World → Prop} {G : ι → Value → Prop} {r : Result Next} (i0 : ι) (h : ∀ i, calmUpon P T S (G i) r) : calmUpon P T S (fun v => ∀ i, G i v) r := by
  have h0 := h i0
  match r, h, h0 with
  | .ok (.value v) _, h, h0 => exact ⟨h0.1, fun i => (h i).2⟩
  | .ok .skip _, h, h0 => exact ⟨h0.1, fun i => (h i).2⟩
  | .ok (.enter f args) _, h, h0 => exact ⟨h0.1, fun v hv i => (h i).2 v hv⟩

theorem calmG_mono {o : Oper} {a : Act} {G G' : Value → Prop} (hg : ∀ v, G v → G' v) (h : calmG P ops T C Fm o a G) : calmG P ops T C Fm o a G' := by
  unfold calmG calmV at *
  split
  · rename_i hw; rw [if_pos hw] at h; exact fun w hC => calmUpon_mono hg (h w hC)
  · rename_i hw; rw [if_neg hw] at h; exact ⟨h.1, hg _ h.2⟩
theorem calmG_some {o : Oper} {a : Act} {G : Value → Prop} (hC : ∃ w, C w) (h : calmG P ops T C Fm o a G) : ∃ v, G v := by
  unfold calmG calmV at *
  split at h
  · obtain ⟨w, hw⟩ := hC; exact calmUpon_some (h w hw)
  · exact ⟨_, h.2⟩
theorem calmG_all {ι : Type} {o : Oper} {a : Act} {G : ι → Value → Prop} (i0 : ι) (h : ∀ i, calmG P ops T C Fm o a (G i)) : calmG P ops T C Fm o a (fun v => ∀ i, G i v) := by
  unfold calmG calmV at *
  split
  · rename_i hw
    exact fun w hC => calmUpon_all i0 (fun i => by have := h i; rw [if_pos hw] at this; exact this w hC)
  · rename_i hw
    have h0 := h i0
    rw [if_neg hw] at h0
    exact ⟨h0.1, fun i => by have := h i; rw [if_neg hw] at this; exact this.2⟩
/-- What the set of values is, does not hang on what is asked of them: so two operations may change places. -/
theorem calmG_swap {oi oj : Oper} {a b : Act} {G : Value → Value → Prop} (hC : ∃ w, C w) (h : calmG P ops T C Fm oi a (fun v => calmG P ops T C Fm oj b (fun u => G v u))) :
    calmG P ops T C Fm oj b (fun u => calmG P ops T C Fm oi a (fun v => G v u)) := by
  have hs : ∃ v, calmG P ops T C Fm oj b (fun u => G v u) := calmG_some hC h
  obtain ⟨v0, _⟩ := hs
  have H : calmG P ops T C Fm oj b (fun u => ∀ v : {v : Value // calmG P ops T C Fm oj b (fun u => G v u)}, G v.1 u) := calmG_all ⟨v0, ‹_›⟩ (fun v => v.2)
  refine calmG_mono (fun u hu => ?_) H
  exact calmG_mono (fun v hv => hu ⟨v, hv⟩) h

theorem calmG_put {o : Oper} (hs : ∀ cs b, o.op ≠ .select cs b) {a : Act} {dst : Option Tmp} {v : Value} {G : Value → Prop} (hd : ∀ d, dst = some d → d ∉ o.looksAt ops) :
    calmG P ops T C Fm o (a.put dst v) G = calmG P ops T C Fm o a G := by
  unfold calmG calmV
  rw [wanted_put o a dst v hd, execOp_put o hs a dst v hd]

/-- Operation number 'i' comes up. -/
def cOp (P : Program) (ops : Array Oper) (T : FuncId → Array Value → Value → Prop) (C : World → Prop) (Fm : Oper → Value → World → Prop) (i : Nat) (K : Act → (World → Prop) → Prop) (a : Act) (Z : World → Prop) : Prop :=
  match ops[i]? with
  | none => K a Z
  | some o => calmG P ops T C Fm o a (fun v => K (a.put o.dst v) (fun w => Z w ∧ Fm o v w))
theorem cOp_some {i : Nat} {o : Oper} (hi : ops[i]? = some o) {K : Act → (World → Prop) → Prop} {a : Act} {Z : World → Prop} :
    cOp P ops T C Fm i K a Z = calmG P ops T C Fm o a (fun v => K (a.put o.dst v) (fun w => Z w ∧ Fm o v w)) := by
  unfold cOp; rw [hi]

/-- Whatever order is picked, among the first 'n'. -/
def wpAnyC (P : Program) (md : Region.Mode) (ops : Array Oper) (T : FuncId → Array Value → Value → Prop) (C : World → Prop) (Fm : Oper → Value → World → Prop) (n : Nat) (L : Array Bool → Act → (World → Prop) → Prop) : Nat → Array Bool → Act → (World → Prop) → Prop
  | 0, listed, a, Z => L listed a Z
  | f + 1, listed, a, Z =>
    Region.ready md ops listed ≠ [] ∧ ∀ i ∈ Region.ready md ops listed, i < n ∧ cOp P ops T C Fm i (wpAnyC P md ops T C Fm n L f (listed.setIfInBounds i true)) a Z

theorem wp_of_calmUpon {o : Oper} {a : Act} {w : World} {S : Value → World → Prop} {G : Value → Prop} {K : Act → World → Prop} {Q : Exit → Act → World → Prop} (h : calmUpon P T S G ((execOp a.eval o).run P w)) (hk : ∀ v w', S v w' → G v → K (a.put o.dst v) w') : o.wp P a w K Q := by
  unfold Oper.wp
  generalize (execOp a.eval o).run P w = r at *
  match r, h with
  | .ok (.value v) w', h => exact hk _ _ h.1 h.2
  | .ok .skip w', h => exact hk _ _ h.1 h.2
  | .ok (.enter f args) w', h =>
    simp only [Oper.upon]
    refine h.1.mono ?_
    rintro e w'' ⟨v, rfl, hv, hw⟩
    exact hk _ _ hw (h.2 v hv)

/-- Facts that each step keeps. -/
def KeepsZ (C : World → Prop) (Fm : Oper → Value → World → Prop) (Z : World → Prop) : Prop := ∀ w w', Z w → C w' → (∀ o1 v1, Fm o1 v1 w → Fm o1 v1 w') → Z w'
theorem KeepsZ.and {Z : World → Prop} (h : KeepsZ C Fm Z) (o : Oper) (v : Value) : KeepsZ C Fm (fun w => Z w ∧ Fm o v w) := fun w w' hz hc hf => ⟨h w w' hz.1 hc hf, hf o v hz.2⟩

theorem wpOp_of_cOp {i : Nat} {a : Act} {w : World} {Z : World → Prop} {K : Act → (World → Prop) → Prop} {K' : Act → World → Prop} {Q : Exit → Act → World → Prop} (hC : C w) (hz : Z w) (hk : KeepsZ C Fm Z)
    (h : ∀ a w' Z', C w' → Z' w' → KeepsZ C Fm Z' → K a Z' → K' a w') (hh : cOp P ops T C Fm i K a Z) : wpOp P ops Q i K' a w := by
  unfold cOp at hh
  unfold wpOp
  split
  · rename_i ho; rw [ho] at hh; exact h _ _ _ hC hz hk hh
  · rename_i o ho
    rw [ho] at hh
    unfold calmG at hh
    split
    · rename_i hw
      simp only [hw, if_true] at hh
      exact .inl (wp_of_calmUpon (hh w hC) (fun v w' hs hg => h _ w' _ hs.1 ⟨hk w w' hz hs.1 hs.2.2, hs.2.1⟩ (hk.and o v) hg))
    · rename_i hw
      simp only [hw] at hh
      exact h _ w _ hC ⟨hz, hh.1 w⟩ (hk.and o undef) hh.2

theorem wpAny_of_calm {n g : Nat} {L : Array Bool → Act → (World → Prop) → Prop} {Q' : Exit → Act → World → Prop} (hL : ∀ listed a w Z, C w → Z w → L listed a Z → wpAny P md ops Q' g listed a w) :
    ∀ (f : Nat) (listed : Array Bool) (a : Act) (w : World) (Z : World → Prop), C w → Z w → KeepsZ C Fm Z → wpAnyC P md ops T C Fm n L f listed a Z → wpAny P md ops Q' (f + g) listed a w
  | 0, listed, a, w, Z, hC, hz, hk, h => by rw [Nat.zero_add]; exact hL _ _ _ _ hC hz h
  | f + 1, listed, a, w, Z, hC, hz, hk, h => by
    rw [show f + 1 + g = (f + g) + 1 by omega]
    exact ⟨fun h0 => absurd h0 h.1, fun i hi => wpOp_of_cOp hC hz hk (fun a' w' Z' hC' hz' hk' h' => wpAny_of_calm hL f _ a' w' Z' hC' hz' hk' h') (h.2 i hi).2⟩

theorem facts_swap (Z : World → Prop) (oi oj : Oper) (v u : Value) : (fun w => (Z w ∧ Fm oi v w) ∧ Fm oj u w) = (fun w => (Z w ∧ Fm oj u w) ∧ Fm oi v w) := by
  funext w; exact propext and_right_comm

/-- An operation that may come up may be taken first. -/
theorem wpAnyC_first {n i : Nat} {oi : Oper} {L : Array Bool → Act → (World → Prop) → Prop} (hC : ∃ w, C w) (hi : ops[i]? = some oi) (hsel : ∀ (j : Nat) (o : Oper) cs b, ops[j]? = some o → o.op ≠ .select cs b) (hin : i < n)
    (hdone : ∀ listed a Z, L listed a Z → ∀ j ∈ Region.ready md ops listed, n ≤ j) (Inv : Array Bool → Prop) (hinv : ∀ listed j, Inv listed → j ∈ Region.ready md ops listed → j < n → Inv (listed.setIfInBounds j true))
    (hlow : ∀ listed, Inv listed → listed.getD i true = false → ∀ j ∈ Region.ready md ops listed, j < n) :
    ∀ (f : Nat) (listed : Array Bool) (a : Act) (Z : World → Prop), Inv listed →
      (∀ j oj, ops[j]? = some oj → j ≠ i → listed.getD j true = false → (∀ e ∈ oj.after, Region.binds md e = true → e.on ≠ i) → oi.apart ops oj = true) →
      i ∈ Region.ready md ops listed →
      calmG P ops T C Fm oi a (fun v => wpAnyC P md ops T C Fm n L f (listed.setIfInBounds i true) (a.put oi.dst v) (fun w => Z w ∧ Fm oi v w)) → wpAnyC P md ops T C Fm n L (f + 1) listed a Z := by
  intro f
  induction f with
  | zero =>
    intro listed a Z inv _ hr H
    have hun := (mem_ready.1 hr).1
    refine ⟨fun h => (by rw [h] at hr; cases hr), fun j hj => ⟨hlow _ inv hun j hj, ?_⟩⟩
    by_cases hji : j = i
    · subst hji; rw [cOp_some hi]; exact H
    · obtain ⟨v, hv⟩ := calmG_some hC H
      have := hdone _ _ _ hv j (ready_mono hj hji)
      have := hlow _ inv hun j hj
      omega
  | succ f ih =>
    intro listed a Z inv hfree hr H
    have hun := (mem_ready.1 hr).1
    refine ⟨fun h => (by rw [h] at hr; cases hr), fun j hj => ⟨hlow _ inv hun j hj, ?_⟩⟩
    by_cases hji : j = i
    · subst hji; rw [cOp_some hi]; exact H
    · have hjn := hlow _ inv hun j hj
      obtain ⟨hjun, oj, hoj, hall⟩ := mem_ready.1 hj
      have hnot : ∀ e ∈ oj.after, Region.binds md e = true → e.on ≠ i := fun e he hb heq => by
        have h1 := hall e he hb
        rw [heq, getD_both hun] at h1
        cases h1
      obtain ⟨h1, h2, h3⟩ := Oper.apart_spec (hfree j oj hoj hji hjun hnot)
      have hfree' : ∀ k ok, ops[k]? = some ok → k ≠ i → (listed.setIfInBounds j true).getD k true = false →
          (∀ e ∈ ok.after, Region.binds md e = true → e.on ≠ i) → oi.apart ops ok = true := fun k ok hk hki hun' hno => by
        refine hfree k ok hk hki ?_ hno
        by_cases hjk : j = k
        · subst hjk; exact hjun
        · rw [getD_set_ne true hjk] at hun'; exact hun'
      -- 'oj' after 'oi', then the other way round
      have H1 : calmG P ops T C Fm oi a (fun v => calmG P ops T C Fm oj a (fun u => wpAnyC P md ops T C Fm n L f ((listed.setIfInBounds i true).setIfInBounds j true) ((a.put oi.dst v).put oj.dst u) (fun w => (Z w ∧ Fm oi v w) ∧ Fm oj u w))) := by
        refine calmG_mono (fun v hv => ?_) H
        have := (hv.2 j (ready_mono hj hji)).2
        rw [cOp_some hoj, calmG_put (fun cs b => hsel j oj cs b hoj) h1] at this
        exact this
      have H2 := calmG_swap hC H1
      rw [cOp_some hoj]
      refine calmG_mono (fun u hu => ih (listed.setIfInBounds j true) (a.put oj.dst u) _ (hinv _ _ inv hj hjn) hfree' (ready_mono hr (Ne.symm hji)) ?_) H2
      rw [calmG_put (fun cs b => hsel i oi cs b hi) h3]
      refine calmG_mono (fun v hv => ?_) hu
      rw [Array.setIfInBounds_comm _ _ hji, ← Act.put_comm a v u h2, ← facts_swap]
      exact hv

theorem wpAnyC_lex {n g : Nat} {Lq : Act → (World → Prop) → Prop} (hC : ∃ w, C w) (hsel : Region.noSelect ops = true) (hs : Region.sinkB md ops n = true) (hc : Region.chainB md ops n = true) (hn : n < ops.size) :
    ∀ (l : List Oper) (k : Nat) (listed : Array Bool) (a : Act) (Z : World → Prop), (∀ j, j < l.length → l[j]? = ops[k + j]?) → k + l.length = n → HeadInv md ops n listed →
    Region.lexHead md ops g l.length k listed = true → wpCalm P ops T C Fm Lq l a Z →
    wpAnyC P md ops T C Fm n (fun listed' a' Z' => Region.seqB md ops g n listed' = true ∧ Lq a' Z') l.length listed a Z
  | [], k, listed, a, Z, _, hk, _, hB, h => by
    have : k = n := by simpa using hk
    subst this
    exact ⟨by simpa [Region.lexHead] using hB, h⟩
  | o :: l, k, listed, a, Z, hl, hk, inv, hB, h => by
    have h0 : ops[k]? = some o := by simpa using (hl 0 (by simp)).symm
    simp only [List.length_cons, Region.lexHead, Bool.and_eq_true] at hB
    obtain ⟨⟨hr, hf⟩, hB'⟩ := hB
    have hkn : k < n := by simp only [List.length_cons] at hk; omega
    have hr' : k ∈ Region.ready md ops listed := by simpa using hr
    refine wpAnyC_first hC h0 (Region.noSelect_spec hsel) hkn (fun listed' a' Z' hL => seqB_ready hL.1) (HeadInv md ops n) (fun listed' j hi hj hjn => hi.set hj hjn)
      (fun listed' hi hu j hj => ?_) l.length listed a Z inv (Region.free_spec h0 hf) hr' ?_
    · rcases Nat.lt_or_ge j n with h | h
      · exact h
      · exact absurd hj (tail_waits hs hc hn hi _ k rfl hkn hu j h)
    · exact calmG_mono (fun v hv => wpAnyC_lex hC hsel hs hc hn l (k + 1) _ _ _ (fun j hj => by have := hl (j + 1) (by simp; omega); simpa [Nat.add_assoc, Nat.add_comm 1 j] using this) (by simp only [List.length_cons] at hk; omega) (inv.set hr' hkn) hB' hv) h

/-- A region that asks the tape: the first 'n' operations in the text's order, each calm; then the forced tail, where all facts are at hand. -/
theorem wp_region_calm_facts {id : Nat} {Q : Exit → Act → World → Prop} {a : Act} {w : World} {l : List Oper} (n : Nat) (C : World → Prop) (T : FuncId → Array Value → Value → Prop) (Fm : Oper → Value → World → Prop) (hm : P.follows .mixedOrders = true) (hB : Region.lexTailB .any l.toArray n = true)
    (hw : C w.drew) (h : wpCalm P l.toArray T C Fm (fun a' Z => ∀ w', C w' → Z w' → wpList P l.toArray Q (l.drop n) a' w') (l.take n) a (fun _ => True)) : (Code.region id l.toArray true).wp P Q a w := by
  simp only [Region.lexTailB, Bool.and_eq_true, decide_eq_true_eq] at hB
  obtain ⟨⟨⟨⟨hsel, hn⟩, hs⟩, hc⟩, hlex⟩ := hB
  have hn' : n < l.length := by simpa using hn
  have htl : (l.take n).length = n := by simp; omega
  have hdl : (l.drop n).length = l.toArray.size - n := by simp
  have inv0 : HeadInv .any l.toArray n (Array.replicate l.toArray.size false) :=
    ⟨by simp, fun j oj _ hl => (by rw [getD_replicate_false] at hl; cases hl), fun t _ ht => getD_in (by simpa using ht) (getD_replicate_false _ _)⟩
  have H := wpAnyC_lex (md := .any) (g := l.toArray.size - n) ⟨_, hw⟩ hsel hs hc hn (l.take n) 0 _ a _ (fun j hj => by
    have hj' : j < n := by rw [htl] at hj; exact hj
    simp [hj']) (by simpa using htl) inv0 (by rw [htl]; exact hlex) h
  refine wp_region_any hm ?_
  have := wpAny_of_calm (Q' := Q) (g := l.toArray.size - n) (fun listed a' w' Z' hC' hz' hL => by
    have := wpAny_of_seq (md := .any) (Q' := Q) (l.drop n) n listed a' w' (fun j => by simp [List.getElem?_drop]) (by rw [hdl]; exact hL.1) (hL.2 w' hC' hz')
    rwa [hdl] at this) _ _ _ _ _ hw trivial (fun _ _ _ _ _ => trivial) H
  rw [htl, show n + (l.toArray.size - n) = l.toArray.size by omega] at this
  exact this
/-- No facts. -/
def noFact : Oper → Value → World → Prop := fun _ _ _ => True
theorem wp_region_calm_tail {id : Nat} {Q : Exit → Act → World → Prop} {a : Act} {w : World} {l : List Oper} (n : Nat) (C : World → Prop) (T : FuncId → Array Value → Value → Prop) (hm : P.follows .mixedOrders = true) (hB : Region.lexTailB .any l.toArray n = true)
    (hw : C w.drew) (h : wpCalm P l.toArray T C noFact (fun a' Z => ∀ w', C w' → Z w' → wpList P l.toArray Q (l.drop n) a' w') (l.take n) a (fun _ => True)) : (Code.region id l.toArray true).wp P Q a w :=
  wp_region_calm_facts n C T noFact hm hB hw h

/-- The same with no tail. -/
theorem wp_region_calm {id : Nat} {Q : Exit → Act → World → Prop} {a : Act} {w : World} {l : List Oper} (C : World → Prop) (T : FuncId → Array Value → Value → Prop) (hm : P.follows .mixedOrders = true) (hB : Region.lexB .any l.toArray = true)
    (hw : C w.drew) (h : wpCalm P l.toArray T C noFact (fun a' _ => ∀ w', C w' → Q .normal a' w') l a (fun _ => True)) : (Code.region id l.toArray true).wp P Q a w := by
  simp only [Region.lexB, Bool.and_eq_true] at hB
  obtain ⟨hsel, hlex⟩ := hB
  have key : ∀ (l' : List Oper) (k : Nat) (listed : Array Bool) (a : Act) (Z : World → Prop), (∀ j, l'[j]? = l.toArray[k + j]?) → Region.lexFrom .any l.toArray l'.length k listed = true →
      wpCalm P l.toArray T C noFact (fun a' _ => ∀ w', C w' → Q .normal a' w') l' a Z →
      wpAnyC P .any l.toArray T C noFact l.toArray.size (fun listed' a' _ => Region.ready .any l.toArray listed' = [] ∧ ∀ w', C w' → Q .normal a' w') l'.length listed a Z := by
    intro l'
    induction l' with
    | nil => intro k listed a Z _ hB h; exact ⟨by simpa [Region.lexFrom] using hB, h⟩
    | cons o l' ih =>
      intro k listed a Z hl hB h
      have h0 : l.toArray[k]? = some o := by simpa using (hl 0).symm
      simp only [List.length_cons, Region.lexFrom, Bool.and_eq_true] at hB
      obtain ⟨⟨hr, hf⟩, hB'⟩ := hB
      have hlow : ∀ listed', ∀ j ∈ Region.ready .any l.toArray listed', j < l.toArray.size := fun listed' j hj => by
        obtain ⟨_, oj, hoj, _⟩ := mem_ready.1 hj
        exact (Array.getElem?_eq_some_iff.1 hoj).1
      refine wpAnyC_first ⟨_, hw⟩ h0 (Region.noSelect_spec hsel) ((Array.getElem?_eq_some_iff.1 h0).1) (fun listed' a' Z' hL j hj => by rw [hL.1] at hj; cases hj) (fun _ => True) (fun _ _ _ _ _ => trivial)
        (fun listed' _ _ j hj => hlow listed' j hj) l'.length listed a Z trivial (Region.free_spec h0 hf) (by simpa using hr) ?_
      exact calmG_mono (fun v hv => ih (k + 1) _ _ _ (fun j => by have := hl (j + 1); simpa [Nat.add_assoc, Nat.add_comm 1 j] using this) hB' hv) h
  refine wp_region_any hm ?_
  have H := key l 0 (Array.replicate l.toArray.size false) a _ (by simp) (by simpa using hlex) h
  have := wpAny_of_calm (md := .any) (Q' := Q) (g := 0) (fun listed a' w' Z' hC' _ hL => ⟨hL.1, hL.2 w' hC'⟩) _ _ _ _ _ hw trivial (fun _ _ _ _ _ => trivial) H
  simpa using this

/-- The post of one operation on its own. -/
def calmQ (S : World → Prop) (K : Act → Prop) : Exit → Act → World → Prop := fun x a' w' => x = .normal ∧ S w' ∧ K a'
/-- The same, told of the value that went into the slot. -/
def calmQF (C : World → Prop) (Fm : Oper → Value → World → Prop) (o : Oper) (a : Act) (w : World) (K : Act → Value → Prop) : Exit → Act → World → Prop :=
  fun x a' w' => x = .normal ∧ ∀ v, a' = a.put o.dst v → keptS C Fm o w v w' ∧ K a' v

variable {Q : Act → (World → Prop) → Prop} {o : Oper} {rest : List Oper} {a : Act} {Z : World → Prop}
theorem calm_nil (h : Q a Z) : wpCalm P ops T C Fm Q [] a Z := h
/-- A plain operation. -/
theorem calm_plainF (hp : plainOp o.op = true) (hw : Region.wanted o (yielded ops a.tmps) = true)
    (h : ∀ (K : Act → Value → Prop), (∀ a' v, wpCalm P ops T C Fm Q rest a' (fun w => Z w ∧ Fm o v w) → K a' v) → ∀ w, C w → wpList P #[] (calmQF C Fm o a w K) [{ o with guard := none }] a w) : wpCalm P ops T C Fm Q (o :: rest) a Z := by
  show calmG P ops T C Fm o a (fun v => wpCalm P ops T C Fm Q rest (a.put o.dst v) (fun w => Z w ∧ Fm o v w))
  have h1 := h (fun a' v => wpCalm P ops T C Fm Q rest a' (fun w => Z w ∧ Fm o v w)) (fun _ _ h => h)
  unfold calmG
  rw [if_pos hw]
  intro w hC
  have h2 := h1 w hC
  unfold wpList at h2
  rw [if_pos (by rfl)] at h2
  rcases h2 with h2 | h2
  · unfold Oper.wp at h2
    have he : execOp a.eval { o with guard := none } = execOp a.eval o := rfl
    rw [he] at h2
    cases hr : (execOp a.eval o).run P w with
    | ok n w' =>
      rw [hr] at h2
      rcases plain_next hp hr with ⟨v, rfl⟩ | rfl
      · exact h2.2 v rfl
      · exact h2.2 _ rfl
    | halt x w' =>
      rw [hr] at h2
      cases x <;> simp [Oper.upon, calmQF] at h2
  · exfalso
    have := h2.2
    simp [LetsOut, calmQF] at this
/-- A plain operation, where no facts are gathered. -/
theorem calm_plain (hp : plainOp o.op = true) (hw : Region.wanted o (yielded ops a.tmps) = true)
    (h : ∀ (K : Act → Prop), (∀ a', (∀ Z', wpCalm P ops T C noFact Q rest a' Z') → K a') → ∀ w, C w → wpList P #[] (calmQ C K) [{ o with guard := none }] a w) : ∀ Z, wpCalm P ops T C noFact Q (o :: rest) a Z := by
  intro Z
  show calmG P ops T C noFact o a (fun v => wpCalm P ops T C noFact Q rest (a.put o.dst v) (fun w => Z w ∧ noFact o v w))
  have h1 := h (fun a' => ∀ Z', wpCalm P ops T C noFact Q rest a' Z') (fun _ h => h)
  unfold calmG
  rw [if_pos hw]
  intro w hC
  have h2 := h1 w hC
  unfold wpList at h2
  rw [if_pos (by rfl)] at h2
  rcases h2 with h2 | h2
  · unfold Oper.wp at h2
    have he : execOp a.eval { o with guard := none } = execOp a.eval o := rfl
    rw [he] at h2
    cases hr : (execOp a.eval o).run P w with
    | ok n w' =>
      rw [hr] at h2
      rcases plain_next hp hr with ⟨v, rfl⟩ | rfl
      · exact ⟨⟨h2.2.1, trivial, fun _ _ _ => trivial⟩, h2.2.2 _⟩
      · exact ⟨⟨h2.2.1, trivial, fun _ _ _ => trivial⟩, h2.2.2 _⟩
    | halt x w' =>
      rw [hr] at h2
      cases x <;> simp [Oper.upon, calmQ] at h2
  · exfalso
    have := h2.2
    simp [LetsOut, calmQ] at this
theorem calm_skip (hw : Region.wanted o (yielded ops a.tmps) = false) (h : ∀ Z, wpCalm P ops T C noFact Q rest (a.put o.dst undef) Z) : ∀ Z, wpCalm P ops T C noFact Q (o :: rest) a Z := by
  intro Z
  show calmG P ops T C noFact o a _
  unfold calmG
  rw [if_neg (by rw [hw]; exact Bool.false_ne_true)]
  exact ⟨fun _ => trivial, h _⟩
theorem calm_callF {f : FuncId} {args : Array Value} (hw : Region.wanted o (yielded ops a.tmps) = true) (hrun : ∀ w, (execOp a.eval o).run P w = .ok (.enter f args) w)
    (hc : ∀ w, C w → Calls P f args w (fun e w' => ∃ v, e = .returned v ∧ T f args v ∧ keptS C Fm o w v w')) (hn : ∀ v, T f args v → wpCalm P ops T C Fm Q rest (a.put o.dst v) (fun w => Z w ∧ Fm o v w)) : wpCalm P ops T C Fm Q (o :: rest) a Z := by
  show calmG P ops T C Fm o a _
  unfold calmG
  rw [if_pos hw]
  intro w hC
  rw [hrun]
  exact ⟨hc w hC, hn⟩
theorem calm_call {f : FuncId} {args : Array Value} (hw : Region.wanted o (yielded ops a.tmps) = true) (hrun : ∀ w, (execOp a.eval o).run P w = .ok (.enter f args) w)
    (hc : ∀ w, C w → Calls P f args w (fun e w' => ∃ v, e = .returned v ∧ T f args v ∧ C w')) (hn : ∀ v, T f args v → ∀ Z, wpCalm P ops T C noFact Q rest (a.put o.dst v) Z) : ∀ Z, wpCalm P ops T C noFact Q (o :: rest) a Z := fun Z =>
  calm_callF hw hrun (fun w hC => (hc w hC).mono (fun e w' ⟨v, h1, h2, h3⟩ => ⟨v, h1, h2, h3, trivial, fun _ _ _ => trivial⟩)) (fun v hv => hn v hv _)

/-- Cells that hold what they held; of what was there nothing else has turned. -/
def InC (l : List (Addr × Value)) (w w' : World) : Prop := Held l w' ∧ Below w.heap.size w w'
theorem InC.below {l : List (Addr × Value)} {w w1 w2 : World} (h : InC l w w1) (hb : Below w1.heap.size w1 w2) : InC l w w2 := ⟨Held.below hb h.1, Below.step h.2 hb⟩
theorem InC.draws {l : List (Addr × Value)} {w w1 : World} (h : InC l w w1) (n : Nat) : InC l w (w1.drewN n) := h.below (below_drewN n)
def argF (args : Array Value) (i j : Nat) : Nat :=
  match args[i]? with
  | some (.agg xs) => (match xs[j]? with | some (.float _ b) => b | _ => 0)
  | some (.float _ b) => b
  | _ => 0
end

end Go.Proofs.Ytoiomgofbohmoaa
