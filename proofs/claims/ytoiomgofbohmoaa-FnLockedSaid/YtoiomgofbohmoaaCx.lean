/-
  Calm regions with facts: a region that draws its order, each of whose operations keeps a class of worlds, yields some value of a set, and may lay a fact (a new block; what was put into it) that all others keep: one walk in the text's order serves every order; a forced tail may follow.
-/
import Derived.Test.YtoiomgofbohmoaaCm
set_option linter.unusedVariables false
set_option linter.unusedSimpArgs false
namespace Go.Proofs.Ytoiomgofbohmoaa
open Go.RowKit

section
variable {P : Program} {ops : Array Oper} {md : Region.Mode} {C : World → Prop} {T : FuncId → Array Value → Value → Prop} {R : Nat → Act → World → Prop} {rs : Nat → List Tmp}

/-- The facts of what an operation waits for. -/
def DepsR (md : Region.Mode) (R : Nat → Act → World → Prop) (o : Oper) (a : Act) (w : World) : Prop := ∀ e ∈ o.after, Region.binds md e = true → R e.on a w
/-- What is kept when operation 'i' has yielded 'v'. -/
def keptR (C : World → Prop) (R : Nat → Act → World → Prop) (i : Nat) (a : Act) (dst : Option Tmp) (w : World) (v : Value) (w' : World) : Prop := C w' ∧ R i (a.put dst v) w' ∧ ∀ j a', j ≠ i → R j a' w → R j a' w'
def okRes (P : Program) (T : FuncId → Array Value → Value → Prop) (S : Value → World → Prop) : Result Next → Prop
  | .ok (.value v) w => S v w
  | .ok .skip w => S undef w
  | .ok (.enter f args) w => Calls P f args w (fun e w' => ∃ v, e = .returned v ∧ T f args v ∧ S v w')
  | _ => False
def yRes (T : FuncId → Array Value → Value → Prop) (v : Value) : Result Next → Prop
  | .ok (.value v') _ => v = v'
  | .ok .skip _ => v = undef
  | .ok (.enter f args) _ => T f args v
  | _ => False
def OkO (P : Program) (ops : Array Oper) (md : Region.Mode) (C : World → Prop) (T : FuncId → Array Value → Value → Prop) (R : Nat → Act → World → Prop) (i : Nat) (o : Oper) (a : Act) : Prop :=
  if Region.wanted o (yielded ops a.tmps) = true then ∀ w, C w → DepsR md R o a w → okRes P T (keptR C R i a o.dst w) ((execOp a.eval o).run P w)
  else ∀ w, C w → DepsR md R o a w → R i (a.put o.dst undef) w
def Yl (P : Program) (ops : Array Oper) (md : Region.Mode) (C : World → Prop) (T : FuncId → Array Value → Value → Prop) (R : Nat → Act → World → Prop) (o : Oper) (a : Act) (v : Value) : Prop :=
  if Region.wanted o (yielded ops a.tmps) = true then ∃ w, C w ∧ DepsR md R o a w ∧ yRes T v ((execOp a.eval o).run P w) else v = undef
def calmR (P : Program) (ops : Array Oper) (md : Region.Mode) (C : World → Prop) (T : FuncId → Array Value → Value → Prop) (R : Nat → Act → World → Prop) (i : Nat) (o : Oper) (a : Act) (G : Value → Prop) : Prop :=
  OkO P ops md C T R i o a ∧ ∀ v, Yl P ops md C T R o a v → G v
theorem calmR_mono {i : Nat} {o : Oper} {a : Act} {G G' : Value → Prop} (hg : ∀ v, G v → G' v) (h : calmR P ops md C T R i o a G) : calmR P ops md C T R i o a G' := ⟨h.1, fun v hv => hg v (h.2 v hv)⟩

/-- A world of the class where the facts of all that is listed hold. -/
def FactsR (R : Nat → Act → World → Prop) (listed : Array Bool) (a : Act) (w : World) : Prop := ∀ k, listed.getD k false = true → R k a w
def ExR (C : World → Prop) (R : Nat → Act → World → Prop) (listed : Array Bool) (a : Act) : Prop := ∃ w, C w ∧ FactsR R listed a w

theorem realize {i : Nat} {o : Oper} {a : Act} {w : World} (h : OkO P ops md C T R i o a) (hC : C w) (hd : DepsR md R o a w) : ∃ v w', Yl P ops md C T R o a v ∧ keptR C R i a o.dst w v w' := by
  unfold OkO at h
  unfold Yl
  split at h
  · rename_i hw
    have h1 := h w hC hd
    simp only [if_pos hw]
    cases hr : (execOp a.eval o).run P w with
    | ok n w' =>
      rw [hr] at h1
      cases n with
      | value v => exact ⟨v, w', ⟨w, hC, hd, by rw [hr]; rfl⟩, h1⟩
      | skip => exact ⟨undef, w', ⟨w, hC, hd, by rw [hr]; rfl⟩, h1⟩
      | enter f args =>
        obtain ⟨e, w2, fr, ⟨v, _, hT, hS⟩, _⟩ := h1 []
        refine ⟨v, w2, ⟨w, hC, hd, by rw [hr]; exact hT⟩, ?_⟩
        exact hS
      | _ => exact h1.elim
    | halt x w' => rw [hr] at h1; exact h1.elim
  · rename_i hw
    simp only [if_neg hw]
    exact ⟨undef, w, rfl, hC, h w hC hd, fun _ _ _ h => h⟩

theorem deps_put (hR : ∀ j a d v w, (∀ t, d = some t → t ∉ rs j) → (R j (Act.put a d v) w ↔ R j a w)) {o : Oper} {a : Act} {d : Option Tmp} {v : Value} {w : World}
    (hi : ∀ e ∈ o.after, Region.binds md e = true → ∀ t, d = some t → t ∉ rs e.on) : DepsR md R o (a.put d v) w ↔ DepsR md R o a w :=
  ⟨fun h e he hb => (hR _ _ _ _ _ (hi e he hb)).1 (h e he hb), fun h e he hb => (hR _ _ _ _ _ (hi e he hb)).2 (h e he hb)⟩

theorem ok_put (hR : ∀ j a d v w, (∀ t, d = some t → t ∉ rs j) → (R j (Act.put a d v) w ↔ R j a w)) {i : Nat} {o : Oper} (hs : ∀ cs b, o.op ≠ .select cs b) {a : Act} {d : Option Tmp} {v : Value} (hl : ∀ t, d = some t → t ∉ o.looksAt ops)
    (hd : ∀ t, d = some t → o.dst ≠ some t) (hi : ∀ e ∈ o.after, Region.binds md e = true → ∀ t, d = some t → t ∉ rs e.on) (hj : ∀ t, d = some t → t ∉ rs i) :
    OkO P ops md C T R i o (a.put d v) ↔ OkO P ops md C T R i o a := by
  unfold OkO
  rw [wanted_put o a d v hl, execOp_put o hs a d v hl]
  have key : ∀ u w, (R i ((a.put d v).put o.dst u) w ↔ R i (a.put o.dst u) w) := fun u w => by
    rw [Act.put_comm a v u hd]
    exact hR _ _ _ _ _ hj
  have kk : ∀ w, keptR C R i (a.put d v) o.dst w = keptR C R i a o.dst w := fun w => by
    funext u w'
    unfold keptR
    exact propext (and_congr_right fun _ => and_congr_left fun _ => key u w')
  split
  · constructor
    · intro h w hC hD
      have := h w hC ((deps_put hR hi).2 hD)
      rw [kk] at this; exact this
    · intro h w hC hD
      rw [kk]
      exact h w hC ((deps_put hR hi).1 hD)
  · constructor
    · intro h w hC hD
      exact (key _ _).1 (h w hC ((deps_put hR hi).2 hD))
    · intro h w hC hD
      exact (key _ _).2 (h w hC ((deps_put hR hi).1 hD))

theorem yl_put (hR : ∀ j a d v w, (∀ t, d = some t → t ∉ rs j) → (R j (Act.put a d v) w ↔ R j a w)) {o : Oper} (hs : ∀ cs b, o.op ≠ .select cs b) {a : Act} {d : Option Tmp} {v u : Value} (hl : ∀ t, d = some t → t ∉ o.looksAt ops)
    (hi : ∀ e ∈ o.after, Region.binds md e = true → ∀ t, d = some t → t ∉ rs e.on) : Yl P ops md C T R o (a.put d v) u ↔ Yl P ops md C T R o a u := by
  unfold Yl
  rw [wanted_put o a d v hl, execOp_put o hs a d v hl]
  split
  · exact ⟨fun ⟨w, hC, hD, h⟩ => ⟨w, hC, (deps_put hR hi).1 hD, h⟩, fun ⟨w, hC, hD, h⟩ => ⟨w, hC, (deps_put hR hi).2 hD, h⟩⟩
  · exact Iff.rfl

/-- Operation number 'i' comes up. -/
def cOpR (P : Program) (ops : Array Oper) (md : Region.Mode) (C : World → Prop) (T : FuncId → Array Value → Value → Prop) (R : Nat → Act → World → Prop) (i : Nat) (K : Act → Prop) (a : Act) : Prop :=
  match ops[i]? with
  | none => K a
  | some o => calmR P ops md C T R i o a (fun v => K (a.put o.dst v))
theorem cOpR_some {i : Nat} {o : Oper} (hi : ops[i]? = some o) {K : Act → Prop} {a : Act} : cOpR P ops md C T R i K a = calmR P ops md C T R i o a (fun v => K (a.put o.dst v)) := by
  unfold cOpR; rw [hi]

/-- Whatever order is picked, among the first 'n'. -/
def wpAnyR (P : Program) (md : Region.Mode) (ops : Array Oper) (C : World → Prop) (T : FuncId → Array Value → Value → Prop) (R : Nat → Act → World → Prop) (n : Nat) (L : Array Bool → Act → Prop) : Nat → Array Bool → Act → Prop
  | 0, listed, a => ExR C R listed a → L listed a
  | f + 1, listed, a => ExR C R listed a →
    Region.ready md ops listed ≠ [] ∧ ∀ i ∈ Region.ready md ops listed, i < n ∧ cOpR P ops md C T R i (wpAnyR P md ops C T R n L f (listed.setIfInBounds i true)) a
theorem wpAnyR_of_ex {n : Nat} {L : Array Bool → Act → Prop} {f : Nat} {listed : Array Bool} {a : Act} (h : ExR C R listed a → wpAnyR P md ops C T R n L f listed a) : wpAnyR P md ops C T R n L f listed a := by
  cases f with
  | zero => exact fun he => h he he
  | succ f => exact fun he => h he he

/-- The slots of a fact are written by nobody who need not come before it. -/
def SepR (md : Region.Mode) (ops : Array Oper) (rs : Nat → List Tmp) : Prop :=
  ∀ i j oi oj, ops[i]? = some oi → ops[j]? = some oj → i ≠ j → (∀ e ∈ oj.after, Region.binds md e = true → e.on ≠ i) → ∀ t, oi.dst = some t → t ∉ rs j

theorem facts_grow (hR : ∀ j a d v w, (∀ t, d = some t → t ∉ rs j) → (R j (Act.put a d v) w ↔ R j a w)) (hsep : SepR md ops rs) {n i : Nat} {oi : Oper} (hi : ops[i]? = some oi) {listed : Array Bool} {a : Act} {w w' : World} {v : Value} (inv : HeadInv md ops n listed)
    (hun : listed.getD i true = false) (hf : FactsR R listed a w) (hk : keptR C R i a oi.dst w v w') : FactsR R (listed.setIfInBounds i true) (a.put oi.dst v) w' := by
  intro k hk'
  by_cases hik : i = k
  · subst hik; exact hk.2.1
  · rw [getD_set_ne false hik] at hk'
    have hks : k < listed.size := by
      rcases Nat.lt_or_ge k listed.size with h | h
      · exact h
      · simp [Array.getElem?_eq_none h] at hk'
    obtain ⟨ok, hok⟩ : ∃ ok, ops[k]? = some ok := ⟨_, Array.getElem?_eq_getElem (by rw [← inv.size]; exact hks)⟩
    refine (hR k a oi.dst v w' ?_).2 (hk.2.2 k a (Ne.symm hik) (hf k hk'))
    exact hsep i k oi ok hi hok hik (fun e he hb heq => by
      have h1 := inv.closed k ok hok hk' e he hb
      rw [heq, getD_both hun] at h1
      cases h1)

/-- An operation that may come up may be taken first. -/
theorem wpAnyR_first (hR : ∀ j a d v w, (∀ t, d = some t → t ∉ rs j) → (R j (Act.put a d v) w ↔ R j a w)) (hsep : SepR md ops rs) {n i : Nat} {oi : Oper} {L : Array Bool → Act → Prop} (hi : ops[i]? = some oi) (hsel : ∀ (j : Nat) (o : Oper) cs b, ops[j]? = some o → o.op ≠ .select cs b) (hin : i < n)
    (hdone : ∀ listed a, L listed a → ∀ j ∈ Region.ready md ops listed, n ≤ j)
    (hlow : ∀ listed, HeadInv md ops n listed → listed.getD i true = false → ∀ j ∈ Region.ready md ops listed, j < n) :
    ∀ (f : Nat) (listed : Array Bool) (a : Act), HeadInv md ops n listed →
      (∀ j oj, ops[j]? = some oj → j ≠ i → listed.getD j true = false → (∀ e ∈ oj.after, Region.binds md e = true → e.on ≠ i) → oi.apart ops oj = true) →
      i ∈ Region.ready md ops listed →
      calmR P ops md C T R i oi a (fun v => wpAnyR P md ops C T R n L f (listed.setIfInBounds i true) (a.put oi.dst v)) → wpAnyR P md ops C T R n L (f + 1) listed a := by
  -- a world for 'oi': what it waits for is listed
  have hdeps : ∀ (k : Nat) (ok : Oper) (listed : Array Bool) (a : Act) (w : World), ops[k]? = some ok → k ∈ Region.ready md ops listed → FactsR R listed a w → DepsR md R ok a w := fun k ok listed a w hok hr hf e he hb => by
    obtain ⟨_, o', ho', hall⟩ := mem_ready.1 hr
    have : o' = ok := Option.some.inj (ho'.symm.trans hok)
    subst this
    exact hf _ (hall e he hb)
  intro f
  induction f with
  | zero =>
    intro listed a inv _ hr H
    have hun := (mem_ready.1 hr).1
    rintro ⟨w, hC, hF⟩
    refine ⟨fun h => (by rw [h] at hr; cases hr), fun j hj => ⟨hlow _ inv hun j hj, ?_⟩⟩
    by_cases hji : j = i
    · subst hji; rw [cOpR_some hi]; exact H
    · obtain ⟨v, w', hy, hk⟩ := realize H.1 hC (hdeps i oi listed a w hi hr hF)
      have := hdone _ _ (H.2 v hy ⟨w', hk.1, facts_grow hR hsep hi inv hun hF hk⟩) j (ready_mono hj hji)
      have := hlow _ inv hun j hj
      omega
  | succ f ih =>
    intro listed a inv hfree hr H
    have hun := (mem_ready.1 hr).1
    rintro ⟨w, hC, hF⟩
    refine ⟨fun h => (by rw [h] at hr; cases hr), fun j hj => ⟨hlow _ inv hun j hj, ?_⟩⟩
    by_cases hji : j = i
    · subst hji; rw [cOpR_some hi]; exact H
    · have hjn := hlow _ inv hun j hj
      obtain ⟨hjun, oj, hoj, hall⟩ := mem_ready.1 hj
      obtain ⟨_, oi', hoi', halli⟩ := mem_ready.1 hr
      have : oi' = oi := Option.some.inj (hoi'.symm.trans hi)
      subst this
      have hnot : ∀ e ∈ oj.after, Region.binds md e = true → e.on ≠ i := fun e he hb heq => by
        have h1 := hall e he hb
        rw [heq, getD_both hun] at h1
        cases h1
      have hnot' : ∀ e ∈ oi'.after, Region.binds md e = true → e.on ≠ j := fun e he hb heq => by
        have h1 := halli e he hb
        rw [heq, getD_both hjun] at h1
        cases h1
      obtain ⟨h1, h2, h3⟩ := Oper.apart_spec (hfree j oj hoj hji hjun hnot)
      have hfree' : ∀ k ok, ops[k]? = some ok → k ≠ i → (listed.setIfInBounds j true).getD k true = false →
          (∀ e ∈ ok.after, Region.binds md e = true → e.on ≠ i) → oi'.apart ops ok = true := fun k ok hk hki hun' hno => by
        refine hfree k ok hk hki ?_ hno
        by_cases hjk : j = k
        · subst hjk; exact hjun
        · rw [getD_set_ne true hjk] at hun'; exact hun'
      -- slots of facts that are listed
      have slot : ∀ x ox, ops[x]? = some ox → listed.getD x true = false → ∀ k, listed.getD k false = true → ∀ t, ox.dst = some t → t ∉ rs k := fun x ox hox hxun k hk t ht => by
        have hks : k < listed.size := by
          rcases Nat.lt_or_ge k listed.size with h | h
          · exact h
          · simp [Array.getElem?_eq_none h] at hk
        obtain ⟨ok, hok⟩ : ∃ ok, ops[k]? = some ok := ⟨_, Array.getElem?_eq_getElem (by rw [← inv.size]; exact hks)⟩
        have hxk : x ≠ k := fun h => by subst h; rw [getD_both hxun] at hk; cases hk
        exact hsep x k ox ok hox hok hxk (fun e he hb heq => by
          have h1 := inv.closed k ok hok hk e he hb
          rw [heq, getD_both hxun] at h1
          cases h1) t ht
      have hij : ∀ t, oi'.dst = some t → t ∉ rs j := hsep i j oi' oj hi hoj (Ne.symm hji) hnot
      have hji' : ∀ t, oj.dst = some t → t ∉ rs i := hsep j i oj oi' hoj hi hji hnot'
      have hdj : ∀ e ∈ oj.after, Region.binds md e = true → ∀ t, oi'.dst = some t → t ∉ rs e.on := fun e he hb t ht => slot i oi' hi hun e.on (hall e he hb) t ht
      have hdi : ∀ e ∈ oi'.after, Region.binds md e = true → ∀ t, oj.dst = some t → t ∉ rs e.on := fun e he hb t ht => slot j oj hoj hjun e.on (halli e he hb) t ht
      have hselj := fun cs b => hsel j oj cs b hoj
      have hseli := fun cs b => hsel i oi' cs b hi
      have h2' : ∀ t, oj.dst = some t → oi'.dst ≠ some t := fun t ht ht' => h2 t ht' ht
      rw [cOpR_some hoj]
      refine ⟨?_, fun u hu => ?_⟩
      · -- 'oj' goes well: 'oi' comes to some value here
        obtain ⟨v, w', hy, hk⟩ := realize H.1 hC (hdeps i oi' listed a w hi hr hF)
        have := (((H.2 v hy) ⟨w', hk.1, facts_grow hR hsep hi inv hun hF hk⟩).2 j (ready_mono hj hji)).2
        rw [cOpR_some hoj] at this
        exact (ok_put hR hselj h1 (fun t ht => h2 t ht) hdj hij).1 this.1
      · refine ih (listed.setIfInBounds j true) (a.put oj.dst u) (inv.set hj hjn) hfree' (ready_mono hr (Ne.symm hji)) ⟨(ok_put hR hseli h3 h2' hdi hji').2 H.1, fun v hv => ?_⟩
        have hv' := (yl_put hR hseli h3 hdi).1 hv
        refine wpAnyR_of_ex fun hex => ?_
        obtain ⟨w2, hC2, hF2⟩ := hex
        have hF3 : FactsR R (listed.setIfInBounds i true) (a.put oi'.dst v) w2 := by
          intro k hk
          have hk2 : ((listed.setIfInBounds j true).setIfInBounds i true).getD k false = true := by
            rw [Array.setIfInBounds_comm _ _ hji]; exact getD_set_true hk
          have hR2 := hF2 k hk2
          rw [← Act.put_comm a v u h2] at hR2
          refine (hR k _ oj.dst u w2 ?_).1 hR2
          by_cases hik : i = k
          · subst hik; exact hji'
          · rw [getD_set_ne false hik] at hk
            exact slot j oj hoj hjun k hk
        have := (((H.2 v hv') ⟨w2, hC2, hF3⟩).2 j (ready_mono hj hji)).2
        rw [cOpR_some hoj] at this
        have h4 := this.2 u ((yl_put hR hselj h1 hdj).2 hu)
        rw [Array.setIfInBounds_comm _ _ hji, ← Act.put_comm a v u h2]
        exact h4

theorem wp_of_okRes {i : Nat} {o : Oper} {a : Act} {w : World} {K : Act → World → Prop} {Q : Exit → Act → World → Prop} {S : Value → World → Prop} (h : okRes P T S ((execOp a.eval o).run P w)) (hk : ∀ v w', S v w' → yRes T v ((execOp a.eval o).run P w) → K (a.put o.dst v) w') : o.wp P a w K Q := by
  unfold Oper.wp
  generalize (execOp a.eval o).run P w = r at *
  match r, h with
  | .ok (.value v) w', h => exact hk _ _ h rfl
  | .ok .skip w', h => exact hk _ _ h rfl
  | .ok (.enter f args) w', h =>
    simp only [Oper.upon]
    refine Calls.mono h ?_
    rintro e w'' ⟨v, rfl, hT, hS⟩
    exact hk _ _ hS hT

theorem wpAny_of_calmR (hR : ∀ j a d v w, (∀ t, d = some t → t ∉ rs j) → (R j (Act.put a d v) w ↔ R j a w)) (hsep : SepR md ops rs) {n g : Nat} {L : Array Bool → Act → Prop} {Q' : Exit → Act → World → Prop} (hL : ∀ listed a w, C w → FactsR R listed a w → L listed a → wpAny P md ops Q' g listed a w) :
    ∀ (f : Nat) (listed : Array Bool) (a : Act) (w : World), HeadInv md ops n listed → C w → FactsR R listed a w → wpAnyR P md ops C T R n L f listed a → wpAny P md ops Q' (f + g) listed a w
  | 0, listed, a, w, inv, hC, hF, h => by rw [Nat.zero_add]; exact hL _ _ _ hC hF (h ⟨w, hC, hF⟩)
  | f + 1, listed, a, w, inv, hC, hF, h => by
    rw [show f + 1 + g = (f + g) + 1 by omega]
    have h' := h ⟨w, hC, hF⟩
    refine ⟨fun h0 => absurd h0 h'.1, fun i hi => ?_⟩
    obtain ⟨hin, hh⟩ := h'.2 i hi
    obtain ⟨hun, oi, hoi, hall⟩ := mem_ready.1 hi
    have hD : DepsR md R oi a w := fun e he hb => hF _ (hall e he hb)
    rw [cOpR_some hoi] at hh
    unfold wpOp
    rw [hoi]
    obtain ⟨hok, hy⟩ := hh
    unfold OkO at hok
    unfold Yl at hy
    dsimp only
    split
    · rename_i hw
      rw [if_pos hw] at hok
      simp only [hw, if_true] at hy
      exact .inl (wp_of_okRes (i := i) (hok w hC hD) (fun v w' hS hyr => wpAny_of_calmR hR hsep hL f _ _ w' (inv.set hi hin) hS.1 (facts_grow hR hsep hoi inv hun hF hS) (hy v ⟨w, hC, hD, hyr⟩)))
    · rename_i hw
      rw [if_neg hw] at hok
      simp only [hw] at hy
      exact wpAny_of_calmR hR hsep hL f _ _ w (inv.set hi hin) hC (facts_grow hR hsep hoi inv hun hF ⟨hC, hok w hC hD, fun _ _ _ h => h⟩) (hy undef rfl)

/-- The walk in the text's order. -/
def wpCalmR (P : Program) (ops : Array Oper) (md : Region.Mode) (C : World → Prop) (T : FuncId → Array Value → Value → Prop) (R : Nat → Act → World → Prop) (Q : Act → Prop) : Nat → List Oper → Act → Prop
  | _, [], a => Q a
  | k, o :: rest, a => calmR P ops md C T R k o a (fun v => wpCalmR P ops md C T R Q (k + 1) rest (a.put o.dst v))

theorem wpAnyR_lex (hR : ∀ j a d v w, (∀ t, d = some t → t ∉ rs j) → (R j (Act.put a d v) w ↔ R j a w)) (hsep : SepR md ops rs) {n : Nat} {Lq : Act → Prop} {fin : Array Bool → Bool} {chk : Nat → Nat → Array Bool → Bool} (hsel : Region.noSelect ops = true)
    (hlow : ∀ k, k < n → ∀ listed, HeadInv md ops n listed → listed.getD k true = false → ∀ j ∈ Region.ready md ops listed, j < n)
    (hfin : ∀ listed, fin listed = true → ∀ j ∈ Region.ready md ops listed, n ≤ j)
    (hc0 : ∀ k listed, chk 0 k listed = true → fin listed = true)
    (hc1 : ∀ f k listed, chk (f + 1) k listed = true → ((Region.ready md ops listed).contains k = true ∧ Region.free md ops listed k = true) ∧ chk f (k + 1) (listed.setIfInBounds k true) = true) :
    ∀ (l : List Oper) (k : Nat) (listed : Array Bool) (a : Act), (∀ j, j < l.length → l[j]? = ops[k + j]?) → k + l.length = n → HeadInv md ops n listed → (∀ j, j < k → listed.getD j false = true) →
    chk l.length k listed = true → wpCalmR P ops md C T R Lq k l a →
    wpAnyR P md ops C T R n (fun listed' a' => fin listed' = true ∧ (∀ j, j < n → listed'.getD j false = true) ∧ Lq a') l.length listed a
  | [], k, listed, a, _, hk, _, hall, hB, h => by
    have : k = n := by simpa using hk
    subst this
    exact fun _ => ⟨hc0 _ _ hB, hall, h⟩
  | o :: l, k, listed, a, hl, hk, inv, hall, hB, h => by
    have h0 : ops[k]? = some o := by simpa using (hl 0 (by simp)).symm
    simp only [List.length_cons] at hB
    obtain ⟨⟨hr, hf⟩, hB'⟩ := hc1 _ _ _ hB
    have hkn : k < n := by simp only [List.length_cons] at hk; omega
    have hr' : k ∈ Region.ready md ops listed := by simpa using hr
    refine wpAnyR_first hR hsep h0 (Region.noSelect_spec hsel) hkn (fun listed' a' hL => hfin _ hL.1) (hlow k hkn) l.length listed a inv (Region.free_spec h0 hf) hr' ?_
    refine calmR_mono (fun v hv => wpAnyR_lex hR hsep hsel hlow hfin hc0 hc1 l (k + 1) _ _ (fun j hj => by have := hl (j + 1) (by simp; omega); simpa [Nat.add_assoc, Nat.add_comm 1 j] using this) (by simp only [List.length_cons] at hk; omega) (inv.set hr' hkn) (fun j hj => ?_) hB' hv) h
    by_cases hjk : k = j
    · subst hjk
      have : k < listed.size := by rw [inv.size]; exact (Array.getElem?_eq_some_iff.1 h0).1
      simp [this]
    · rw [getD_set_ne false hjk]; exact hall j (by omega)

theorem headInv0 {n : Nat} (hn : n ≤ ops.size) : HeadInv md ops n (Array.replicate ops.size false) :=
  ⟨by simp, fun j oj _ hl => (by rw [getD_replicate_false] at hl; cases hl), fun t _ ht => getD_in (by simpa using ht) (getD_replicate_false _ _)⟩

/-- A region that asks the tape: the first 'n' operations in the text's order, each calm; then the forced tail, where all facts are at hand. -/
theorem wp_region_calmR_tail {id : Nat} {Q : Exit → Act → World → Prop} {a : Act} {w : World} {l : List Oper} (n : Nat) (C : World → Prop) (T : FuncId → Array Value → Value → Prop) (R : Nat → Act → World → Prop) (rs : Nat → List Tmp)
    (hR : ∀ j a d v w, (∀ t, d = some t → t ∉ rs j) → (R j (Act.put a d v) w ↔ R j a w)) (hsep : SepR .any l.toArray rs) (hm : P.follows .mixedOrders = true) (hB : Region.lexTailB .any l.toArray n = true)
    (hw : C w.drew) (h : wpCalmR P l.toArray .any C T R (fun a' => ∀ w', C w' → (∀ j, j < n → R j a' w') → wpList P l.toArray Q (l.drop n) a' w') 0 (l.take n) a) : (Code.region id l.toArray true).wp P Q a w := by
  simp only [Region.lexTailB, Bool.and_eq_true, decide_eq_true_eq] at hB
  obtain ⟨⟨⟨⟨hsel, hn⟩, hs⟩, hc⟩, hlex⟩ := hB
  have hn' : n < l.length := by simpa using hn
  have htl : (l.take n).length = n := by simp; omega
  have hdl : (l.drop n).length = l.toArray.size - n := by simp
  have inv0 : HeadInv .any l.toArray n (Array.replicate l.toArray.size false) := headInv0 (by omega)
  have H := wpAnyR_lex (md := .any) hR hsep (fin := fun listed => Region.seqB .any l.toArray (l.toArray.size - n) n listed) (chk := fun f k listed => decide (k + f = n) && Region.lexHead .any l.toArray (l.toArray.size - n) f k listed) hsel
    (fun k hkn listed' hi hu j hj => by
      rcases Nat.lt_or_ge j n with h | h
      · exact h
      · exact absurd hj (tail_waits hs hc hn hi _ k rfl hkn hu j h))
    (fun listed' hL => seqB_ready hL)
    (fun k listed' h => by
      simp only [Bool.and_eq_true, decide_eq_true_eq, Nat.add_zero] at h
      obtain ⟨rfl, h⟩ := h
      exact h)
    (fun f k listed' h => by
      simp only [Bool.and_eq_true, decide_eq_true_eq, Region.lexHead] at h ⊢
      exact ⟨h.2.1, by omega, h.2.2⟩)
    (l.take n) 0 _ a (fun j hj => by
      have hj' : j < n := by rw [htl] at hj; exact hj
      simp [hj']) (by simpa using htl) inv0 (fun j hj => absurd hj (by omega)) (by rw [htl]; simpa using hlex) h
  refine wp_region_any hm ?_
  have := wpAny_of_calmR (md := .any) hR hsep (Q' := Q) (g := l.toArray.size - n) (fun listed a' w' hC' hF' hL => by
    have := wpAny_of_seq (md := .any) (Q' := Q) (l.drop n) n listed a' w' (fun j => by simp [List.getElem?_drop]) (by rw [hdl]; exact hL.1) (hL.2.2 w' hC' (fun j hj => hF' j (hL.2.1 j hj)))
    rwa [hdl] at this) _ _ _ _ inv0 hw (fun k hk => by rw [getD_replicate_false] at hk; cases hk) H
  rw [htl, show n + (l.toArray.size - n) = l.toArray.size by omega] at this
  exact this

/-- The same with no tail. -/
theorem wp_region_calmR {id : Nat} {Q : Exit → Act → World → Prop} {a : Act} {w : World} {l : List Oper} (C : World → Prop) (T : FuncId → Array Value → Value → Prop) (R : Nat → Act → World → Prop) (rs : Nat → List Tmp)
    (hR : ∀ j a d v w, (∀ t, d = some t → t ∉ rs j) → (R j (Act.put a d v) w ↔ R j a w)) (hsep : SepR .any l.toArray rs) (hm : P.follows .mixedOrders = true) (hB : Region.lexB .any l.toArray = true)
    (hw : C w.drew) (h : wpCalmR P l.toArray .any C T R (fun a' => ∀ w', C w' → (∀ j, j < l.length → R j a' w') → Q .normal a' w') 0 l a) : (Code.region id l.toArray true).wp P Q a w := by
  simp only [Region.lexB, Bool.and_eq_true] at hB
  obtain ⟨hsel, hlex⟩ := hB
  have inv0 : HeadInv .any l.toArray l.toArray.size (Array.replicate l.toArray.size false) := headInv0 (Nat.le_refl _)
  have H := wpAnyR_lex (md := .any) hR hsep (n := l.toArray.size) (fin := fun listed => (Region.ready .any l.toArray listed).isEmpty) (chk := fun f k listed => Region.lexFrom .any l.toArray f k listed) hsel
    (fun k hkn listed' hi hu j hj => by
      obtain ⟨_, oj, hoj, _⟩ := mem_ready.1 hj
      exact (Array.getElem?_eq_some_iff.1 hoj).1)
    (fun listed' hL j hj => by simp only [List.isEmpty_iff] at hL; rw [hL] at hj; cases hj)
    (fun k listed' h => by simpa [Region.lexFrom] using h)
    (fun f k listed' h => by simpa only [Bool.and_eq_true, Region.lexFrom] using h)
    l 0 _ a (fun j hj => by simp) (by simp) inv0 (fun j hj => absurd hj (by omega)) (by simpa using hlex) h
  refine wp_region_any hm ?_
  have := wpAny_of_calmR (md := .any) hR hsep (Q' := Q) (g := 0) (fun listed a' w' hC' hF' hL => ⟨by simpa using hL.1, hL.2.2 w' hC' (fun j hj => hF' j (hL.2.1 j (by simpa using hj)))⟩) _ _ _ _ inv0 hw (fun k hk => by rw [getD_replicate_false] at hk; cases hk) H
  simpa using this
end

end Go.Proofs.Ytoiomgofbohmoaa
