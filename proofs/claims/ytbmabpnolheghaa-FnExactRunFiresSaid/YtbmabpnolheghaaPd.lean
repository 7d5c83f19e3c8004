/-
  The walk of the reference's FireNext.
-/
import Derived.Test.YtbmabpnolheghaaPc
import Derived.Test.YtbmabpnolheghaaCd
set_option linter.unusedVariables false
set_option linter.unusedSimpArgs false
namespace Go.Proofs.Ytbmabpnolheghaa
open Go.RowKit

theorem l05Least_any (y : Nat) (w : World) : Calls Try.prog 100 #[.float .f32 y] w (RB (levelB y) w) := by
  cases h1 : finB .f32 y <;> cases h2 : geF .f32 y 0
  all_goals
    go_enter Try.func100, Try.ntmps100
    go_wp2_with (first | (go_at_call 129; refine (l01Finite_any _ _).mono ?_; rintro e w' ⟨n9, rfl, rfl⟩))
    go_ret
    exact ⟨_, ret_bool (by unfold levelB; simp [*]), rfl⟩

theorem okClock_fin {n m : Nat} {l lk : List Nat} (h : clocksB n l m lk = true) {k : Nat} (hk : k < n) : finB .f32 (l.getD (k * 2) 0) = true := by
  have h1 := upto_at (clocks_parts h).2.2.1 hk
  unfold okClock clockB at h1
  simp only [Bool.and_eq_true] at h1
  exact keep_fin h1.1
def cT (b : Bool) (t : Nat) : Nat := if b then t else 0
def cZ (b : Bool) (l : List Int) : List Int := if b then l else []
/-- Clocks, numbers, a time and a word given back. -/
def GiveF (n : Nat) (l : List Nat) (m : Nat) (lk : List Nat) (k : Nat) (os : List Int) (t : Nat) (b : Bool) (w : World) (e : Ending) (w' : World) : Prop :=
  ∃ v0 v1 v2 r, e = .returned (.tuple #[.agg #[v0, v1], v2, .float .f32 r, .bool b]) ∧ w'.ownsRow w.heap.size 113 2 v0 n (fl l) ∧ w'.ownsRow w.heap.size 23 1 v1 m (fl lk) ∧ w'.ownsRow w.heap.size 2 1 v2 k (il os) ∧ (∀ i, v0.ownBlock = some i → v1.ownBlock ≠ some i) ∧ (∀ i, v0.ownBlock = some i → v2.ownBlock ≠ some i) ∧ (∀ i, v1.ownBlock = some i → v2.ownBlock ≠ some i) ∧ cn .f32 r = t ∧ Below w.heap.size w w'
theorem ci_ne : (113 : TypeId) ≠ 2 := by decide
theorem fi_ne : (23 : TypeId) ≠ 2 := by decide
def fireB (n : Nat) (l : List Nat) (m : Nat) (lk : List Nat) (J : Nat) : Bool := (clocksB n l m lk && levelB J) && clocksB n (fireL l n J) m lk
def fireO (l : List Nat) (n J : Nat) : List Int := setF ((firedF l n J).2.map Int.ofNat)
theorem level_fin {J : Nat} (h : levelB J = true) : finB .f32 J = true := by
  unfold levelB at h
  simp only [Bool.and_eq_true] at h
  exact h.1
theorem cn_null : cn .f32 0 = 0 := by decide +kernel

section
variable {P : Program} {ops : Array Oper} {md : Region.Mode} {T : FuncId → Array Value → Value → Prop} {Q : Act → Prop} {o : Oper} {rest : List Oper} {a : Act} {k : Nat} {D : World → Prop} {fs : List VFact}
/-- A store of a region: it is to keep the class and the facts. -/
theorem calmD_store (hw : Region.wanted o (yielded ops a.tmps) = true)
    (hrun : ∀ w, D w → DepsR md (RVF fs) o a w → ∃ w', (execOp a.eval o).run P w = .ok .skip w' ∧ D w' ∧ RVF fs k (a.put o.dst undef) w' ∧ ∀ j a', j ≠ k → RVF fs j a' w → RVF fs j a' w')
    (hn : wpCalmR P ops md D T (RVF fs) Q (k + 1) rest (a.put o.dst undef)) : wpCalmR P ops md D T (RVF fs) Q k (o :: rest) a := by
  refine ⟨?_, fun v hv => ?_⟩
  · unfold OkO
    rw [if_pos hw]
    intro w hC hDp
    obtain ⟨w', hr, h1, h2, h3⟩ := hrun w hC hDp
    rw [hr]
    exact ⟨h1, h2, h3⟩
  · unfold Yl at hv
    rw [if_pos hw] at hv
    obtain ⟨w, hC, hDp, hy⟩ := hv
    obtain ⟨w', hr, _⟩ := hrun w hC hDp
    rw [hr] at hy
    have : v = undef := hy
    rw [this]
    exact hn
end
theorem region_calmD {P : Program} {id : Nat} {Q : Exit → Act → World → Prop} {a : Act} {w : World} {l : List Oper} (D : World → Prop) (T : FuncId → Array Value → Value → Prop) (fs : List VFact) (hm : P.follows .mixedOrders = true) (hB : Region.lexB .any l.toArray = true) (hsep : sepVB .any l.toArray (fs.map fun q => (q.1, q.2.1)) = true)
    (hw : D w.drew) (h : wpCalmR P l.toArray .any D T (RVF fs) (fun a' => ∀ w', D w' → (∀ j, j < l.length → RVF fs j a' w') → Q .normal a' w') 0 l a) : (Code.region id l.toArray true).wp P Q a w :=
  wp_region_calmR D T (RVF fs) (rsV fs) (fun j a d v w => RVF_put fs j a d v w) (sepV_of hsep) hm hB hw h

set_option maxRecDepth 100000 in
set_option maxHeartbeats 8000000 in
theorem specFireNext_any (v v' : Value) (n m : Nat) (l lk : List Nat) (J : Nat) (w : World) (h : RowAt w v 2 n (fl l)) (h' : RowAt w v' 1 m (fl lk)) : Calls Try.prog 55 #[.agg #[v, v'], .float .f32 J] w (GiveF (cN (fireB n l m lk J) n) (cL (fireB n l m lk J) (fireL l n J)) (cN (fireB n l m lk J) m) (cL (fireB n l m lk J) lk) (cN (fireB n l m lk J) (fireO l n J).length) (cZ (fireB n l m lk J) (fireO l n J)) (cT (fireB n l m lk J) (timeQ l n)) (fireB n l m lk J) w) := by
  have H := Lib.hid h
  have H' := Lib.hid h'
  clear h h'
  cases hc : clocksB n l m lk
  · rw [show fireB n l m lk J = false by unfold fireB; rw [hc, Bool.false_and, Bool.false_and]]
    go_enter Try.func55, Try.ntmps55
    go_wp2_with (first | (go_at_call 74; refine (l05Is_any v v' n m l lk _ _ ?_ ?_ ?_).mono ?_; (focus (refine RowAt.below H.out ?_; (repeat (first | assumption | (with_reducible exact Below.refl _ _) | (with_reducible refine Below.drewN ?_ _) | (with_reducible refine Below.drew ?_) | (with_reducible refine Below.allocS ?_ _) | ((with_reducible refine Below.setCell ?_ ?_ _); rotate_left; focus (first | omega | (simp; done) | (simp; omega))) | (with_reducible refine Below.step ?_ (by assumption)))); done)); (focus (refine RowAt.below H'.out ?_; (repeat (first | assumption | (with_reducible exact Below.refl _ _) | (with_reducible refine Below.drewN ?_ _) | (with_reducible refine Below.drew ?_) | (with_reducible refine Below.allocS ?_ _) | ((with_reducible refine Below.setCell ?_ ?_ _); rotate_left; focus (first | omega | (simp; done) | (simp; omega))) | (with_reducible refine Below.step ?_ (by assumption)))); done)); (focus (simp [Held, go_sem]; done)); rintro e w' ⟨c9, rfl, rfl⟩; rw [hc]))
    refine bodyPost_ret (v := ?_) (by first | (simp [results, Try.results55, go_sem, *]; rfl) | (simp [results, Try.results55, go_sem, *]; done)) rfl ?_
    refine ⟨_, _, _, _, rfl, ownsRow_nil', ownsRow_nil', ownsRow_nil', (fun i hi => by cases hi), (fun i hi => by cases hi), (fun i hi => by cases hi), cn_null, ?_⟩
    (repeat (first | assumption | (with_reducible exact Below.refl _ _) | (with_reducible refine Below.drewN ?_ _) | (with_reducible refine Below.drew ?_) | (with_reducible refine Below.allocS ?_ _) | ((with_reducible refine Below.setCell ?_ ?_ _); rotate_left; focus (first | omega | (simp; done) | (simp; omega))) | (with_reducible refine Below.step ?_ (by assumption))))
  cases hj : levelB J
  · rw [show fireB n l m lk J = false by unfold fireB; rw [hc, hj, Bool.and_false, Bool.false_and]]
    go_enter Try.func55, Try.ntmps55
    go_wp2_with (first | (go_at_call 74; refine (l05Is_any v v' n m l lk _ _ ?_ ?_ ?_).mono ?_; (focus (refine RowAt.below H.out ?_; (repeat (first | assumption | (with_reducible exact Below.refl _ _) | (with_reducible refine Below.drewN ?_ _) | (with_reducible refine Below.drew ?_) | (with_reducible refine Below.allocS ?_ _) | ((with_reducible refine Below.setCell ?_ ?_ _); rotate_left; focus (first | omega | (simp; done) | (simp; omega))) | (with_reducible refine Below.step ?_ (by assumption)))); done)); (focus (refine RowAt.below H'.out ?_; (repeat (first | assumption | (with_reducible exact Below.refl _ _) | (with_reducible refine Below.drewN ?_ _) | (with_reducible refine Below.drew ?_) | (with_reducible refine Below.allocS ?_ _) | ((with_reducible refine Below.setCell ?_ ?_ _); rotate_left; focus (first | omega | (simp; done) | (simp; omega))) | (with_reducible refine Below.step ?_ (by assumption)))); done)); (focus (simp [Held, go_sem]; done)); rintro e w' ⟨c9, rfl, rfl⟩; rw [hc]) | (go_at_call 100; refine (l05Least_any _ _).mono ?_; rintro e w' ⟨n9, rfl, rfl⟩; rw [hj]))
    refine bodyPost_ret (v := ?_) (by first | (simp [results, Try.results55, go_sem, *]; rfl) | (simp [results, Try.results55, go_sem, *]; done)) rfl ?_
    refine ⟨_, _, _, _, rfl, ownsRow_nil', ownsRow_nil', ownsRow_nil', (fun i hi => by cases hi), (fun i hi => by cases hi), (fun i hi => by cases hi), cn_null, ?_⟩
    (repeat (first | assumption | (with_reducible exact Below.refl _ _) | (with_reducible refine Below.drewN ?_ _) | (with_reducible refine Below.drew ?_) | (with_reducible refine Below.allocS ?_ _) | ((with_reducible refine Below.setCell ?_ ?_ _); rotate_left; focus (first | omega | (simp; done) | (simp; omega))) | (with_reducible refine Below.step ?_ (by assumption))))
  obtain ⟨c1, c2, c3, c4, c5⟩ := clocks_parts hc
  have hf : ∀ i, i < n → finB .f32 (turnAt l i) = true := fun k hk => okClock_fin hc hk
  have hJ := level_fin hj
  rw [show fireB n l m lk J = clocksB n (fireL l n J) m lk by unfold fireB; rw [hc, hj]; rfl]
  have hmm : m ≤ 144 := by have := sq_small c2; omega
  have hm0 : 0 < m := by have := Nat.mul_pos c1 c1; omega
  have HF := Lib.hid hf
  have HJ := Lib.hid hJ
  have HTIME := Lib.hid (time_some hf)
  clear c3 c4 c5 hf hJ
  obtain ⟨h1, h2, ao, cap, rfl, h3⟩ := H.out
  obtain ⟨b, o, rfl, hbl, hcell⟩ := h3.resolve_left (by omega)
  rw [fl_length] at h1
  have hKl := (fired_fits h1 HF.out HJ.out).len
  have HTN : Hid (cn .f32 (timeQ l n) = timeQ l n) := cn_of_not (some_not_nan HTIME.out)
  clear h3 h1 hcell
  go_enter Try.func55, Try.ntmps55
  go_wp2_with (first | (go_at_call 74; refine (l05Is_any (.slice (some ⟨b, o, none⟩) n cap) v' n m l lk _ _ ?_ ?_ ?_).mono ?_; (focus (refine RowAt.below H.out ?_; (repeat (first | assumption | (with_reducible exact Below.refl _ _) | (with_reducible refine Below.drewN ?_ _) | (with_reducible refine Below.drew ?_) | (with_reducible refine Below.allocS ?_ _) | ((with_reducible refine Below.setCell ?_ ?_ _); rotate_left; focus (first | omega | (simp; done) | (simp; omega))) | (with_reducible refine Below.step ?_ (by assumption)))); done)); (focus (refine RowAt.below H'.out ?_; (repeat (first | assumption | (with_reducible exact Below.refl _ _) | (with_reducible refine Below.drewN ?_ _) | (with_reducible refine Below.drew ?_) | (with_reducible refine Below.allocS ?_ _) | ((with_reducible refine Below.setCell ?_ ?_ _); rotate_left; focus (first | omega | (simp; done) | (simp; omega))) | (with_reducible refine Below.step ?_ (by assumption)))); done)); (focus (simp [Held, go_sem]; done)); rintro e w' ⟨c9, rfl, rfl⟩; rw [hc]) | (go_at_call 100; refine (l05Least_any _ _).mono ?_; rintro e w' ⟨n9, rfl, rfl⟩; rw [hj]))
  refine (l05Own_any (.slice (some ⟨b, o, none⟩) n cap) v' n m l lk _ _ ?_ ?_ ?_ (by omega) hm0 (by omega) (by omega)).mono ?_
  · refine RowAt.below H.out ?_
    (repeat (first | assumption | (with_reducible exact Below.refl _ _) | (with_reducible refine Below.drewN ?_ _) | (with_reducible refine Below.drew ?_) | (with_reducible refine Below.allocS ?_ _) | ((with_reducible refine Below.setCell ?_ ?_ _); rotate_left; focus (first | omega | (simp; done) | (simp; omega))) | (with_reducible refine Below.step ?_ (by assumption))))
  · refine RowAt.below H'.out ?_
    (repeat (first | assumption | (with_reducible exact Below.refl _ _) | (with_reducible refine Below.drewN ?_ _) | (with_reducible refine Below.drew ?_) | (with_reducible refine Below.allocS ?_ _) | ((with_reducible refine Below.setCell ?_ ?_ _); rotate_left; focus (first | omega | (simp; done) | (simp; omega))) | (with_reducible refine Below.step ?_ (by assumption))))
  · simp [Held, go_sem]
  rintro e w2 ⟨u0, u1, rfl, ou0, ou1, hb2⟩
  have hk2 := Held.below hb2 (l := [(⟨w.heap.size + 1, 0, none⟩, .slice none 0 0), (⟨w.heap.size + 1, 1, none⟩, .slice none 0 0)]) (by simp [Held, go_sem])
  simp only [Held, and_true] at hk2
  have hz2 := hb2.size
  have hB2 : Below w.heap.size w w2 := by (repeat (first | assumption | (with_reducible exact Below.refl _ _) | (with_reducible refine Below.drewN ?_ _) | (with_reducible refine Below.drew ?_) | (with_reducible refine Below.allocS ?_ _) | ((with_reducible refine Below.setCell ?_ ?_ _); rotate_left; focus (first | omega | (simp; done) | (simp; omega))) | (with_reducible refine Below.step ?_ (by assumption))))
  simp at hz2
  have hzw : w.heap.size < w2.heap.size := by omega
  have ou0' := ownsRow_base (base' := w.heap.size + 1 + 1) (by simp) ou0
  have ou1' := ownsRow_base (base' := w.heap.size + 1 + 1) (by simp) ou1
  obtain ⟨g, cg, rfl⟩ := ownsRow_own ou0' (by omega)
  obtain ⟨gb, cb, rfl⟩ := ownsRow_own ou1' hm0
  have hg := ownsRow_lt ou0' g rfl
  have hgb := ownsRow_lt ou1' gb rfl
  have hne := ownsRow_ne ou0' ou1' tc_ne
  have X0 := Lib.hid ou0'
  have X1 := Lib.hid ou1'
  clear ou0 ou1 ou0' ou1'
  go_wp2_with fail
  have hp3 : Held [(⟨w2.heap.size, 0, none⟩, .slice (some ⟨g, 0, none⟩) n cg), (⟨w2.heap.size, 1, none⟩, .slice (some ⟨gb, 0, none⟩) m cb)] (w2.alloc (.cells #[.slice (some ⟨g, 0, none⟩) n cg, .slice (some ⟨gb, 0, none⟩) m cb] 49)) := by simp [Held, go_sem]
  refine (l05Fire_any (.slice (some ⟨gb, 0, none⟩) m cb) n cg g w2.heap.size J _ l _ (X0.out.alloc _) hp3 (by omega) (by omega) c2 HF.out HJ.out).mono ?_
  rintro e w6 ⟨u, rfl, ol, oc, hk6⟩
  have hzz := hk6.size
  simp only [World.size_alloc] at hzz ol
  have ol' := ownsRow_base (base' := w.heap.size + 1 + 1) (by omega) ol
  have hgl := ownsRow_lt ol
  have Y1 := Lib.hid (ownsRow_kept (X1.out.alloc (.cells #[.slice (some ⟨g, 0, none⟩) n cg, .slice (some ⟨gb, 0, none⟩) m cb] 49)) hk6 (fun r hr hm => hne g rfl (by have h8 := own_some hr; have h9 := List.mem_singleton.1 hm; rw [h9] at hr; exact hr)))
  have Y0 := Lib.hid oc
  have Y2 := Lib.hid ol'
  have hk6' := Held_kept hk6 (l := [(⟨w.heap.size + 1, 0, none⟩, .slice none 0 0), (⟨w.heap.size + 1, 1, none⟩, .slice none 0 0), (⟨w2.heap.size, 0, none⟩, .slice (some ⟨g, 0, none⟩) n cg), (⟨w2.heap.size, 1, none⟩, .slice (some ⟨gb, 0, none⟩) m cb)]) (fun q hq hm => by
    have h9 := List.mem_singleton.1 hm
    simp only [List.mem_cons, List.not_mem_nil, or_false] at hq
    rcases hq with rfl | rfl | rfl | rfl <;> (dsimp only at h9; cases h9; omega)) (by simp [Held, go_sem, *])
  have HH6 := Lib.hid hk6'
  have hB6 : Below w.heap.size w w6 := by
    have h9 : Below w.heap.size w (w2.alloc (.cells #[.slice (some ⟨g, 0, none⟩) n cg, .slice (some ⟨gb, 0, none⟩) m cb] 49)) := by (repeat (first | assumption | (with_reducible exact Below.refl _ _) | (with_reducible refine Below.drewN ?_ _) | (with_reducible refine Below.drew ?_) | (with_reducible refine Below.allocS ?_ _) | ((with_reducible refine Below.setCell ?_ ?_ _); rotate_left; focus (first | omega | (simp; done) | (simp; omega))) | (with_reducible refine Below.step ?_ (by assumption))))
    exact h9.trans (hk6.toBelow h9.size (fun r hr => by have h8 := List.mem_singleton.1 hr; cases h8; omega))
  have hz6 := hB6.size
  simp only [Held, and_true] at hk6'
  obtain ⟨la, lc, rfl⟩ := ownsRow_len ol
  clear ol ol' oc hk6
  cases hv : clocksB n (fireL l n J) m lk
  · go_wp2_with (first | (go_at_call 74; refine (l05Is_any (.slice (some ⟨g, 0, none⟩) n cg) (.slice (some ⟨gb, 0, none⟩) m cb) n m (fireL l n J) lk _ _ (ownsRow_rowAt Y0.out) (ownsRow_rowAt Y1.out) ⟨HH6.out.2.2.1, HH6.out.2.2.2.1, trivial⟩).mono ?_; rintro e w' ⟨c9, rfl, rfl⟩; rw [hv]))
    refine bodyPost_ret (v := ?_) (by first | (simp [results, Try.results55, go_sem, *]; rfl) | (simp [results, Try.results55, go_sem, *]; done)) rfl ?_
    rw [hv]
    refine ⟨_, _, _, _, rfl, ownsRow_nil', ownsRow_nil', ownsRow_nil', (fun i hi => by cases hi), (fun i hi => by cases hi), (fun i hi => by cases hi), cn_null, ?_⟩
    (repeat (first | assumption | (with_reducible exact Below.refl _ _) | (with_reducible refine Below.drewN ?_ _) | (with_reducible refine Below.drew ?_) | (with_reducible refine Below.allocS ?_ _) | ((with_reducible refine Below.setCell ?_ ?_ _); rotate_left; focus (first | omega | (simp; done) | (simp; omega))) | (with_reducible refine Below.step ?_ (by assumption))))
  · go_wp2_with (first | (go_at_call 74; refine (l05Is_any (.slice (some ⟨g, 0, none⟩) n cg) (.slice (some ⟨gb, 0, none⟩) m cb) n m (fireL l n J) lk _ _ (ownsRow_rowAt Y0.out) (ownsRow_rowAt Y1.out) ⟨HH6.out.2.2.1, HH6.out.2.2.2.1, trivial⟩).mono ?_; rintro e w' ⟨c9, rfl, rfl⟩; rw [hv]))
    have hDD : ∀ w8 w9, (fun w9 => Held [(⟨w2.heap.size, 0, none⟩, .slice (some ⟨g, 0, none⟩) n cg), (⟨w2.heap.size, 1, none⟩, .slice (some ⟨gb, 0, none⟩) m cb)] w9 ∧ (∃ x y, Held [(⟨w.heap.size + 1, 0, none⟩, x), (⟨w.heap.size + 1, 1, none⟩, y)] w9) ∧ Kept (w6.drewN c9) w9 [some (w.heap.size + 1)]) w8 → Below w8.heap.size w8 w9 → (fun w9 => Held [(⟨w2.heap.size, 0, none⟩, .slice (some ⟨g, 0, none⟩) n cg), (⟨w2.heap.size, 1, none⟩, .slice (some ⟨gb, 0, none⟩) m cb)] w9 ∧ (∃ x y, Held [(⟨w.heap.size + 1, 0, none⟩, x), (⟨w.heap.size + 1, 1, none⟩, y)] w9) ∧ Kept (w6.drewN c9) w9 [some (w.heap.size + 1)]) w9 := fun w8 w9 h8 hb8 => ⟨Held.below hb8 h8.1, ⟨h8.2.1.choose, h8.2.1.choose_spec.choose, Held.below hb8 h8.2.1.choose_spec.choose_spec⟩, h8.2.2.below1 hb8⟩
    have hst : stableV [(2, 30, (fun v w9 => w9.ownsRow (w6.drewN c9).heap.size 2 1 v (fireO l n J).length (il (fireO l n J)))), (4, 28, (fun _ w9 => Held [(⟨w.heap.size + 1, 0, none⟩, .slice (some ⟨g, 0, none⟩) n cg), (⟨w.heap.size + 1, 1, none⟩, .slice (some ⟨gb, 0, none⟩) m cb)] w9))] := by
      intro q hq
      rcases List.mem_cons.1 hq with rfl | hq
      · intro v w8 w9 hb8 hh
        exact ownsRow_below hh hb8
      obtain rfl := List.mem_singleton.1 hq
      intro v w8 w9 hb8 hh
      exact Held.below hb8 hh
    refine region_calmD (fun w9 => Held [(⟨w2.heap.size, 0, none⟩, .slice (some ⟨g, 0, none⟩) n cg), (⟨w2.heap.size, 1, none⟩, .slice (some ⟨gb, 0, none⟩) m cb)] w9 ∧ (∃ x y, Held [(⟨w.heap.size + 1, 0, none⟩, x), (⟨w.heap.size + 1, 1, none⟩, y)] w9) ∧ Kept (w6.drewN c9) w9 [some (w.heap.size + 1)]) (fun _ _ v => ∃ a k d, v = Value.slice a k d) [(2, 30, (fun v w9 => w9.ownsRow (w6.drewN c9).heap.size 2 1 v (fireO l n J).length (il (fireO l n J)))), (4, 28, (fun _ w9 => Held [(⟨w.heap.size + 1, 0, none⟩, .slice (some ⟨g, 0, none⟩) n cg), (⟨w.heap.size + 1, 1, none⟩, .slice (some ⟨gb, 0, none⟩) m cb)] w9))] (by kernel_rfl) (by kernel_rfl) (by kernel_rfl) ⟨by simp [Held, go_sem, *], ⟨.slice none 0 0, .slice none 0 0, by simp [Held, go_sem, *]⟩, ((Kept.refl1 _ _).below1 (Below.refl _ _).drew)⟩ ?_
    repeat (first | (first | (refine calmD_plain hst hDD rfl rfl ?_ (fun K hK w1 hC => ?_); (focus (intro _ _; simp [RVF]; done)); have hC' := hC.1; simp only [Held, and_true] at hC'; go_wp2_with fail; refine ⟨rfl, (by first | exact Below.refl _ _ | exact below_drewN _), hK _ ?_⟩; clear hC hC' hK K w1) | (refine calmD_check rfl rfl rfl ?_ ?_; (focus (intro _ _; simp [RVF]; done)))) | (refine calmD_call (f := 112) (args := _) hst hDD rfl (by (intro w1; simp [execOp, resolve, invoke, go_sem]; with_reducible rfl)) (fun w1 hC hDp => ?_) ?_; (focus (refine (l05Set_any (.slice la (firedF l n J).2.length lc) (firedF l n J).2.length ((firedF l n J).2.map Int.ofNat) _ (RowAt_kept (ownsRow_rowAt (ownsRow_drewN Y2.out c9)) hC.2.2 (fun r hr hm => by have h8 := (hgl r hr); have h9 := List.mem_singleton.1 hm; cases h9; omega)) (by omega)).mono ?_; rintro e w8 ⟨v8, rfl, ho8, hb8⟩; obtain ⟨a8, k8, d8, rfl⟩ := ownsRow_shape ho8; exact ⟨_, rfl, ⟨_, _, _, rfl⟩, ⟨fun _ => by (try simp [Act.put, Act.eval]); exact ownsRow_base hC.2.2.size ho8, (fun e9 => by simp at e9), trivial⟩, hb8⟩)); rintro v9 ⟨a9, k9, d9, rfl⟩))
    refine calmD_store rfl (fun w1 hC hDp => ?_) ?_
    · obtain ⟨hc1, ⟨x9, y9, hc2⟩, hc3⟩ := hC
      have HC1 := Lib.hid hc1
      simp only [Held, and_true] at hc1 hc2
      obtain ⟨w8, hw8⟩ : ∃ w8, w8 = (w1.setCell ⟨w.heap.size + 1, 0, none⟩ (.slice (some ⟨g, 0, none⟩) n cg)).setCell ⟨w.heap.size + 1, 1, none⟩ (.slice (some ⟨gb, 0, none⟩) m cb) := ⟨_, rfl⟩
      have K8 : Kept w1 w8 [some (w.heap.size + 1)] := by rw [hw8]; exact (kept_one _ _ _ _).trans1 (kept_one _ _ _ _)
      have T8 : Held [(⟨w.heap.size + 1, 0, none⟩, .slice (some ⟨g, 0, none⟩) n cg), (⟨w.heap.size + 1, 1, none⟩, .slice (some ⟨gb, 0, none⟩) m cb)] w8 := by rw [hw8]; simp [Held, go_sem, *]
      have hr8 : w8.heap.size = w1.heap.size := by rw [hw8]; simp
      refine ⟨w8, by rw [hw8]; simp [execOp, go_sem, *], ⟨held_over K8 (by omega) HC1.out, ⟨_, _, T8⟩, hc3.trans1 K8⟩, ⟨fun e9 => by simp at e9, fun _ => T8, trivial⟩, ?_⟩
      intro j a' hj hR
      refine ⟨fun e9 => ?_, fun e9 => absurd e9.symm hj, trivial⟩
      exact ownsRow_kept (hR.1 e9) K8 (fun r hr hm => by have h8 := (ownsRow_lt (hR.1 e9) r hr).1; have h9 := List.mem_singleton.1 hm; cases h9; simp at h8; omega)
    repeat (first | (refine calmD_plain hst hDD rfl rfl ?_ (fun K hK w1 hC => ?_); (focus (intro _ _; simp [RVF]; done)); have hC' := hC.1; simp only [Held, and_true] at hC'; go_wp2_with fail; refine ⟨rfl, (by first | exact Below.refl _ _ | exact below_drewN _), hK _ ?_⟩; clear hC hC' hK K w1) | (refine calmD_check rfl rfl rfl ?_ ?_; (focus (intro _ _; simp [RVF]; done))))
    refine calmD_nil ?_
    intro w7 hC hF
    have f9 := RVF_get (hF 2 (by decide)) (List.mem_cons_self)
    have T9 := RVF_get (hF 4 (by decide)) (List.mem_cons_of_mem _ (List.mem_singleton.2 rfl))
    have F9 : Hid (w7.ownsRow (w6.drewN c9).heap.size 2 1 (.slice a9 k9 d9) (fireO l n J).length (il (fireO l n J))) := by first | exact f9 | simpa [Act.put, Act.eval] using f9
    have hK7 := hC.2.2
    have Z0 : Hid (w7.ownsRow _ 113 2 (.slice (some ⟨g, 0, none⟩) n cg) n (fl (fireL l n J))) := ownsRow_kept (ownsRow_drewN Y0.out c9) hK7 (fun r hr hm => by have h8 := own_some hr; have h9 := List.mem_singleton.1 hm; cases h9; omega)
    have Z1 : Hid (w7.ownsRow _ 23 1 (.slice (some ⟨gb, 0, none⟩) m cb) m (fl lk)) := ownsRow_kept (ownsRow_drewN Y1.out c9) hK7 (fun r hr hm => by have h8 := own_some hr; have h9 := List.mem_singleton.1 hm; cases h9; omega)
    have hB7 : Below w.heap.size w w7 := (Below.drewN hB6 c9).trans (hK7.toBelow (by simpa using hz6) (fun r hr => by have h9 := List.mem_singleton.1 hr; cases h9; omega))
    have hz7 := hB7.size
    have F2 : Hid (w7.ownsRow (w.heap.size + 1 + 1) 2 1 (.slice a9 k9 d9) (fireO l n J).length (il (fireO l n J))) := ownsRow_base (by have := (ownsRow_lt Y0.out g rfl).2; simp; omega) F9.out
    have n01 := ownsRow_ne Z0.out Z1.out tc_ne
    have n02 := ownsRow_ne Z0.out F2.out ci_ne
    have n12 := ownsRow_ne Z1.out F2.out fi_ne
    have hT9 : Held [(⟨w.heap.size + 1, 0, none⟩, .slice (some ⟨g, 0, none⟩) n cg), (⟨w.heap.size + 1, 1, none⟩, .slice (some ⟨gb, 0, none⟩) m cb)] w7 := T9
    simp only [Held, and_true] at hT9
    clear hC hF f9 hst hDD F9 hk6' T9 hK7
    go_wp2_with fail
    refine bodyPost_ret (v := ?_) (by first | (simp [results, Try.results55, go_sem, *]; rfl) | (simp [results, Try.results55, go_sem, *]; done)) rfl ?_
    rw [hv]
    refine ⟨_, _, _, _, rfl, ?_, ?_, ?_, n01, n02, n12, HTN.out, hB7⟩
    · exact ownsRow_base (base := w.heap.size + 1 + 1) (by omega) Z0.out
    · exact ownsRow_base (base := w.heap.size + 1 + 1) (by omega) Z1.out
    · exact ownsRow_base (base := w.heap.size + 1 + 1) (by omega) F2.out

end Go.Proofs.Ytbmabpnolheghaa
