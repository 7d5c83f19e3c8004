/-
  The walks of clocks that are changed, and of turns that are laid.
-/
import Derived.Test.YtbmabpnolheghaaTe
set_option linter.unusedVariables false
set_option linter.unusedSimpArgs false
namespace Go.Proofs.Ytbmabpnolheghaa
open Go.RowKit

/-- What a change of clocks of their own does: 'R' says whether it fits; the rows become others; of all else only the clocks' own blocks turn. -/
def Changes (k : FuncId) (caps : Array Value) (n : Nat) (l : List Nat) (m : Nat) (lk : List Nat) (fits : Bool) (n' : Nat) (l' : List Nat) (m' : Nat) (lk' : List Nat) (w : World) : Prop :=
  ∀ (B : Nat) (w1 : World) (p : Nat) (v0 v1 : Value), w.heap.size ≤ B → B ≤ p → Held [(⟨p, 0, none⟩, v0), (⟨p, 1, none⟩, v1)] w1 → w1.ownsRow B 113 2 v0 n (fl l) → w1.ownsRow B 23 1 v1 m (fl lk) → (∀ i, v0.ownBlock = some i → i < p) → (∀ i, v1.ownBlock = some i → i < p) → Below w.heap.size w w1 →
    Calls Try.prog k (#[.pointer (some ⟨p, 0, none⟩)] ++ caps) w1 (fun e w2 => ∃ u0 u1, e = .returned (.bool fits) ∧ Held [(⟨p, 0, none⟩, u0), (⟨p, 1, none⟩, u1)] w2 ∧ w2.ownsRow B 113 2 u0 n' (fl l') ∧ w2.ownsRow B 23 1 u1 m' (fl lk') ∧ Kept w1 w2 [some p, v0.ownBlock, v1.ownBlock])
theorem range_three {lo hi p : Nat} {u v : Value} (hp : lo ≤ p ∧ p < hi) (h : ∀ i, u.ownBlock = some i → lo ≤ i ∧ i < hi) (h' : ∀ i, v.ownBlock = some i → lo ≤ i ∧ i < hi) : ∀ i, some i ∈ [some p, u.ownBlock, v.ownBlock] → lo ≤ i ∧ i < hi := by
  intro i hi
  simp only [List.mem_cons, List.not_mem_nil, or_false] at hi
  rcases hi with e | e | e
  · cases e; exact hp
  · exact h i e.symm
  · exact h' i e.symm

set_option maxRecDepth 100000 in
set_option maxHeartbeats 8000000 in
theorem changedClocks_any (v v' : Value) (n m : Nat) (l lk : List Nat) (k : FuncId) (caps : Array Value) (fits : Bool) (n' : Nat) (l' : List Nat) (m' : Nat) (lk' : List Nat) (w : World) (h : RowAt w v 2 n (fl l)) (h' : RowAt w v' 1 m (fl lk))
    (hcf : ∀ (w1 : World) (x : Value), (callFunc k (#[x] ++ caps)).run Try.prog w1 = .ok (.enter k (#[x] ++ caps)) w1) (hdo : clocksB n l m lk = true → Changes k caps n l m lk fits n' l' m' lk' w) :
    Calls Try.prog 113 #[.agg #[v, v'], .func (.func k) #[] caps] w (GiveC (cN (clocksB n l m lk && fits && clocksB n' l' m' lk') n') (cL (clocksB n l m lk && fits && clocksB n' l' m' lk') l') (cN (clocksB n l m lk && fits && clocksB n' l' m' lk') m') (cL (clocksB n l m lk && fits && clocksB n' l' m' lk') lk') (clocksB n l m lk && fits && clocksB n' l' m' lk') w) := by
  have H := Lib.hid h
  have H' := Lib.hid h'
  have HD := Lib.hid hdo
  clear h h' hdo
  cases hc : clocksB n l m lk
  · go_enter Try.func113, Try.ntmps113
    go_wp2_with (first | (go_at_call 29; refine (implValidClocks_any v v' n m l lk _ ?_ ?_).mono ?_; (focus (refine RowAt.below H.out ?_; (repeat (first | assumption | (with_reducible exact Below.refl _ _) | (with_reducible refine Below.drewN ?_ _) | (with_reducible refine Below.drew ?_) | (with_reducible refine Below.allocS ?_ _) | ((with_reducible refine Below.setCell ?_ ?_ _); rotate_left; focus (first | omega | (simp; done) | (simp; omega))) | (with_reducible refine Below.step ?_ (by assumption)))); done)); (focus (refine RowAt.below H'.out ?_; (repeat (first | assumption | (with_reducible exact Below.refl _ _) | (with_reducible refine Below.drewN ?_ _) | (with_reducible refine Below.drew ?_) | (with_reducible refine Below.allocS ?_ _) | ((with_reducible refine Below.setCell ?_ ?_ _); rotate_left; focus (first | omega | (simp; done) | (simp; omega))) | (with_reducible refine Below.step ?_ (by assumption)))); done)); rintro e w1 ⟨rfl, hb⟩; rw [hc]; have hk := Held.below hb (l := [(⟨w.heap.size, 0, none⟩, v), (⟨w.heap.size, 1, none⟩, v'), (⟨w.heap.size + 1, 0, none⟩, .slice none 0 0), (⟨w.heap.size + 1, 1, none⟩, .slice none 0 0)]) (by simp [Held, go_sem]); simp only [Held, and_true] at hk))
    refine bodyPost_ret (v := ?_) (by first | (simp [results, Try.results113, go_sem, *]; rfl) | (simp [results, Try.results113, go_sem, *]; done)) rfl ?_
    refine ⟨_, _, rfl, ownsRow_nil', ownsRow_nil', (fun i hi => by cases hi), ?_⟩
    (repeat (first | assumption | (with_reducible exact Below.refl _ _) | (with_reducible refine Below.drewN ?_ _) | (with_reducible refine Below.drew ?_) | (with_reducible refine Below.allocS ?_ _) | ((with_reducible refine Below.setCell ?_ ?_ _); rotate_left; focus (first | omega | (simp; done) | (simp; omega))) | (with_reducible refine Below.step ?_ (by assumption))))
  obtain ⟨c1, c2, c3, c4, c5⟩ := clocks_parts hc
  have hm0 : 0 < m := by have := Nat.mul_pos (by omega : 0 < n) (by omega : 0 < n); omega
  have hm9 : m ≤ 144 := by have := sq_small c2; omega
  clear c4 c3 c5
  have HD1 := Lib.hid (HD.out hc)
  clear HD
  go_enter Try.func113, Try.ntmps113
  go_wp2_with (first | (go_at_call 29; refine (implValidClocks_any v v' n m l lk _ ?_ ?_).mono ?_; (focus (refine RowAt.below H.out ?_; (repeat (first | assumption | (with_reducible exact Below.refl _ _) | (with_reducible refine Below.drewN ?_ _) | (with_reducible refine Below.drew ?_) | (with_reducible refine Below.allocS ?_ _) | ((with_reducible refine Below.setCell ?_ ?_ _); rotate_left; focus (first | omega | (simp; done) | (simp; omega))) | (with_reducible refine Below.step ?_ (by assumption)))); done)); (focus (refine RowAt.below H'.out ?_; (repeat (first | assumption | (with_reducible exact Below.refl _ _) | (with_reducible refine Below.drewN ?_ _) | (with_reducible refine Below.drew ?_) | (with_reducible refine Below.allocS ?_ _) | ((with_reducible refine Below.setCell ?_ ?_ _); rotate_left; focus (first | omega | (simp; done) | (simp; omega))) | (with_reducible refine Below.step ?_ (by assumption)))); done)); rintro e w1 ⟨rfl, hb⟩; rw [hc]; have hk := Held.below hb (l := [(⟨w.heap.size, 0, none⟩, v), (⟨w.heap.size, 1, none⟩, v'), (⟨w.heap.size + 1, 0, none⟩, .slice none 0 0), (⟨w.heap.size + 1, 1, none⟩, .slice none 0 0)]) (by simp [Held, go_sem]); simp only [Held, and_true] at hk))
  have hBw1 : Below w.heap.size w w1 := by (repeat (first | assumption | (with_reducible exact Below.refl _ _) | (with_reducible refine Below.drewN ?_ _) | (with_reducible refine Below.drew ?_) | (with_reducible refine Below.allocS ?_ _) | ((with_reducible refine Below.setCell ?_ ?_ _); rotate_left; focus (first | omega | (simp; done) | (simp; omega))) | (with_reducible refine Below.step ?_ (by assumption))))
  go_wp2_with (first | (go_at_call 106; refine (cloneClocks_any v v' n m l lk _ ?_ ?_ (by omega) hm0 (by omega) (by omega)).mono ?_; (focus (refine RowAt.below H.out ?_; (repeat (first | assumption | (with_reducible exact Below.refl _ _) | (with_reducible refine Below.drewN ?_ _) | (with_reducible refine Below.drew ?_) | (with_reducible refine Below.allocS ?_ _) | ((with_reducible refine Below.setCell ?_ ?_ _); rotate_left; focus (first | omega | (simp; done) | (simp; omega))) | (with_reducible refine Below.step ?_ (by assumption)))); done)); (focus (refine RowAt.below H'.out ?_; (repeat (first | assumption | (with_reducible exact Below.refl _ _) | (with_reducible refine Below.drewN ?_ _) | (with_reducible refine Below.drew ?_) | (with_reducible refine Below.allocS ?_ _) | ((with_reducible refine Below.setCell ?_ ?_ _); rotate_left; focus (first | omega | (simp; done) | (simp; omega))) | (with_reducible refine Below.step ?_ (by assumption)))); done))))
  rintro e w2 ⟨v0, v1, rfl, ow0, ow1, b2⟩
  obtain ⟨ga, ca, rfl⟩ := ownsRow_own ow0 (by omega)
  obtain ⟨gb, cb, rfl⟩ := ownsRow_own ow1 (by omega)
  have hk2 := Held.below b2 (l := [(⟨w.heap.size, 0, none⟩, v), (⟨w.heap.size, 1, none⟩, v'), (⟨w.heap.size + 1, 0, none⟩, .slice none 0 0), (⟨w.heap.size + 1, 1, none⟩, .slice none 0 0)]) (by simp [Held, go_sem, *])
  have HK2 := Lib.hid hk2
  simp only [Held, and_true] at hk hk2
  have hn1 : w.heap.size + 1 < w1.heap.size := by omega
  have hn2 : w1.heap.size ≤ w2.heap.size := b2.size
  have hBw2 : Below w.heap.size w w2 := by (repeat (first | assumption | (with_reducible exact Below.refl _ _) | (with_reducible refine Below.drewN ?_ _) | (with_reducible refine Below.drew ?_) | (with_reducible refine Below.allocS ?_ _) | ((with_reducible refine Below.setCell ?_ ?_ _); rotate_left; focus (first | omega | (simp; done) | (simp; omega))) | (with_reducible refine Below.step ?_ (by assumption))))
  have LV0 := ownsRow_lt ow0
  have LV1 := ownsRow_lt ow1
  have OW0 := Lib.hid ow0
  have OW1 := Lib.hid ow1
  have RR := Lib.hid (range_three (lo := w1.heap.size) (hi := w2.heap.size + 1) (p := w2.heap.size) (by omega) (fun i hi => by have := LV0 i hi; omega) (fun i hi => by have := LV1 i hi; omega))
  have LW0 := Lib.hid LV0
  have LW1 := Lib.hid LV1
  clear ow0 ow1 LV0 LV1
  go_wp2_with fail
  refine (HD1.out w1.heap.size _ w2.heap.size (.slice (some ⟨ga, 0, none⟩) n ca) (.slice (some ⟨gb, 0, none⟩) m cb) ?_ ?_ ?_ ?_ ?_ ?_ ?_ ?_).mono ?_
  · omega
  · omega
  · simp [Held, go_sem]
  · have := OW0.out
    (repeat (first | (with_reducible refine World.ownsRow.alloc ?_ _) | (with_reducible refine ownsRow_drewN ?_ _) | ((with_reducible refine ownsRow_setCell_below ?_ ?_ _); rotate_left; focus (first | omega | (simp; done) | (simp; omega)))))
    exact this
  · have := OW1.out
    (repeat (first | (with_reducible refine World.ownsRow.alloc ?_ _) | (with_reducible refine ownsRow_drewN ?_ _) | ((with_reducible refine ownsRow_setCell_below ?_ ?_ _); rotate_left; focus (first | omega | (simp; done) | (simp; omega)))))
    exact this
  · intro i hi
    exact (LW0.out i hi).2
  · intro i hi
    exact (LW1.out i hi).2
  · (repeat (first | assumption | (with_reducible exact Below.refl _ _) | (with_reducible refine Below.drewN ?_ _) | (with_reducible refine Below.drew ?_) | (with_reducible refine Below.allocS ?_ _) | ((with_reducible refine Below.setCell ?_ ?_ _); rotate_left; focus (first | omega | (simp; done) | (simp; omega))) | (with_reducible refine Below.step ?_ (by assumption))))
  rintro e w3 ⟨u0, u1, rfl, hpu, ou0, ou1, K3⟩
  obtain ⟨a0, k0, d0, rfl⟩ := ownsRow_shape ou0
  obtain ⟨a1, k1, d1, rfl⟩ := ownsRow_shape ou1
  have hk3 := Held_range K3 RR.out (l := [(⟨w.heap.size, 0, none⟩, v), (⟨w.heap.size, 1, none⟩, v'), (⟨w.heap.size + 1, 0, none⟩, .slice none 0 0), (⟨w.heap.size + 1, 1, none⟩, .slice none 0 0)]) (by simp only [List.mem_cons, List.not_mem_nil, or_false, forall_eq_or_imp, forall_eq]; omega) (by have := HK2.out; simp only [Held, and_true] at this; simp [Held, go_sem, *])
  have HPU := Lib.hid hpu
  simp only [Held, and_true] at hk3 hpu
  have C3 := Below_range (B := w.heap.size) K3 RR.out (by omega) (by simp; omega)
  have hBw3 : Below w.heap.size w w3 := by
    refine Below.trans ?_ C3
    (repeat (first | assumption | (with_reducible exact Below.refl _ _) | (with_reducible refine Below.drewN ?_ _) | (with_reducible refine Below.drew ?_) | (with_reducible refine Below.allocS ?_ _) | ((with_reducible refine Below.setCell ?_ ?_ _); rotate_left; focus (first | omega | (simp; done) | (simp; omega))) | (with_reducible refine Below.step ?_ (by assumption))))
  have hn3 : w1.heap.size ≤ w3.heap.size := by have := K3.size; simp at this; omega
  have OU0 := Lib.hid ou0
  have OU1 := Lib.hid ou1
  clear ou0 ou1 K3 C3
  cases fits
  · go_wp2_with fail
    refine bodyPost_ret (v := ?_) (by first | (simp [results, Try.results113, go_sem, *]; rfl) | (simp [results, Try.results113, go_sem, *]; done)) rfl ?_
    refine ⟨_, _, rfl, ownsRow_nil', ownsRow_nil', (fun i hi => by cases hi), ?_⟩
    (repeat (first | assumption | (with_reducible exact Below.refl _ _) | (with_reducible refine Below.drewN ?_ _) | (with_reducible refine Below.drew ?_) | (with_reducible refine Below.allocS ?_ _) | ((with_reducible refine Below.setCell ?_ ?_ _); rotate_left; focus (first | omega | (simp; done) | (simp; omega))) | (with_reducible refine Below.step ?_ (by assumption))))
  cases hv : clocksB n' l' m' lk'
  · go_wp2_with (first | (go_at_call 29; refine (implValidClocks_any _ _ n' m' l' lk' _ (ownsRow_rowAt OU0.out) (ownsRow_rowAt OU1.out)).mono ?_; rintro e w4 ⟨rfl, hb4⟩; rw [hv]; have hk4 := Held.below hb4 (l := [(⟨w.heap.size + 1, 0, none⟩, .slice none 0 0), (⟨w.heap.size + 1, 1, none⟩, .slice none 0 0)]) (by simp [Held, go_sem, *]); simp only [Held, and_true] at hk4))
    refine bodyPost_ret (v := ?_) (by first | (simp [results, Try.results113, go_sem, *]; rfl) | (simp [results, Try.results113, go_sem, *]; done)) rfl ?_
    rw [hv]
    refine ⟨_, _, rfl, ownsRow_nil', ownsRow_nil', (fun i hi => by cases hi), ?_⟩
    (repeat (first | assumption | (with_reducible exact Below.refl _ _) | (with_reducible refine Below.drewN ?_ _) | (with_reducible refine Below.drew ?_) | (with_reducible refine Below.allocS ?_ _) | ((with_reducible refine Below.setCell ?_ ?_ _); rotate_left; focus (first | omega | (simp; done) | (simp; omega))) | (with_reducible refine Below.step ?_ (by assumption))))
  · go_wp2_with (first | (go_at_call 29; refine (implValidClocks_any _ _ n' m' l' lk' _ (ownsRow_rowAt OU0.out) (ownsRow_rowAt OU1.out)).mono ?_; rintro e w4 ⟨rfl, hb4⟩; rw [hv]; have hk4 := Held.below hb4 (l := [(⟨w.heap.size + 1, 0, none⟩, .slice none 0 0), (⟨w.heap.size + 1, 1, none⟩, .slice none 0 0), (⟨w2.heap.size, 0, none⟩, .slice a0 k0 d0), (⟨w2.heap.size, 1, none⟩, .slice a1 k1 d1)]) (by simp [Held, go_sem, *]); simp only [Held, and_true] at hk4; have OX0 := Lib.hid (ownsRow_below OU0.out hb4); have OX1 := Lib.hid (ownsRow_below OU1.out hb4)))
    refine bodyPost_ret (v := ?_) (by first | (simp [results, Try.results113, go_sem, *]; rfl) | (simp [results, Try.results113, go_sem, *]; done)) rfl ?_
    rw [hv]
    refine ⟨_, _, rfl, ?_, ?_, ownsRow_ne OX0.out OX1.out tc_ne, ?_⟩
    · refine ownsRow_base (base := w1.heap.size) (by omega) ?_
      have := OX0.out
      (repeat (first | (with_reducible refine World.ownsRow.alloc ?_ _) | (with_reducible refine ownsRow_drewN ?_ _) | ((with_reducible refine ownsRow_setCell_below ?_ ?_ _); rotate_left; focus (first | omega | (simp; done) | (simp; omega)))))
      exact this
    · refine ownsRow_base (base := w1.heap.size) (by omega) ?_
      have := OX1.out
      (repeat (first | (with_reducible refine World.ownsRow.alloc ?_ _) | (with_reducible refine ownsRow_drewN ?_ _) | ((with_reducible refine ownsRow_setCell_below ?_ ?_ _); rotate_left; focus (first | omega | (simp; done) | (simp; omega)))))
      exact this
    · (repeat (first | assumption | (with_reducible exact Below.refl _ _) | (with_reducible refine Below.drewN ?_ _) | (with_reducible refine Below.drew ?_) | (with_reducible refine Below.allocS ?_ _) | ((with_reducible refine Below.setCell ?_ ?_ _); rotate_left; focus (first | omega | (simp; done) | (simp; omega))) | (with_reducible refine Below.step ?_ (by assumption))))

theorem turn_exact {x r : Nat} (h : cn .f32 r = condF (finB .f32 x) (wrapQ x)) : r = turnQ x := by
  refine exact_of (X := turnQ x) h ?_
  unfold turnQ
  split
  · exact (wrap_sm ‹_›).not_nan
  · decide +kernel
theorem upto_succ (p : Nat → Bool) (n : Nat) : upto p (n + 1) = (upto p n && p n) := by unfold upto; rw [List.range_succ, List.all_append]; simp
theorem Held_kept1 {w w' : World} {v : Value} {l : List (Addr × Value)} (k : Kept w w' [v.ownBlock]) (hne : ∀ q ∈ l, v.ownBlock ≠ some q.1.block) (h : Held l w) : Held l w' :=
  Held_kept k (fun q hq hm => hne q hq (List.mem_singleton.1 hm).symm) h

set_option maxRecDepth 100000 in
set_option maxHeartbeats 8000000 in
theorem setTurn_any (v0 v1 : Value) (n : Nat) (l : List Nat) (B p i x : Nat) (w : World) (h : w.ownsRow B 113 2 v0 n (fl l)) (hp : Held [(⟨p, 0, none⟩, v0), (⟨p, 1, none⟩, v1)] w) (hi : i < n) (hn : n ≤ 12) :
    Calls Try.prog 174 #[.pointer (some ⟨p, 0, none⟩), .int .i64 (i : Int), .float .f32 x] w fun e w' => e = .returned (.bool (finB .f32 x)) ∧ w'.ownsRow B 113 2 v0 n (fl (l.set (i * 2) (turnQ x))) ∧ Kept w w' [v0.ownBlock] := by
  obtain ⟨g, cap, rfl⟩ := ownsRow_own h (by omega)
  have hL := h.1
  rw [fl_length] at hL
  have hg := (ownsRow_lt h g rfl).2
  have f0 := (h.cellAt (i * 2) (by omega)).trans (fl_get (l := l) (by omega))
  have z0 := h.frozenAt (i * 2)
  have HO := Lib.hid h
  clear h
  simp only [Held, and_true] at hp
  go_enter Try.func174, Try.ntmps174
  go_wp2_with (first | (go_at_call 186; refine (implWrapTurn_any _ _).mono ?_; rintro e w2 ⟨r, rfl, hq, hb⟩; obtain rfl := turn_exact hq; have hk := Held.below hb (l := [(⟨p, 0, none⟩, .slice (some ⟨g, 0, none⟩) n cap), (⟨p, 1, none⟩, v1), (⟨g, i * 2, none⟩, .float .f32 (l.getD (i * 2) 0))]) (by simp [Held, *]); simp only [Held, and_true] at hk))
  go_ret
  have h2 := ownsRow_below HO.out hb
  have h3 := h2.stored (i * 2) (.float .f32 (turnQ x))
  rw [fl_set] at h3
  exact ⟨rfl, h3.1, (Kept.of_below hb).trans (Kept.of_grown h3.2)⟩

set_option maxRecDepth 100000 in
set_option maxHeartbeats 8000000 in
theorem l05Turned_any (v0 v1 : Value) (n : Nat) (l : List Nat) (B p i x : Nat) (w : World) (h : w.ownsRow B 113 2 v0 n (fl l)) (hp : Held [(⟨p, 0, none⟩, v0), (⟨p, 1, none⟩, v1)] w) (hi : i < n) (hn : n ≤ 12) :
    Calls Try.prog 145 #[.pointer (some ⟨p, 0, none⟩), .int .i64 (i : Int), .float .f32 x] w fun e w' => e = .returned (.bool (finB .f32 x)) ∧ (finB .f32 x = true → w'.ownsRow B 113 2 v0 n (fl (l.set (i * 2) (turnQ x)))) ∧ Kept w w' [v0.ownBlock] := by
  obtain ⟨g, cap, rfl⟩ := ownsRow_own h (by omega)
  have hL := h.1
  rw [fl_length] at hL
  have hg := (ownsRow_lt h g rfl).2
  have f0 := (h.cellAt (i * 2) (by omega)).trans (fl_get (l := l) (by omega))
  have z0 := h.frozenAt (i * 2)
  have HO := Lib.hid h
  clear h
  simp only [Held, and_true] at hp
  cases hf : finB .f32 x
  · go_enter Try.func145, Try.ntmps145
    go_wp2_with (first | (go_at_call 129; refine (l01Finite_any _ _).mono ?_; rintro e w' ⟨n9, rfl, rfl⟩))
    go_ret
    refine ⟨rfl, ?_, ?_⟩
    · first | trivial | (intro e9; cases e9)
    exact (Kept.of_below (below_drewN _)).trans (Kept.of_grown ⟨rfl, rfl, rfl, Nat.le_refl _, fun _ _ _ => rfl⟩)
  have ht : wrapQ x = turnQ x := by unfold turnQ; rw [if_pos hf]
  go_enter Try.func145, Try.ntmps145
  go_wp2_with (first | (go_at_call 129; refine (l01Finite_any _ _).mono ?_; rintro e w' ⟨n9, rfl, rfl⟩))
  refine region_calmA_tail 9 w w.heap.size [(⟨p, 0, none⟩, .slice (some ⟨g, 0, none⟩) n cap), (⟨p, 1, none⟩, v1), (⟨g, i * 2, none⟩, .float .f32 (l.getD (i * 2) 0))] (fun _ _ v => v = .float .f32 (turnQ x)) [] (by kernel_rfl) (by kernel_rfl) (by kernel_rfl) ⟨⟨by simp [Held, go_sem, *], by (repeat (first | assumption | (with_reducible exact Below.refl _ _) | (with_reducible refine Below.drewN ?_ _) | (with_reducible refine Below.drew ?_) | (with_reducible refine Below.allocS ?_ _) | ((with_reducible refine Below.setCell ?_ ?_ _); rotate_left; focus (first | omega | (simp; done) | (simp; omega))) | (with_reducible refine Below.step ?_ (by assumption))))⟩, by (first | (simp; done) | (simp; omega) | omega)⟩ ?_
  simp only [List.take_succ_cons, List.take_zero, List.drop_succ_cons, List.drop_zero]
  repeat (first | (first | (refine calmA_plain rfl rfl ?_ (fun K hK w1 hC => ?_); (focus (intro _ _; simp [RA]; done)); have hC' := hC.1.1; simp only [Held, and_true] at hC'; go_wp2_with (first | (refine wpList_fbin rfl rfl rfl rfl rfl (fun r n9 hr => ?_)) | (refine wpList_widen rfl rfl Try.underlying85 Try.underlying23 rfl (fun r n9 hr => ?_))); refine ⟨rfl, (by first | exact Below.refl _ _ | exact below_drewN _), hK _ ?_⟩; clear hC hC' hK K w1) | (refine calmA_check rfl rfl rfl ?_ ?_; (focus (intro _ _; simp [RA]; done)))) | (refine calmA_call (f := 167) (args := _) rfl ?_ (by (intro w1; simp [execOp, resolve, invoke, go_sem]; with_reducible rfl)) (fun w1 hC => ?_) ?_; (focus (intro _ _; simp [RA]; done)); (focus (refine (l05Wrap_any _ _ hf).mono ?_; rintro e w2 ⟨n9, rfl, rfl⟩; exact ⟨_, rfl, by rw [ht], below_drewN _⟩)); rintro v9 rfl))
  refine calmA_nil ?_
  intro w1 hC hF
  have hb : Below w.heap.size w w1 := hC.1.2
  have hC' := hC.1.1
  simp only [Held, and_true] at hC'
  clear hC hF
  go_wp2_with fail
  go_ret
  have h2 := ownsRow_below HO.out hb
  have h3 := h2.stored (i * 2) (.float .f32 (turnQ x))
  rw [fl_set] at h3
  exact ⟨rfl, fun _ => h3.1, (Kept.of_below hb).trans (Kept.of_grown h3.2)⟩

set_option maxRecDepth 100000 in
set_option maxHeartbeats 8000000 in
theorem turnEach1_any (v0 v1 : Value) (n m : Nat) (l lk : List Nat) (B p q : Nat) (k : FuncId) (caps : Array Value) (Q : Nat → Nat) (W w : World) (h : w.ownsRow B 113 2 v0 n (fl l)) (hp : Held [(⟨p, 0, none⟩, v0), (⟨p, 1, none⟩, v1)] w) (hq : Held [(⟨q, 0, none⟩, .func (.func k) #[] caps)] w) (hn0 : 0 < n) (hn : n ≤ 12)
    (hBp : ∀ i, v0.ownBlock = some i → i < p) (hqB : q < B) (hWB : W.heap.size ≤ B) (hW : Below W.heap.size W w) (hcf : ∀ (w1 : World) (x : Value), (callFunc k (#[x] ++ caps)).run Try.prog w1 = .ok (.enter k (#[x] ++ caps)) w1)
    (hof : ∀ i w1, i < n → Below W.heap.size W w1 → Calls Try.prog k (#[.int .i64 (i : Int)] ++ caps) w1 (BF .f32 (Q i) w1)) :
    Calls Try.prog 173 #[.pointer (some ⟨p, 0, none⟩), .pointer (some ⟨q, 0, none⟩)] w fun e w' => e = .returned (.bool (upto (fun j => finB .f32 (Q j)) n)) ∧ w'.ownsRow B 113 2 v0 n (fl (turned l Q n)) ∧ Kept w w' [v0.ownBlock] := by
  obtain ⟨g, cap, rfl⟩ := ownsRow_own h (by omega)
  have hg := ownsRow_lt h g rfl
  have hgp := hBp g rfl
  have HO := Lib.hid h
  have HR := Lib.hid (ownsRow_rowAt h)
  have HP := Lib.hid hp
  have HQ := Lib.hid hq
  have HF := Lib.hid hof
  simp only [Held, and_true] at hp hq
  clear h hof hBp
  go_enter Try.func173, Try.ntmps173
  go_wp2_with (first | (go_at_call 158; refine (many_any _ v1 n m _ p _ HR.out HP.out).mono ?_; rintro e w' ⟨rfl, e9⟩; subst w'))
  go_loopw [8, 4] (fun jv fv wr => ∃ i : Nat, i ≤ n ∧ jv = .int .i64 (i : Int) ∧ fv = .bool (upto (fun j => finB .f32 (Q j)) i) ∧ wr.ownsRow B 113 2 (.slice (some ⟨g, 0, none⟩) n cap) n (fl (turned l Q i)) ∧ Kept w wr [some g]) (fun jv _ _ => n - (intOf jv).toNat)
  case atStart => exact ⟨0, Nat.zero_le _, rfl, rfl, HO.out, ⟨rfl, rfl, rfl, Nat.le_refl _, fun _ _ _ => rfl⟩⟩
  case round =>
    obtain ⟨i, hi, rfl, rfl, ho, hk⟩ := hrel
    have OI := Lib.hid ho
    have KI := Lib.hid hk
    have hk2 := Held_kept1 (v := .slice (some ⟨g, 0, none⟩) n cap) hk (l := [(⟨p, 0, none⟩, .slice (some ⟨g, 0, none⟩) n cap), (⟨p, 1, none⟩, v1), (⟨q, 0, none⟩, .func (.func k) #[] caps)]) (by simp [Value.ownBlock]; omega) (by have := HP.out; have := HQ.out; simp only [Held, and_true] at *; simp [*])
    simp only [Held, and_true] at hk2
    have hBr : Below W.heap.size W wr := hW.trans (hk.toBelow (by have := hW.size; omega) (fun j hj => by have := List.mem_singleton.1 hj; cases this; omega))
    clear ho hk
    by_cases hlt : i < n
    · have d1 : decide ((i : Int) < (n : Int)) = true := decide_eq_true (by omega)
      cases e1 : finB .f32 (Q i)
      all_goals
        go_wp2_with (first | (go_at_call 174; refine (setTurn_any _ v1 n (turned l Q i) B p i _ _ (ownsRow_below OI.out hb3) (by simp [Held, *]) hlt hn).mono ?_; rintro e w4 ⟨rfl, ho4, hk4⟩; rw [hfr]; have O4 := Lib.hid ho4; have K4 := Lib.hid hk4; clear ho4 hk4) | ((refine (HF.out i _ hlt ?_).mono ?_); (focus ((repeat (first | assumption | (with_reducible exact Below.refl _ _) | (with_reducible refine Below.drewN ?_ _) | (with_reducible refine Below.drew ?_) | (with_reducible refine Below.allocS ?_ _) | ((with_reducible refine Below.setCell ?_ ?_ _); rotate_left; focus (first | omega | (simp; done) | (simp; omega))) | (with_reducible refine Below.step ?_ (by assumption)))); done)); rintro e w3 ⟨r, rfl, hq3, hb3⟩; have hfr : finB .f32 r = finB .f32 (Q i) := (by rw [← hq3, finB_cn]); rw [e1] at hfr; have HQ3 := Lib.hid hq3; clear hq3; have hk3 := Held.below hb3 (l := [(⟨p, 0, none⟩, .slice (some ⟨g, 0, none⟩) n cap), (⟨p, 1, none⟩, v1), (⟨q, 0, none⟩, .func (.func k) #[] caps)]) (by simp [Held, *]); simp only [Held, and_true] at hk3))
        go_roundw
        case rel =>
          refine ⟨i + 1, hlt, by go_num, ?_, ?_, ?_⟩
          · rw [upto_succ, e1]; simp
          · have h9 := O4.out
            rw [← turnQ_cn, HQ3.out] at h9
            exact h9
          · exact ⟨(KI.out.trans ((Kept.of_below hb3).trans K4.out)).os, (KI.out.trans ((Kept.of_below hb3).trans K4.out)).tape, (KI.out.trans ((Kept.of_below hb3).trans K4.out)).output, (KI.out.trans ((Kept.of_below hb3).trans K4.out)).size, fun j hj hne => (KI.out.trans ((Kept.of_below hb3).trans K4.out)).block j hj (fun hm => hne (by simp [Value.ownBlock] at hm ⊢; exact hm))⟩
        case measure => simp [intOf]; omega
    · obtain rfl : i = n := by omega
      have d1 : decide ((i : Int) < (i : Int)) = false := decide_eq_false (by omega)
      go_wp2_with fail
      go_ret
      exact ⟨rfl, OI.out, KI.out⟩

set_option maxRecDepth 100000 in
set_option maxHeartbeats 8000000 in
theorem turnEach_any (v v' : Value) (n m : Nat) (l lk : List Nat) (k : FuncId) (caps : Array Value) (Q : Nat → Nat) (w : World) (h : RowAt w v 2 n (fl l)) (h' : RowAt w v' 1 m (fl lk)) (hcf : ∀ (w1 : World) (x : Value), (callFunc k (#[x] ++ caps)).run Try.prog w1 = .ok (.enter k (#[x] ++ caps)) w1)
    (hof : clocksB n l m lk = true → ∀ i w1, i < n → Below w.heap.size w w1 → Calls Try.prog k (#[.int .i64 (i : Int)] ++ caps) w1 (BF .f32 (Q i) w1)) :
    Calls Try.prog 152 #[.agg #[v, v'], .func (.func k) #[] caps] w (GiveC (cN (clocksB n l m lk && upto (fun j => finB .f32 (Q j)) n) n) (cL (clocksB n l m lk && upto (fun j => finB .f32 (Q j)) n) (turned l Q n)) (cN (clocksB n l m lk && upto (fun j => finB .f32 (Q j)) n) m) (cL (clocksB n l m lk && upto (fun j => finB .f32 (Q j)) n) lk) (clocksB n l m lk && upto (fun j => finB .f32 (Q j)) n) w) := by
  have H := Lib.hid h
  have H' := Lib.hid h'
  have HF := Lib.hid hof
  have hl : l.length = n * 2 := by have := h.1; rwa [fl_length] at this
  have hR : (clocksB n l m lk && upto (fun j => finB .f32 (Q j)) n && clocksB n (turned l Q n) m lk) = (clocksB n l m lk && upto (fun j => finB .f32 (Q j)) n) := by
    cases hc : clocksB n l m lk
    · rfl
    · rw [turned_clocks Q hc hl, Bool.and_true]
  rw [← hR]
  clear h h' hof hR
  obtain ⟨W, hW⟩ : ∃ W, W = w := ⟨_, rfl⟩
  go_enter Try.func152, Try.ntmps152
  go_wp2_with fail
  refine (changedClocks_any v v' n m l lk 173 #[.pointer (some ⟨w.heap.size + 1, 0, none⟩)] (upto (fun j => finB .f32 (Q j)) n) n (turned l Q n) m lk _ ?_ ?_ ?_ ?_).mono ?_
  · refine RowAt.below H.out ?_
    (repeat (first | assumption | (with_reducible exact Below.refl _ _) | (with_reducible refine Below.drewN ?_ _) | (with_reducible refine Below.drew ?_) | (with_reducible refine Below.allocS ?_ _) | ((with_reducible refine Below.setCell ?_ ?_ _); rotate_left; focus (first | omega | (simp; done) | (simp; omega))) | (with_reducible refine Below.step ?_ (by assumption))))
  · refine RowAt.below H'.out ?_
    (repeat (first | assumption | (with_reducible exact Below.refl _ _) | (with_reducible refine Below.drewN ?_ _) | (with_reducible refine Below.drew ?_) | (with_reducible refine Below.allocS ?_ _) | ((with_reducible refine Below.setCell ?_ ?_ _); rotate_left; focus (first | omega | (simp; done) | (simp; omega))) | (with_reducible refine Below.step ?_ (by assumption))))
  · intro w1 x
    simp [go_sem]
  · intro hc B w1 p v0 v1 hB hp HP o0 o1 l0 l1 hb
    obtain ⟨c1, c2, _⟩ := clocks_parts hc
    have hb0 : Below w.heap.size w w1 := by (repeat (first | assumption | (with_reducible exact Below.refl _ _) | (with_reducible refine Below.drewN ?_ _) | (with_reducible refine Below.drew ?_) | (with_reducible refine Below.allocS ?_ _) | ((with_reducible refine Below.setCell ?_ ?_ _); rotate_left; focus (first | omega | (simp; done) | (simp; omega))) | (with_reducible refine Below.step ?_ (by assumption))))
    have hsz := hb.size
    simp at hB hsz
    refine (turnEach1_any v0 v1 n m l lk B p (w.heap.size + 1) k caps Q w w1 o0 HP (Held.below hb (by simp [Held, go_sem])) (by omega) c2 l0 (by omega) (by omega) hb0 hcf (HF.out hc)).mono ?_
    rintro e w2 ⟨rfl, h0, hk⟩
    refine ⟨v0, v1, rfl, ?_, h0, ?_, ?_⟩
    · exact Held_kept1 hk (by simp only [List.mem_cons, List.not_mem_nil, or_false, forall_eq_or_imp, forall_eq]; exact ⟨fun e9 => Nat.lt_irrefl _ (l0 _ e9), fun e9 => Nat.lt_irrefl _ (l0 _ e9)⟩) HP
    · exact ownsRow_kept o1 hk (fun i hi hm => ownsRow_ne o0 o1 tc_ne i (List.mem_singleton.1 hm).symm hi)
    · exact ⟨hk.os, hk.tape, hk.output, hk.size, fun j hj hne => hk.block j hj (fun hm => hne (by simp at hm ⊢; simp [hm]))⟩
  rintro e w4 ⟨u0, u1, rfl, ou0, ou1, une, hb4⟩
  obtain ⟨a0, k0, d0, rfl⟩ := ownsRow_shape ou0
  obtain ⟨a1, k1, d1, rfl⟩ := ownsRow_shape ou1
  have hk4 := Held.below hb4 (l := [(⟨w.heap.size + 1 + 1, 0, none⟩, .slice none 0 0), (⟨w.heap.size + 1 + 1, 1, none⟩, .slice none 0 0)]) (by simp [Held, go_sem])
  simp only [Held, and_true] at hk4
  have OU0 := Lib.hid ou0
  have OU1 := Lib.hid ou1
  clear ou0 ou1
  go_wp2_with fail
  refine bodyPost_ret (v := ?_) (by first | (simp [results, Try.results152, go_sem, *]; rfl) | (simp [results, Try.results152, go_sem, *]; done)) rfl ?_
  refine ⟨_, _, rfl, ?_, ?_, une, ?_⟩
  · refine ownsRow_base (base := w.heap.size + 1 + 1 + 1) (by omega) ?_
    have := OU0.out
    (repeat (first | (with_reducible refine World.ownsRow.alloc ?_ _) | (with_reducible refine ownsRow_drewN ?_ _) | ((with_reducible refine ownsRow_setCell_below ?_ ?_ _); rotate_left; focus (first | omega | (simp; done) | (simp; omega)))))
    simpa using this
  · refine ownsRow_base (base := w.heap.size + 1 + 1 + 1) (by omega) ?_
    have := OU1.out
    (repeat (first | (with_reducible refine World.ownsRow.alloc ?_ _) | (with_reducible refine ownsRow_drewN ?_ _) | ((with_reducible refine ownsRow_setCell_below ?_ ?_ _); rotate_left; focus (first | omega | (simp; done) | (simp; omega)))))
    simpa using this
  · (repeat (first | assumption | (with_reducible exact Below.refl _ _) | (with_reducible refine Below.drewN ?_ _) | (with_reducible refine Below.drew ?_) | (with_reducible refine Below.allocS ?_ _) | ((with_reducible refine Below.setCell ?_ ?_ _); rotate_left; focus (first | omega | (simp; done) | (simp; omega))) | (with_reducible refine Below.step ?_ (by assumption))))

end Go.Proofs.Ytbmabpnolheghaa
