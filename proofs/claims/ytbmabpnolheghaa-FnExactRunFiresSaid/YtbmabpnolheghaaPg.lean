/-
  The walk of the program's FireNext.
-/
import Derived.Test.YtbmabpnolheghaaPd
import Derived.Test.YtbmabpnolheghaaPf
set_option linter.unusedVariables false
set_option linter.unusedSimpArgs false
namespace Go.Proofs.Ytbmabpnolheghaa
open Go.RowKit

theorem levelOkC_any (y : Nat) (w : World) : Calls Try.prog 105 #[.float .f32 y] w (RB (levelB y) w) := by
  cases h1 : finB .f32 y <;> cases h2 : geF .f32 y 0
  all_goals
    go_enter Try.func105, Try.ntmps105
    go_wp2_with (first | (go_at_call 79; refine (IsFinite_any _ _).mono ?_; rintro e w' ⟨n9, rfl, rfl⟩))
    go_ret
    exact ⟨_, ret_bool (by unfold levelB; simp [*]), rfl⟩

theorem kept_over {w a b : World} {g ql qt : Nat} (h : Below w.heap.size w a) (k : Kept a b [some g, some ql, some qt]) (hg : w.heap.size ≤ g) : Kept w b [some ql, some qt] :=
  ⟨k.os.trans h.os, k.tape.trans h.tape, k.output.trans h.output, Nat.le_trans h.size k.size, fun i hi hne => (k.block i (Nat.lt_of_lt_of_le hi h.size) (fun hm => hne (by simp at hm ⊢; omega))).trans (h.block i hi)⟩
theorem kept_after {w b w' : World} {r : List (Option Nat)} (k : Kept w b r) (h : Below w.heap.size b w') (hz : b.heap.size ≤ w'.heap.size) : Kept w w' r :=
  ⟨h.os.trans k.os, h.tape.trans k.tape, h.output.trans k.output, Nat.le_trans k.size hz, fun i hi hne => (h.block i hi).trans (k.block i hi hne)⟩
theorem Kept.more9 {w w' : World} {r s : List (Option Nat)} (k : Kept w w' r) (h : ∀ x, x ∈ r → x ∈ s) : Kept w w' s := ⟨k.os, k.tape, k.output, k.size, fun i hi hne => k.block i hi (fun hm => hne (h _ hm))⟩
theorem held_many {w w' : World} {r : List (Option Nat)} {l : List (Addr × Value)} (k : Kept w w' r) (h : Held l w) (hl : ∀ q ∈ l, some q.1.block ∉ r) : Held l w' := Held_kept k hl h

set_option maxRecDepth 100000 in
set_option maxHeartbeats 8000000 in
theorem fire1_any (v1 : Value) (n cap g p qj ql qt J Bc : Nat) (x9 y9 : Value) (l : List Nat) (w : World) (ho : w.ownsRow Bc 113 2 (.slice (some ⟨g, 0, none⟩) n cap) n (fl l)) (hp : Held [(⟨p, 0, none⟩, .slice (some ⟨g, 0, none⟩) n cap), (⟨p, 1, none⟩, v1)] w) (hq : Held [(⟨qj, 0, none⟩, .float .f32 J), (⟨ql, 0, none⟩, x9), (⟨qt, 0, none⟩, y9)] w) (hpg : p ≠ g) (h1 : ql ≠ p) (h2 : qt ≠ p) (h3 : ql ≠ qt) (h4 : ql ≠ g) (h5 : qt ≠ g) (hn0 : 0 < n) (hn : n ≤ 12) (hf : ∀ i, i < n → finB .f32 (turnAt l i) = true) :
    Calls Try.prog 114 #[.pointer (some ⟨p, 0, none⟩), .pointer (some ⟨qj, 0, none⟩), .pointer (some ⟨ql, 0, none⟩), .pointer (some ⟨qt, 0, none⟩)] w fun e w' => e = .returned (.bool (levelB J)) ∧ Held [(⟨p, 0, none⟩, .slice (some ⟨g, 0, none⟩) n cap), (⟨p, 1, none⟩, v1)] w' ∧ Kept w w' [some g, some ql, some qt] ∧ (levelB J = true → w'.ownsRow Bc 113 2 (.slice (some ⟨g, 0, none⟩) n cap) n (fl (fireL l n J)) ∧ ∃ gl cl, Held [(⟨ql, 0, none⟩, (.slice (some ⟨gl, 0, none⟩) (firedF l n J).2.length cl)), (⟨qt, 0, none⟩, .float .f32 (timeQ l n))] w' ∧ w'.ownsRow w.heap.size 2 1 (.slice (some ⟨gl, 0, none⟩) (firedF l n J).2.length cl) (firedF l n J).2.length (il (fireO l n J))) := by
  have HP := Lib.hid hp
  have HQ := Lib.hid hq
  have HO := Lib.hid ho
  have hlq : ql < w.heap.size := hq.2.1.1
  have htq : qt < w.heap.size := hq.2.2.1.1
  simp only [Held, and_true] at hp hq
  clear ho
  cases hj : levelB J
  · go_enter Try.func114, Try.ntmps114
    go_wp2_with (first | (go_at_call 105; refine (levelOkC_any _ _).mono ?_; rintro e w' ⟨n9, rfl, rfl⟩; rw [hj]))
    go_ret
    exact ⟨rfl, HP.out, (kept_below1 (g := g) (below_drewN _)).more9 (by simp), fun h => by cases h⟩
  · have hJ := level_fin hj
    go_enter Try.func114, Try.ntmps114
    go_wp2_with (first | (go_at_call 105; refine (levelOkC_any _ _).mono ?_; rintro e w' ⟨n9, rfl, rfl⟩; rw [hj]))
    refine (implFire_any v1 n cap g p J Bc l _ (ownsRow_drewN HO.out _) HP.out hpg hn0 hn hf hJ).mono ?_
    rintro e w6 ⟨gl, cl, rfl, ol, oc, hk⟩
    have hq6 := held_many hk (l := [(⟨ql, 0, none⟩, x9), (⟨qt, 0, none⟩, y9)]) ⟨HQ.out.2.1, HQ.out.2.2.1, trivial⟩ (fun q9 hq9 hm => by
      have h9 := List.mem_singleton.1 hm
      simp only [List.mem_cons, List.not_mem_nil, or_false] at hq9
      rcases hq9 with rfl | rfl <;> (dsimp only at h9; cases h9; omega))
    have hp6 := Lib.hid (held_over hk hpg HP.out)
    have OL := Lib.hid ol
    have OC := Lib.hid oc
    have hgl := (ownsRow_lt ol gl rfl).1
    simp only [World.heap_drewN] at hgl
    simp only [Held, and_true] at hq6
    obtain ⟨w8, hw8⟩ : ∃ w8, w8 = (w6.setCell ⟨ql, 0, none⟩ (.slice (some ⟨gl, 0, none⟩) (firedF l n J).2.length cl)).setCell ⟨qt, 0, none⟩ (.float .f32 (timeQ l n)) := ⟨_, rfl⟩
    have K8 : Kept w6 w8 [some ql, some qt] := by
      rw [hw8]
      exact (kept_one _ _ _ _).trans (kept_one _ _ _ _)
    have T8 : Hid (Held [(⟨ql, 0, none⟩, (.slice (some ⟨gl, 0, none⟩) (firedF l n J).2.length cl)), (⟨qt, 0, none⟩, .float .f32 (timeQ l n))] w8) := by
      show Held _ _
      rw [hw8]
      simp [Held, go_sem, *]
    have C8 : Hid (w8.ownsRow Bc 113 2 (.slice (some ⟨g, 0, none⟩) n cap) n (fl (fireL l n J))) := ownsRow_kept OC.out K8 (fun r hr hm => by
      have h8 := own_some hr
      simp only [List.mem_cons, List.not_mem_nil, or_false] at hm
      rcases hm with h9 | h9 <;> (cases h9; omega))
    have L8 : Hid (w8.ownsRow w.heap.size 2 1 (.slice (some ⟨gl, 0, none⟩) (firedF l n J).2.length cl) (firedF l n J).2.length (il (fireO l n J))) := ownsRow_kept OL.out K8 (fun r hr hm => by
      have h8 := own_some hr
      simp only [List.mem_cons, List.not_mem_nil, or_false] at hm
      rcases hm with h9 | h9 <;> (cases h9; omega))
    have P8 : Hid (Held [(⟨p, 0, none⟩, .slice (some ⟨g, 0, none⟩) n cap), (⟨p, 1, none⟩, v1)] w8) := held_many K8 hp6.out (fun q9 hq9 hm => by
      simp only [List.mem_cons, List.not_mem_nil, or_false] at hm hq9
      rcases hq9 with rfl | rfl <;> (dsimp only at hm; rcases hm with h9 | h9 <;> (cases h9; omega)))
    have KK : Hid (Kept w w8 [some g, some ql, some qt]) := ⟨K8.os.trans hk.os, K8.tape.trans hk.tape, K8.output.trans hk.output, Nat.le_trans hk.size K8.size, fun i hi hne => (K8.block i (Nat.lt_of_lt_of_le hi hk.size) (fun hm => hne (by simp at hm ⊢; omega))).trans (hk.block i hi (fun hm => hne (by simp at hm ⊢; omega)))⟩
    clear ol oc K8 hk
    go_wp2_with fail
    go_ret
    rw [← hw8]
    exact ⟨rfl, P8.out, KK.out, fun _ => ⟨C8.out, gl, cl, T8.out, L8.out⟩⟩

set_option maxRecDepth 100000 in
set_option maxHeartbeats 8000000 in
theorem changedFire_any (v v' : Value) (n m : Nat) (l lk : List Nat) (J qj ql qt : Nat) (x9 y9 : Value) (w : World) (h : RowAt w v 2 n (fl l)) (h' : RowAt w v' 1 m (fl lk)) (hq : Held [(⟨qj, 0, none⟩, .float .f32 J), (⟨ql, 0, none⟩, x9), (⟨qt, 0, none⟩, y9)] w) (h3 : ql ≠ qt) :
    Calls Try.prog 113 #[.agg #[v, v'], .func (.func 114) #[] #[.pointer (some ⟨qj, 0, none⟩), .pointer (some ⟨ql, 0, none⟩), .pointer (some ⟨qt, 0, none⟩)]] w (fun e w' => ∃ u0 u1, e = .returned (.tuple #[.agg #[u0, u1], .bool (fireB n l m lk J)]) ∧ w'.ownsRow w.heap.size 113 2 u0 (cN (fireB n l m lk J) n) (fl (cL (fireB n l m lk J) (fireL l n J))) ∧ w'.ownsRow w.heap.size 23 1 u1 (cN (fireB n l m lk J) m) (fl (cL (fireB n l m lk J) lk)) ∧ ((fireB n l m lk J) = true → ∃ gl cl, Held [(⟨ql, 0, none⟩, (.slice (some ⟨gl, 0, none⟩) (firedF l n J).2.length cl)), (⟨qt, 0, none⟩, .float .f32 (timeQ l n))] w' ∧ w'.ownsRow w.heap.size 2 1 (.slice (some ⟨gl, 0, none⟩) (firedF l n J).2.length cl) (firedF l n J).2.length (il (fireO l n J))) ∧ Kept w w' [some ql, some qt]) := by
  have H := Lib.hid h
  have H' := Lib.hid h'
  have HQ := Lib.hid hq
  have hjq : qj < w.heap.size := hq.1.1
  have hlq : ql < w.heap.size := hq.2.1.1
  have htq : qt < w.heap.size := hq.2.2.1.1
  clear h h' hq
  cases hc : clocksB n l m lk
  · rw [show fireB n l m lk J = false by unfold fireB; rw [hc, Bool.false_and, Bool.false_and]]
    go_enter Try.func113, Try.ntmps113
    go_wp2_with (first | (go_at_call 29; refine (implValidClocks_any v v' n m l lk _ ?_ ?_).mono ?_; (focus (refine RowAt.below H.out ?_; (repeat (first | assumption | (with_reducible exact Below.refl _ _) | (with_reducible refine Below.drewN ?_ _) | (with_reducible refine Below.drew ?_) | (with_reducible refine Below.allocS ?_ _) | ((with_reducible refine Below.setCell ?_ ?_ _); rotate_left; focus (first | omega | (simp; done) | (simp; omega))) | (with_reducible refine Below.step ?_ (by assumption)))); done)); (focus (refine RowAt.below H'.out ?_; (repeat (first | assumption | (with_reducible exact Below.refl _ _) | (with_reducible refine Below.drewN ?_ _) | (with_reducible refine Below.drew ?_) | (with_reducible refine Below.allocS ?_ _) | ((with_reducible refine Below.setCell ?_ ?_ _); rotate_left; focus (first | omega | (simp; done) | (simp; omega))) | (with_reducible refine Below.step ?_ (by assumption)))); done)); rintro e w1 ⟨rfl, hb⟩; rw [hc]; have hk := Held.below hb (l := [(⟨w.heap.size, 0, none⟩, v), (⟨w.heap.size, 1, none⟩, v'), (⟨w.heap.size + 1, 0, none⟩, .slice none 0 0), (⟨w.heap.size + 1, 1, none⟩, .slice none 0 0)]) (by simp [Held, go_sem]); simp only [Held, and_true] at hk))
    refine bodyPost_ret (v := ?_) (by first | (simp [results, Try.results113, go_sem, *]; rfl) | (simp [results, Try.results113, go_sem, *]; done)) rfl ?_
    refine ⟨_, _, rfl, ownsRow_nil', ownsRow_nil', (fun h9 => by cases h9), ?_⟩
    have hB9 : Below w.heap.size w w1 := by (repeat (first | assumption | (with_reducible exact Below.refl _ _) | (with_reducible refine Below.drewN ?_ _) | (with_reducible refine Below.drew ?_) | (with_reducible refine Below.allocS ?_ _) | ((with_reducible refine Below.setCell ?_ ?_ _); rotate_left; focus (first | omega | (simp; done) | (simp; omega))) | (with_reducible refine Below.step ?_ (by assumption))))
    refine Kept.more9 (kept_below1 (g := ql) ?_) (by simp)
    (repeat (first | assumption | (with_reducible exact Below.refl _ _) | (with_reducible refine Below.drewN ?_ _) | (with_reducible refine Below.drew ?_) | (with_reducible refine Below.allocS ?_ _) | ((with_reducible refine Below.setCell ?_ ?_ _); rotate_left; focus (first | omega | (simp; done) | (simp; omega))) | (with_reducible refine Below.step ?_ (by assumption))))
  obtain ⟨c1, c2, c3, c4, c5⟩ := clocks_parts hc
  have hf : ∀ i, i < n → finB .f32 (turnAt l i) = true := fun k hk => okClock_fin hc hk
  have HF := Lib.hid hf
  have hm0 : 0 < m := by have := Nat.mul_pos c1 c1; omega
  have hm9 : m ≤ 144 := by have := sq_small c2; omega
  clear c4 c3 c5 hf
  go_enter Try.func113, Try.ntmps113
  go_wp2_with (first | (go_at_call 29; refine (implValidClocks_any v v' n m l lk _ ?_ ?_).mono ?_; (focus (refine RowAt.below H.out ?_; (repeat (first | assumption | (with_reducible exact Below.refl _ _) | (with_reducible refine Below.drewN ?_ _) | (with_reducible refine Below.drew ?_) | (with_reducible refine Below.allocS ?_ _) | ((with_reducible refine Below.setCell ?_ ?_ _); rotate_left; focus (first | omega | (simp; done) | (simp; omega))) | (with_reducible refine Below.step ?_ (by assumption)))); done)); (focus (refine RowAt.below H'.out ?_; (repeat (first | assumption | (with_reducible exact Below.refl _ _) | (with_reducible refine Below.drewN ?_ _) | (with_reducible refine Below.drew ?_) | (with_reducible refine Below.allocS ?_ _) | ((with_reducible refine Below.setCell ?_ ?_ _); rotate_left; focus (first | omega | (simp; done) | (simp; omega))) | (with_reducible refine Below.step ?_ (by assumption)))); done)); rintro e w1 ⟨rfl, hb⟩; rw [hc]; have hk := Held.below hb (l := [(⟨w.heap.size, 0, none⟩, v), (⟨w.heap.size, 1, none⟩, v'), (⟨w.heap.size + 1, 0, none⟩, .slice none 0 0), (⟨w.heap.size + 1, 1, none⟩, .slice none 0 0)]) (by simp [Held, go_sem]); simp only [Held, and_true] at hk))
  have hBw1 : Below w.heap.size w w1 := by (repeat (first | assumption | (with_reducible exact Below.refl _ _) | (with_reducible refine Below.drewN ?_ _) | (with_reducible refine Below.drew ?_) | (with_reducible refine Below.allocS ?_ _) | ((with_reducible refine Below.setCell ?_ ?_ _); rotate_left; focus (first | omega | (simp; done) | (simp; omega))) | (with_reducible refine Below.step ?_ (by assumption))))
  go_wp2_with (first | (go_at_call 106; refine (cloneClocks_any v v' n m l lk _ ?_ ?_ (by omega) hm0 (by omega) (by omega)).mono ?_; (focus (refine RowAt.below H.out ?_; (repeat (first | assumption | (with_reducible exact Below.refl _ _) | (with_reducible refine Below.drewN ?_ _) | (with_reducible refine Below.drew ?_) | (with_reducible refine Below.allocS ?_ _) | ((with_reducible refine Below.setCell ?_ ?_ _); rotate_left; focus (first | omega | (simp; done) | (simp; omega))) | (with_reducible refine Below.step ?_ (by assumption)))); done)); (focus (refine RowAt.below H'.out ?_; (repeat (first | assumption | (with_reducible exact Below.refl _ _) | (with_reducible refine Below.drewN ?_ _) | (with_reducible refine Below.drew ?_) | (with_reducible refine Below.allocS ?_ _) | ((with_reducible refine Below.setCell ?_ ?_ _); rotate_left; focus (first | omega | (simp; done) | (simp; omega))) | (with_reducible refine Below.step ?_ (by assumption)))); done))))
  rintro e w2 ⟨v0, v1, rfl, ow0, ow1, b2⟩
  obtain ⟨g, cg, rfl⟩ := ownsRow_own ow0 (by omega)
  obtain ⟨gb, cb, rfl⟩ := ownsRow_own ow1 (by omega)
  have hk2 := Held.below b2 (l := [(⟨w.heap.size, 0, none⟩, v), (⟨w.heap.size, 1, none⟩, v'), (⟨w.heap.size + 1, 0, none⟩, .slice none 0 0), (⟨w.heap.size + 1, 1, none⟩, .slice none 0 0)]) (by simp [Held, go_sem, *])
  have HK2 := Lib.hid hk2
  simp only [Held, and_true] at hk hk2
  have hn1 : w.heap.size + 1 < w1.heap.size := by omega
  have hn2 : w1.heap.size ≤ w2.heap.size := b2.size
  have hBw2 : Below w.heap.size w w2 := by (repeat (first | assumption | (with_reducible exact Below.refl _ _) | (with_reducible refine Below.drewN ?_ _) | (with_reducible refine Below.drew ?_) | (with_reducible refine Below.allocS ?_ _) | ((with_reducible refine Below.setCell ?_ ?_ _); rotate_left; focus (first | omega | (simp; done) | (simp; omega))) | (with_reducible refine Below.step ?_ (by assumption))))
  have hg := ownsRow_lt ow0 g rfl
  have hgb := ownsRow_lt ow1 gb rfl
  have hne := ownsRow_ne ow0 ow1 tc_ne
  have X0 := Lib.hid ow0
  have X1 := Lib.hid ow1
  clear ow0 ow1
  go_wp2_with fail
  obtain ⟨w3, hw3⟩ : ∃ w3, w3 = w2.alloc (.cells #[.slice (some ⟨g, 0, none⟩) n cg, (.slice (some ⟨gb, 0, none⟩) m cb)] 49) := ⟨_, rfl⟩
  rw [← hw3]
  have hB3 : Below w.heap.size w w3 := by rw [hw3]; (repeat (first | assumption | (with_reducible exact Below.refl _ _) | (with_reducible refine Below.drewN ?_ _) | (with_reducible refine Below.drew ?_) | (with_reducible refine Below.allocS ?_ _) | ((with_reducible refine Below.setCell ?_ ?_ _); rotate_left; focus (first | omega | (simp; done) | (simp; omega))) | (with_reducible refine Below.step ?_ (by assumption))))
  have hz3 : w3.heap.size = w2.heap.size + 1 := by rw [hw3]; simp
  have hp3 : Held [(⟨w2.heap.size, 0, none⟩, .slice (some ⟨g, 0, none⟩) n cg), (⟨w2.heap.size, 1, none⟩, (.slice (some ⟨gb, 0, none⟩) m cb))] w3 := by rw [hw3]; simp [Held, go_sem]
  have hr3 : Held [(⟨w.heap.size + 1, 0, none⟩, .slice none 0 0), (⟨w.heap.size + 1, 1, none⟩, .slice none 0 0)] w3 := by rw [hw3]; simp [Held, go_sem, *]
  have hs3 : w3.ownsRow w1.heap.size 113 2 (.slice (some ⟨g, 0, none⟩) n cg) n (fl l) := by rw [hw3]; exact X0.out.alloc _
  have Z1 : Hid (w3.ownsRow w1.heap.size 23 1 (.slice (some ⟨gb, 0, none⟩) m cb) m (fl lk)) := by show World.ownsRow _ _ _ _ _ _ _; rw [hw3]; exact X1.out.alloc _
  clear hw3
  refine (fire1_any (.slice (some ⟨gb, 0, none⟩) m cb) n cg g w2.heap.size qj ql qt J _ x9 y9 l w3 hs3 hp3 (Held.below hB3 HQ.out) (by omega) (by omega) (by omega) h3 (by omega) (by omega) c1 c2 HF.out).mono ?_
  rintro e w4 ⟨rfl, hp4, k4, hpost⟩
  have KW := Lib.hid (kept_over hB3 k4 (by omega))
  have hr4 := held_many k4 hr3 (fun q9 hq9 hm => by
    simp only [List.mem_cons, List.not_mem_nil, or_false] at hm hq9
    rcases hq9 with rfl | rfl <;> (dsimp only at hm; rcases hm with h9 | h9 | h9 <;> (cases h9; omega)))
  have hz4 := k4.size
  have Y1 : Hid (w4.ownsRow w1.heap.size 23 1 (.slice (some ⟨gb, 0, none⟩) m cb) m (fl lk)) := ownsRow_kept Z1.out k4 (fun r hr hm => by
    have h8 := own_some hr
    simp only [List.mem_cons, List.not_mem_nil, or_false] at hm
    rcases hm with h9 | h9 | h9
    · cases h9; exact hne g rfl hr
    · cases h9; omega
    · cases h9; omega)
  simp only [Held, and_true] at hp4 hr4
  clear hp3 hr3 hs3 k4
  cases hj : levelB J
  · rw [hj] at hpost
    clear hpost
    go_wp2_with fail
    refine bodyPost_ret (v := ?_) (by first | (simp [results, Try.results113, go_sem, *]; rfl) | (simp [results, Try.results113, go_sem, *]; done)) rfl ?_
    rw [show fireB n l m lk J = false by unfold fireB; rw [hc, hj]; rfl]
    refine ⟨_, _, rfl, ownsRow_nil', ownsRow_nil', (fun h9 => by cases h9), kept_after KW.out ?_ ?_⟩
    · (repeat (first | assumption | (with_reducible exact Below.refl _ _) | (with_reducible refine Below.drewN ?_ _) | (with_reducible refine Below.drew ?_) | (with_reducible refine Below.allocS ?_ _) | ((with_reducible refine Below.setCell ?_ ?_ _); rotate_left; focus (first | omega | (simp; done) | (simp; omega))) | (with_reducible refine Below.step ?_ (by assumption))))
    · simp
  obtain ⟨oc, gl, cl, ht, ol⟩ := hpost hj
  have HT4 := Lib.hid ht
  have OL := Lib.hid ol
  have Y0 := Lib.hid oc
  have hFB : fireB n l m lk J = clocksB n (fireL l n J) m lk := by unfold fireB; rw [hc, hj]; rfl
  clear oc ht ol hpost
  cases hv : clocksB n (fireL l n J) m lk
  · go_wp2_with (first | (go_at_call 29; refine (implValidClocks_any _ _ n m (fireL l n J) lk _ (ownsRow_rowAt Y0.out) (ownsRow_rowAt Y1.out)).mono ?_; rintro e w5 ⟨rfl, hb5⟩; rw [hv]; have hk4 := Held.below hb5 (l := [(⟨w.heap.size + 1, 0, none⟩, .slice none 0 0), (⟨w.heap.size + 1, 1, none⟩, .slice none 0 0), (⟨w2.heap.size, 0, none⟩, .slice (some ⟨g, 0, none⟩) n cg), (⟨w2.heap.size, 1, none⟩, (.slice (some ⟨gb, 0, none⟩) m cb))]) (by simp [Held, go_sem, *]); simp only [Held, and_true] at hk4))
    refine bodyPost_ret (v := ?_) (by first | (simp [results, Try.results113, go_sem, *]; rfl) | (simp [results, Try.results113, go_sem, *]; done)) rfl ?_
    rw [hFB, hv]
    refine ⟨_, _, rfl, ownsRow_nil', ownsRow_nil', (fun h9 => by cases h9), kept_after KW.out ?_ ?_⟩
    · have hb9 : Below w.heap.size w4 _ := hb5.mono (by omega)
      (repeat (first | assumption | (with_reducible exact Below.refl _ _) | (with_reducible refine Below.drewN ?_ _) | (with_reducible refine Below.drew ?_) | (with_reducible refine Below.allocS ?_ _) | ((with_reducible refine Below.setCell ?_ ?_ _); rotate_left; focus (first | omega | (simp; done) | (simp; omega))) | (with_reducible refine Below.step ?_ (by assumption))))
    · have := hb5.size
      simp
      omega
  · go_wp2_with (first | (go_at_call 29; refine (implValidClocks_any _ _ n m (fireL l n J) lk _ (ownsRow_rowAt Y0.out) (ownsRow_rowAt Y1.out)).mono ?_; rintro e w5 ⟨rfl, hb5⟩; rw [hv]; have hk4 := Held.below hb5 (l := [(⟨w.heap.size + 1, 0, none⟩, .slice none 0 0), (⟨w.heap.size + 1, 1, none⟩, .slice none 0 0), (⟨w2.heap.size, 0, none⟩, .slice (some ⟨g, 0, none⟩) n cg), (⟨w2.heap.size, 1, none⟩, (.slice (some ⟨gb, 0, none⟩) m cb))]) (by simp [Held, go_sem, *]); simp only [Held, and_true] at hk4))
    have T5 := Lib.hid (Held.below hb5 HT4.out)
    have L5 := Lib.hid (ownsRow_below OL.out hb5)
    have Z0' := Lib.hid (ownsRow_below Y0.out hb5)
    have Z1' := Lib.hid (ownsRow_below Y1.out hb5)
    have hz5 := hb5.size
    have hgl := (ownsRow_lt OL.out gl rfl).1
    refine bodyPost_ret (v := ?_) (by first | (simp [results, Try.results113, go_sem, *]; rfl) | (simp [results, Try.results113, go_sem, *]; done)) rfl ?_
    rw [hFB, hv]
    refine ⟨_, _, rfl, ?_, ?_, fun _ => ⟨gl, cl, ?_, ?_⟩, kept_after KW.out ?_ ?_⟩
    · refine ownsRow_base (base := w.heap.size + 1 + 1) (by omega) ?_
      have := ownsRow_base (base' := w.heap.size + 1 + 1) (by omega) Z0'.out
      (repeat (first | (with_reducible refine World.ownsRow.alloc ?_ _) | (with_reducible refine ownsRow_drewN ?_ _) | ((with_reducible refine ownsRow_setCell_below ?_ ?_ _); rotate_left; focus (first | omega | (simp; done) | (simp; omega)))))
      exact this
    · refine ownsRow_base (base := w.heap.size + 1 + 1) (by omega) ?_
      have := ownsRow_base (base' := w.heap.size + 1 + 1) (by omega) Z1'.out
      (repeat (first | (with_reducible refine World.ownsRow.alloc ?_ _) | (with_reducible refine ownsRow_drewN ?_ _) | ((with_reducible refine ownsRow_setCell_below ?_ ?_ _); rotate_left; focus (first | omega | (simp; done) | (simp; omega)))))
      exact this
    · have hT5 := T5.out
      simp only [Held, and_true] at hT5
      simp [Held, go_sem, *]
      try omega
    · refine ownsRow_base (base := w.heap.size + 1 + 1) (by omega) ?_
      have := ownsRow_base (base' := w.heap.size + 1 + 1) (by omega) L5.out
      (repeat (first | (with_reducible refine World.ownsRow.alloc ?_ _) | (with_reducible refine ownsRow_drewN ?_ _) | ((with_reducible refine ownsRow_setCell_below ?_ ?_ _); rotate_left; focus (first | omega | (simp; done) | (simp; omega)))))
      exact this
    · have hb9 : Below w.heap.size w4 _ := hb5.mono (by omega)
      (repeat (first | assumption | (with_reducible exact Below.refl _ _) | (with_reducible refine Below.drewN ?_ _) | (with_reducible refine Below.drew ?_) | (with_reducible refine Below.allocS ?_ _) | ((with_reducible refine Below.setCell ?_ ?_ _); rotate_left; focus (first | omega | (simp; done) | (simp; omega))) | (with_reducible refine Below.step ?_ (by assumption))))
    · simp
      omega

end Go.Proofs.Ytbmabpnolheghaa
