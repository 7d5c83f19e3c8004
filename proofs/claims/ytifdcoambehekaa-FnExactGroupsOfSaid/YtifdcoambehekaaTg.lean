/-
  The walks of clocks whose turns are laid: TurnAll, KickClocks.
-/
import Derived.Test.YtifdcoambehekaaTf
set_option linter.unusedVariables false
set_option linter.unusedSimpArgs false
namespace Go.Proofs.Ytifdcoambehekaa
open Go.RowKit

theorem Kept.trans1 {a b c : World} {x : Option Nat} (h : Kept a b [x]) (k : Kept b c [x]) : Kept a c [x] :=
  ⟨k.os.trans h.os, k.tape.trans h.tape, k.output.trans h.output, Nat.le_trans h.size k.size, fun i hi hne => (k.block i (Nat.lt_of_lt_of_le hi h.size) hne).trans (h.block i hi hne)⟩
theorem Kept.below1 {a b c : World} {x : Option Nat} (h : Kept a b [x]) (k : Below b.heap.size b c) : Kept a c [x] :=
  ⟨k.os.trans h.os, k.tape.trans h.tape, k.output.trans h.output, Nat.le_trans h.size k.size, fun i hi hne => (k.block i (Nat.lt_of_lt_of_le hi h.size)).trans (h.block i hi hne)⟩
theorem Kept.refl1 (a : World) (x : Option Nat) : Kept a a [x] := ⟨rfl, rfl, rfl, Nat.le_refl _, fun _ _ _ => rfl⟩
/-- The turn of clock 'i' and a number. -/
def turnAllQ (l : List Nat) (y i : Nat) : Nat := fbin .add .f32 (cn .f32 (l.getD (i * 2) 0)) (cn .f32 y)
/-- The turn of clock 'i', kicked. -/
def kickQ (l : List Nat) (y i : Nat) : Nat := fbin .add .f32 (cn .f32 (l.getD (i * 2) 0)) (fbin .mul .f32 (cn .f32 y) (sineQ (cn .f32 (l.getD (i * 2) 0))))

set_option maxRecDepth 100000 in
set_option maxHeartbeats 8000000 in
theorem TurnAll1_any (v v' : Value) (n : Nat) (l : List Nat) (p q y i : Nat) (w : World) (h : RowAt w v 2 n (fl l)) (hp : Held [(⟨p, 0, none⟩, v), (⟨p, 1, none⟩, v')] w) (hq : Held [(⟨q, 0, none⟩, .float .f32 y)] w) (hi : i < n) (hn : n ≤ 12) : Calls Try.prog 87 #[.int .i64 (i : Int), .pointer (some ⟨p, 0, none⟩), .pointer (some ⟨q, 0, none⟩)] w (BF .f32 (turnAllQ l y i) w) := by
  obtain ⟨h1, h2, ao, cap, rfl, h3⟩ := h
  obtain ⟨b, o, rfl, hbl, hcell⟩ := h3.resolve_left (by omega)
  rw [fl_length] at h1
  obtain ⟨x0, hx0⟩ : ∃ x, Hid (l.getD (i * 2) 0 = x) := ⟨_, rfl⟩
  have f0 := hcell (i * 2) (.float .f32 x0) (by rw [← hx0.out]; exact fl_get (by omega))
  simp only [Held, and_true] at hp hq
  clear hcell h3
  go_enter Try.func87, Try.ntmps87
  go_wp2_with fail
  refine region_calmA w w.heap.size [(⟨p, 0, none⟩, .slice (some ⟨b, o, none⟩) n cap), (⟨p, 1, none⟩, v'), (⟨q, 0, none⟩, .float .f32 y), (⟨b, o + i * 2, none⟩, .float .f32 x0)] (fun f args v => ∃ r, v = .float .f32 r ∧ cn .f32 r = sineQ (cn .f32 (argF args 0 0))) [] (by kernel_rfl) (by kernel_rfl) (by kernel_rfl) ⟨⟨by simp [Held, go_sem, *], by (repeat (first | (with_reducible exact Below.refl _ _) | (with_reducible refine Below.drewN ?_ _) | (with_reducible refine Below.drew ?_) | (with_reducible refine Below.allocS ?_ _) | ((with_reducible refine Below.setCell ?_ ?_ _); rotate_left; focus (first | omega | (simp; done) | (simp; omega))) | (with_reducible refine Below.step ?_ (by assumption))))⟩, by (first | (simp; done) | (simp; omega) | omega)⟩ ?_
  repeat (first | (first | (refine calmA_plain rfl rfl ?_ (fun K hK w1 hC => ?_); (focus (intro _ _; simp [RA]; done)); have hC' := hC.1.1; simp only [Held, and_true] at hC'; go_wp2_with (first | (refine wpList_fbin rfl rfl rfl rfl rfl (fun r n9 hr => ?_)) | (refine wpList_widen rfl rfl Try.underlying44 Try.underlying22 rfl (fun r n9 hr => ?_))); refine ⟨rfl, (by first | exact Below.refl _ _ | exact below_drewN _), hK _ ?_⟩; clear hC hC' hK K w1) | (refine calmA_check rfl rfl rfl ?_ ?_; (focus (intro _ _; simp [RA]; done)))) | (refine calmA_call (f := 96) (args := _) rfl ?_ (by (intro w1; simp [execOp, resolve, invoke, go_sem]; with_reducible rfl)) (fun w1 hC => ?_) ?_; (focus (intro _ _; simp [RA]; done)); (focus (refine (SineTurns_any _ _).mono ?_; rintro e w2 ⟨r, n9, rfl, hq, rfl⟩; exact ⟨_, rfl, ⟨r, rfl, by simp [argF]; exact hq⟩, below_drewN _⟩)); rintro v9 hv; simp [argF] at hv; obtain ⟨rr, rfl, hq⟩ := hv; have HRR := Lib.hid hq; clear hq))
  refine calmA_nil ?_
  intro w' hC hF
  have hC' := hC.1.1
  have hB1 : Below w.heap.size w w' := hC.1.2
  simp only [Held, and_true] at hC'
  clear hC hF
  go_wp2_with fail
  go_ret
  refine ⟨_, rfl, ?_, by (repeat (first | assumption | (with_reducible exact Below.refl _ _) | (with_reducible refine Below.drewN ?_ _) | (with_reducible refine Below.drew ?_) | (with_reducible refine Below.allocS ?_ _) | ((with_reducible refine Below.setCell ?_ ?_ _); rotate_left; focus (first | omega | (simp; done) | (simp; omega))) | (with_reducible refine Below.step ?_ (by assumption))))⟩
  show _ = turnAllQ l y i; unfold turnAllQ; rw [hx0.out]; simp only [Hid] at *; simp only [*]

set_option maxRecDepth 100000 in
set_option maxHeartbeats 8000000 in
theorem implTurnAll_any (v v' : Value) (n m : Nat) (l lk : List Nat) (y : Nat) (w : World) (h : RowAt w v 2 n (fl l)) (h' : RowAt w v' 1 m (fl lk)) : Calls Try.prog 42 #[.agg #[v, v'], .float .f32 y] w (GiveC (cN (clocksB n l m lk && upto (fun j => finB .f32 (turnAllQ l y j)) n) n) (cL (clocksB n l m lk && upto (fun j => finB .f32 (turnAllQ l y j)) n) (turned l (turnAllQ l y) n)) (cN (clocksB n l m lk && upto (fun j => finB .f32 (turnAllQ l y j)) n) m) (cL (clocksB n l m lk && upto (fun j => finB .f32 (turnAllQ l y j)) n) lk) (clocksB n l m lk && upto (fun j => finB .f32 (turnAllQ l y j)) n) w) := by
  have H := Lib.hid h
  have H' := Lib.hid h'
  clear h h'
  go_enter Try.func42, Try.ntmps42
  go_wp2_with fail
  refine (turnEach_any v v' n m l lk 87 #[.pointer (some ⟨w.heap.size, 0, none⟩), .pointer (some ⟨w.heap.size + 1, 0, none⟩)] (turnAllQ l y) _ ?_ ?_ ?_ ?_).mono ?_
  · refine RowAt.below H.out ?_
    (repeat (first | assumption | (with_reducible exact Below.refl _ _) | (with_reducible refine Below.drewN ?_ _) | (with_reducible refine Below.drew ?_) | (with_reducible refine Below.allocS ?_ _) | ((with_reducible refine Below.setCell ?_ ?_ _); rotate_left; focus (first | omega | (simp; done) | (simp; omega))) | (with_reducible refine Below.step ?_ (by assumption))))
  · refine RowAt.below H'.out ?_
    (repeat (first | assumption | (with_reducible exact Below.refl _ _) | (with_reducible refine Below.drewN ?_ _) | (with_reducible refine Below.drew ?_) | (with_reducible refine Below.allocS ?_ _) | ((with_reducible refine Below.setCell ?_ ?_ _); rotate_left; focus (first | omega | (simp; done) | (simp; omega))) | (with_reducible refine Below.step ?_ (by assumption))))
  · intro w1 x
    simp [go_sem]
  · intro hc i w1 hi hb
    obtain ⟨c1, c2, _⟩ := clocks_parts hc
    have hb0 : Below w.heap.size w w1 := by (repeat (first | assumption | (with_reducible exact Below.refl _ _) | (with_reducible refine Below.drewN ?_ _) | (with_reducible refine Below.drew ?_) | (with_reducible refine Below.allocS ?_ _) | ((with_reducible refine Below.setCell ?_ ?_ _); rotate_left; focus (first | omega | (simp; done) | (simp; omega))) | (with_reducible refine Below.step ?_ (by assumption))))
    exact TurnAll1_any v v' n l _ _ y i w1 (H.out.below hb0) (Held.below hb (by simp [Held, go_sem])) (Held.below hb (by simp [Held, go_sem])) hi c2
  rintro e w4 ⟨u0, u1, rfl, ou0, ou1, une, hb4⟩
  obtain ⟨a0, k0, d0, rfl⟩ := ownsRow_shape ou0
  obtain ⟨a1, k1, d1, rfl⟩ := ownsRow_shape ou1
  have hk4 := Held.below hb4 (l := [(⟨w.heap.size + 1 + 1, 0, none⟩, .slice none 0 0), (⟨w.heap.size + 1 + 1, 1, none⟩, .slice none 0 0)]) (by simp [Held, go_sem])
  simp only [Held, and_true] at hk4
  have OU0 := Lib.hid ou0
  have OU1 := Lib.hid ou1
  clear ou0 ou1
  go_wp2_with fail
  refine bodyPost_ret (v := ?_) (by first | (simp [results, Try.results42, go_sem, *]; rfl) | (simp [results, Try.results42, go_sem, *]; done)) rfl ?_
  refine ⟨_, _, rfl, ?_, ?_, une, ?_⟩
  · refine ownsRow_base (base := w.heap.size + 1 + 1 + 1) (by omega) ?_
    have := OU0.out
    (repeat (first | (with_reducible refine World.ownsRow.alloc ?_ _) | (with_reducible refine ownsRow_drewN ?_ _) | ((with_reducible refine ownsRow_setCell_below ?_ ?_ _); rotate_left; focus (first | omega | (simp; done) | (simp; omega)))))
    simpa using this
  · refine ownsRow_base (base := w.heap.size + 1 + 1 + 1) (by omega) ?_
    have := OU1.out
    (repeat (first | (with_reducible refine World.ownsRow.alloc ?_ _) | (with_reducible refine ownsRow_drewN ?_ _) | ((with_reducible refine ownsRow_setCell_below ?_ ?_ _); rotate_left; focus (first | omega | (simp; done) | (simp; omega)))))
    simpa using this
  · (repeat (first | assumption | (with_reducible exact Below.refl _ _) | (with_reducible refine Below.drewN ?_ _) | (with_reducible refine Below.drew ?_) | (with_reducible refine Below.allocS ?_ _) | ((with_reducible refine Below.setCell ?_ ?_ _); rotate_left; focus (first | omega | (simp; done) | (simp; omega))) | (with_reducible refine Below.step ?_ (by assumption))))

set_option maxRecDepth 100000 in
set_option maxHeartbeats 8000000 in
theorem specTurnAll_any (v v' : Value) (n m : Nat) (l lk : List Nat) (y : Nat) (w : World) (h : RowAt w v 2 n (fl l)) (h' : RowAt w v' 1 m (fl lk)) : Calls Try.prog 41 #[.agg #[v, v'], .float .f32 y] w (GiveC (cN (clocksB n l m lk && upto (fun j => finB .f32 (turnAllQ l y j)) n) n) (cL (clocksB n l m lk && upto (fun j => finB .f32 (turnAllQ l y j)) n) (turned l (turnAllQ l y) n)) (cN (clocksB n l m lk && upto (fun j => finB .f32 (turnAllQ l y j)) n) m) (cL (clocksB n l m lk && upto (fun j => finB .f32 (turnAllQ l y j)) n) lk) (clocksB n l m lk && upto (fun j => finB .f32 (turnAllQ l y j)) n) w) := by
  have H := Lib.hid h
  have H' := Lib.hid h'
  clear h h'
  cases hc : clocksB n l m lk
  · go_enter Try.func41, Try.ntmps41
    go_wp2_with (first | (go_at_call 77; refine (l05Is_any v v' n m l lk _ _ ?_ ?_ ?_).mono ?_; (focus (refine RowAt.below H.out ?_; (repeat (first | assumption | (with_reducible exact Below.refl _ _) | (with_reducible refine Below.drewN ?_ _) | (with_reducible refine Below.drew ?_) | (with_reducible refine Below.allocS ?_ _) | ((with_reducible refine Below.setCell ?_ ?_ _); rotate_left; focus (first | omega | (simp; done) | (simp; omega))) | (with_reducible refine Below.step ?_ (by assumption)))); done)); (focus (refine RowAt.below H'.out ?_; (repeat (first | assumption | (with_reducible exact Below.refl _ _) | (with_reducible refine Below.drewN ?_ _) | (with_reducible refine Below.drew ?_) | (with_reducible refine Below.allocS ?_ _) | ((with_reducible refine Below.setCell ?_ ?_ _); rotate_left; focus (first | omega | (simp; done) | (simp; omega))) | (with_reducible refine Below.step ?_ (by assumption)))); done)); (focus (simp [Held, go_sem]; done)); rintro e w1 ⟨c9, rfl, rfl⟩; rw [hc]))
    refine bodyPost_ret (v := ?_) (by first | (simp [results, Try.results41, go_sem, *]; rfl) | (simp [results, Try.results41, go_sem, *]; done)) rfl ?_
    refine ⟨_, _, rfl, ownsRow_nil', ownsRow_nil', (fun i hi => by cases hi), ?_⟩
    (repeat (first | assumption | (with_reducible exact Below.refl _ _) | (with_reducible refine Below.drewN ?_ _) | (with_reducible refine Below.drew ?_) | (with_reducible refine Below.allocS ?_ _) | ((with_reducible refine Below.setCell ?_ ?_ _); rotate_left; focus (first | omega | (simp; done) | (simp; omega))) | (with_reducible refine Below.step ?_ (by assumption))))
  obtain ⟨c1, c2, c3, c4, c5⟩ := clocks_parts hc
  have hm0 : 0 < m := by have := Nat.mul_pos (by omega : 0 < n) (by omega : 0 < n); omega
  have hm9 : m ≤ 144 := by have := sq_small c2; omega
  clear c4 c3 c5
  rw [Bool.true_and]
  obtain ⟨h1, h2, ao, cap, rfl, h3⟩ := H.out
  obtain ⟨b, o, rfl, hbl, hcell⟩ := h3.resolve_left (by omega)
  rw [fl_length] at h1
  have HC := Lib.hid hcell
  clear hcell h3
  go_enter Try.func41, Try.ntmps41
  go_wp2_with (first | (go_at_call 77; refine (l05Is_any (.slice (some ⟨b, o, none⟩) n cap) v' n m l lk _ _ ?_ ?_ ?_).mono ?_; (focus (refine RowAt.below H.out ?_; (repeat (first | assumption | (with_reducible exact Below.refl _ _) | (with_reducible refine Below.drewN ?_ _) | (with_reducible refine Below.drew ?_) | (with_reducible refine Below.allocS ?_ _) | ((with_reducible refine Below.setCell ?_ ?_ _); rotate_left; focus (first | omega | (simp; done) | (simp; omega))) | (with_reducible refine Below.step ?_ (by assumption)))); done)); (focus (refine RowAt.below H'.out ?_; (repeat (first | assumption | (with_reducible exact Below.refl _ _) | (with_reducible refine Below.drewN ?_ _) | (with_reducible refine Below.drew ?_) | (with_reducible refine Below.allocS ?_ _) | ((with_reducible refine Below.setCell ?_ ?_ _); rotate_left; focus (first | omega | (simp; done) | (simp; omega))) | (with_reducible refine Below.step ?_ (by assumption)))); done)); (focus (simp [Held, go_sem]; done)); rintro e w1 ⟨c9, rfl, rfl⟩; rw [hc]) | (go_at_call 63; refine (l05Own_any (.slice (some ⟨b, o, none⟩) n cap) v' n m l lk _ _ ?_ ?_ ?_ (by omega) hm0 (by omega) (by omega)).mono ?_; (focus (refine RowAt.below H.out ?_; (repeat (first | assumption | (with_reducible exact Below.refl _ _) | (with_reducible refine Below.drewN ?_ _) | (with_reducible refine Below.drew ?_) | (with_reducible refine Below.allocS ?_ _) | ((with_reducible refine Below.setCell ?_ ?_ _); rotate_left; focus (first | omega | (simp; done) | (simp; omega))) | (with_reducible refine Below.step ?_ (by assumption)))); done)); (focus (refine RowAt.below H'.out ?_; (repeat (first | assumption | (with_reducible exact Below.refl _ _) | (with_reducible refine Below.drewN ?_ _) | (with_reducible refine Below.drew ?_) | (with_reducible refine Below.allocS ?_ _) | ((with_reducible refine Below.setCell ?_ ?_ _); rotate_left; focus (first | omega | (simp; done) | (simp; omega))) | (with_reducible refine Below.step ?_ (by assumption)))); done)); (focus (simp [Held, go_sem]; done))))
  rintro e w2 ⟨u0, u1, rfl, ou0, ou1, hb2⟩
  obtain ⟨ga, ca, rfl⟩ := ownsRow_own ou0 (by omega)
  obtain ⟨gb, cb, rfl⟩ := ownsRow_own ou1 (by omega)
  have hk2 := Held.below hb2 (l := [(⟨w.heap.size, 0, none⟩, .slice (some ⟨b, o, none⟩) n cap), (⟨w.heap.size, 1, none⟩, v'), (⟨w.heap.size + 1, 0, none⟩, .slice none 0 0), (⟨w.heap.size + 1, 1, none⟩, .slice none 0 0)]) (by simp [Held, go_sem, *])
  simp only [Held, and_true] at hk2
  have hg0 := ownsRow_lt ou0 ga rfl
  have hg1 := ownsRow_lt ou1 gb rfl
  have hB2 : Below w.heap.size w w2 := by (repeat (first | assumption | (with_reducible exact Below.refl _ _) | (with_reducible refine Below.drewN ?_ _) | (with_reducible refine Below.drew ?_) | (with_reducible refine Below.allocS ?_ _) | ((with_reducible refine Below.setCell ?_ ?_ _); rotate_left; focus (first | omega | (simp; done) | (simp; omega))) | (with_reducible refine Below.step ?_ (by assumption))))
  have hz2 := hb2.size
  simp at hg0 hg1 hz2
  have ou0' := ownsRow_base (base' := w.heap.size + 1 + 1) (by simp) ou0
  have ou1' := ownsRow_base (base' := w.heap.size + 1 + 1) (by simp) ou1
  have hne := ownsRow_ne ou0' ou1' tc_ne
  have OU0 := Lib.hid ou0'
  have OU1 := Lib.hid ou1'
  clear ou0 ou1 ou0' ou1'
  obtain ⟨w3, hw3⟩ : ∃ w3, w3 = w2.alloc (.cells #[.slice (some ⟨ga, 0, none⟩) n ca, .slice (some ⟨gb, 0, none⟩) m cb] 26) := ⟨_, rfl⟩
  have HK3 : Hid (Held [(⟨w.heap.size, 0, none⟩, .slice (some ⟨b, o, none⟩) n cap), (⟨w.heap.size, 1, none⟩, v'), (⟨w.heap.size + 1, 0, none⟩, .slice none 0 0), (⟨w.heap.size + 1, 1, none⟩, .slice none 0 0), (⟨w2.heap.size, 0, none⟩, .slice (some ⟨ga, 0, none⟩) n ca), (⟨w2.heap.size, 1, none⟩, .slice (some ⟨gb, 0, none⟩) m cb)] w3) := by rw [hw3]; show Held _ _; simp [Held, go_sem, *]
  have O3 : Hid (w3.ownsRow (w.heap.size + 1 + 1) 66 2 (.slice (some ⟨ga, 0, none⟩) n ca) n (fl l)) := by rw [hw3]; exact OU0.out.alloc _
  have O3' : Hid (w3.ownsRow (w.heap.size + 1 + 1) 22 1 (.slice (some ⟨gb, 0, none⟩) m cb) m (fl lk)) := by rw [hw3]; exact OU1.out.alloc _
  have hB3 : Below w.heap.size w w3 := by rw [hw3]; (repeat (first | assumption | (with_reducible exact Below.refl _ _) | (with_reducible refine Below.drewN ?_ _) | (with_reducible refine Below.drew ?_) | (with_reducible refine Below.allocS ?_ _) | ((with_reducible refine Below.setCell ?_ ?_ _); rotate_left; focus (first | omega | (simp; done) | (simp; omega))) | (with_reducible refine Below.step ?_ (by assumption))))
  have hz3 : w2.heap.size < w3.heap.size := by rw [hw3]; simp
  go_wp2_with fail
  rw [← hw3]
  have HW3 := Lib.hid hw3
  clear hw3 hk2
  have hk3 := HK3.out
  simp only [Held, and_true] at hk3
  go_wp2_with fail
  go_loopw [15] (fun jv wr => ∃ i : Nat, i ≤ n ∧ jv = .int .i64 (i : Int) ∧ upto (fun j => finB .f32 (turnAllQ l y j)) i = true ∧ wr.ownsRow (w.heap.size + 1 + 1) 66 2 (.slice (some ⟨ga, 0, none⟩) n ca) n (fl (turned l (turnAllQ l y) i)) ∧ Kept w3 wr [some ga]) (fun jv _ => n - (intOf jv).toNat)
  case atStart => exact ⟨0, Nat.zero_le _, rfl, rfl, O3.out, Kept.refl1 _ _⟩
  case round =>
    obtain ⟨i, hi, rfl, hup, ho, hk⟩ := hrel
    have UP := Lib.hid hup
    have OI := Lib.hid ho
    have KI := Lib.hid hk
    have hr2 := Held_kept1 (v := .slice (some ⟨ga, 0, none⟩) n ca) hk (l := [(⟨w.heap.size, 0, none⟩, .slice (some ⟨b, o, none⟩) n cap), (⟨w.heap.size, 1, none⟩, v'), (⟨w.heap.size + 1, 0, none⟩, .slice none 0 0), (⟨w.heap.size + 1, 1, none⟩, .slice none 0 0), (⟨w2.heap.size, 0, none⟩, .slice (some ⟨ga, 0, none⟩) n ca), (⟨w2.heap.size, 1, none⟩, .slice (some ⟨gb, 0, none⟩) m cb)]) (by simp [Value.ownBlock]; omega) HK3.out
    have HR2 := Lib.hid hr2
    simp only [Held, and_true] at hr2
    have hBr : Below w.heap.size w wr := hB3.trans (hk.toBelow (by omega) (fun j hj => by have := List.mem_singleton.1 hj; cases this; omega))
    clear ho hk hup
    by_cases hlt : i < n
    · have d1 : decide ((i : Int) < (n : Int)) = true := decide_eq_true (by omega)
      obtain ⟨x0, hx0⟩ : ∃ x, Hid (l.getD (i * 2) 0 = x) := ⟨_, rfl⟩
      have f0 := HC.out (i * 2) (.float .f32 x0) (by rw [← hx0.out]; exact fl_get (by omega))
      have hc0 := Held.below hBr (l := [(⟨b, o + i * 2, none⟩, .float .f32 x0)]) ⟨⟨hbl, f0⟩, trivial⟩
      simp only [Held, and_true] at hc0
      clear f0
      cases e1 : finB .f32 (turnAllQ l y i)
      all_goals
        have E1 := Lib.hid e1
        clear e1
        go_wp2_with (first | (refine wpList_fbin rfl rfl rfl rfl rfl (fun r n9 hr => ?_)) | (go_at_call 85; refine (l05Turned_any (.slice (some ⟨ga, 0, none⟩) n ca) (.slice (some ⟨gb, 0, none⟩) m cb) n (turned l (turnAllQ l y) i) (w.heap.size + 1 + 1) w2.heap.size i _ _ ?_ ?_ hlt c2).mono ?_; (focus (have h9 := OI.out; (repeat (first | (with_reducible refine World.ownsRow.alloc ?_ _) | (with_reducible refine ownsRow_drewN ?_ _) | ((with_reducible refine ownsRow_setCell_below ?_ ?_ _); rotate_left; focus (first | omega | (simp; done) | (simp; omega))))); exact h9)); (focus (simp [Held, go_sem, *]; done)); have hq9 : cn .f32 r = turnAllQ l y i := (by show _ = turnAllQ l y i; unfold turnAllQ; rw [hx0.out]; simp only [Hid] at *; simp only [*]); have hfr : finB .f32 r = finB .f32 (turnAllQ l y i) := (by rw [← hq9, finB_cn]); rw [E1.out] at hfr; rw [hfr]; have HQ9 := Lib.hid hq9; clear hq9 hfr; rintro e w4 ⟨rfl, ho4, hk4⟩; have O4 := Lib.hid ho4; have K4 := Lib.hid hk4; clear ho4; have K5 := (KI.out.below1 (below_drewN _)).trans1 hk4; have hk5 := Held_kept1 (v := .slice (some ⟨ga, 0, none⟩) n ca) K5 (l := [(⟨w.heap.size, 0, none⟩, .slice (some ⟨b, o, none⟩) n cap), (⟨w.heap.size, 1, none⟩, v'), (⟨w.heap.size + 1, 0, none⟩, .slice none 0 0), (⟨w.heap.size + 1, 1, none⟩, .slice none 0 0), (⟨w2.heap.size, 0, none⟩, .slice (some ⟨ga, 0, none⟩) n ca), (⟨w2.heap.size, 1, none⟩, .slice (some ⟨gb, 0, none⟩) m cb)]) (by simp [Value.ownBlock]; omega) HK3.out; have HK5 := Lib.hid hk5; have KK5 := Lib.hid K5; clear hk4 K5; simp only [Held, and_true] at hk5; have hB4 : Below w.heap.size w w4 := hB3.trans (KK5.out.toBelow (by omega) (fun j hj => by have := List.mem_singleton.1 hj; cases this; omega))))
      · refine bodyPost_ret (v := ?_) (by first | (simp [results, Try.results41, go_sem, *]; rfl) | (simp [results, Try.results41, go_sem, *]; done)) rfl ?_
        rw [upto_false hlt E1.out]
        refine ⟨_, _, rfl, ownsRow_nil', ownsRow_nil', (fun i hi => by cases hi), ?_⟩
        (repeat (first | assumption | (with_reducible exact Below.refl _ _) | (with_reducible refine Below.drewN ?_ _) | (with_reducible refine Below.drew ?_) | (with_reducible refine Below.allocS ?_ _) | ((with_reducible refine Below.setCell ?_ ?_ _); rotate_left; focus (first | omega | (simp; done) | (simp; omega))) | (with_reducible refine Below.step ?_ (by assumption))))
      · go_roundw
        case rel =>
          refine ⟨i + 1, hlt, by go_num, ?_, ?_, KK5.out⟩
          · rw [upto_succ, UP.out, E1.out]; rfl
          · have h9 := O4.out trivial
            rw [← turnQ_cn, HQ9.out] at h9
            exact h9
        case measure => simp [intOf]; omega
    · obtain rfl : i = n := by omega
      have d1 : decide ((i : Int) < (i : Int)) = false := decide_eq_false (by omega)
      go_wp2_with fail
      refine bodyPost_ret (v := ?_) (by first | (simp [results, Try.results41, go_sem, *]; rfl) | (simp [results, Try.results41, go_sem, *]; done)) rfl ?_
      rw [UP.out]
      refine ⟨_, _, rfl, ?_, ?_, hne, ?_⟩
      · refine ownsRow_base (base := w.heap.size + 1 + 1) (by omega) ?_
        have := OI.out
        (repeat (first | (with_reducible refine World.ownsRow.alloc ?_ _) | (with_reducible refine ownsRow_drewN ?_ _) | ((with_reducible refine ownsRow_setCell_below ?_ ?_ _); rotate_left; focus (first | omega | (simp; done) | (simp; omega)))))
        exact this
      · refine ownsRow_base (base := w.heap.size + 1 + 1) (by omega) ?_
        have := ownsRow_kept O3'.out KI.out (fun j hj hm => hne j (List.mem_singleton.1 hm).symm hj)
        (repeat (first | (with_reducible refine World.ownsRow.alloc ?_ _) | (with_reducible refine ownsRow_drewN ?_ _) | ((with_reducible refine ownsRow_setCell_below ?_ ?_ _); rotate_left; focus (first | omega | (simp; done) | (simp; omega)))))
        exact this
      · (repeat (first | assumption | (with_reducible exact Below.refl _ _) | (with_reducible refine Below.drewN ?_ _) | (with_reducible refine Below.drew ?_) | (with_reducible refine Below.allocS ?_ _) | ((with_reducible refine Below.setCell ?_ ?_ _); rotate_left; focus (first | omega | (simp; done) | (simp; omega))) | (with_reducible refine Below.step ?_ (by assumption))))

set_option maxRecDepth 100000 in
set_option maxHeartbeats 8000000 in
theorem KickClocks1_any (v v' : Value) (n : Nat) (l : List Nat) (p q y i : Nat) (w : World) (h : RowAt w v 2 n (fl l)) (hp : Held [(⟨p, 0, none⟩, v), (⟨p, 1, none⟩, v')] w) (hq : Held [(⟨q, 0, none⟩, .float .f32 y)] w) (hi : i < n) (hn : n ≤ 12) : Calls Try.prog 95 #[.int .i64 (i : Int), .pointer (some ⟨p, 0, none⟩), .pointer (some ⟨q, 0, none⟩)] w (BF .f32 (kickQ l y i) w) := by
  obtain ⟨h1, h2, ao, cap, rfl, h3⟩ := h
  obtain ⟨b, o, rfl, hbl, hcell⟩ := h3.resolve_left (by omega)
  rw [fl_length] at h1
  obtain ⟨x0, hx0⟩ : ∃ x, Hid (l.getD (i * 2) 0 = x) := ⟨_, rfl⟩
  have f0 := hcell (i * 2) (.float .f32 x0) (by rw [← hx0.out]; exact fl_get (by omega))
  simp only [Held, and_true] at hp hq
  clear hcell h3
  go_enter Try.func95, Try.ntmps95
  go_wp2_with fail
  refine region_calmA w w.heap.size [(⟨p, 0, none⟩, .slice (some ⟨b, o, none⟩) n cap), (⟨p, 1, none⟩, v'), (⟨q, 0, none⟩, .float .f32 y), (⟨b, o + i * 2, none⟩, .float .f32 x0)] (fun f args v => ∃ r, v = .float .f32 r ∧ cn .f32 r = sineQ (cn .f32 (argF args 0 0))) [] (by kernel_rfl) (by kernel_rfl) (by kernel_rfl) ⟨⟨by simp [Held, go_sem, *], by (repeat (first | (with_reducible exact Below.refl _ _) | (with_reducible refine Below.drewN ?_ _) | (with_reducible refine Below.drew ?_) | (with_reducible refine Below.allocS ?_ _) | ((with_reducible refine Below.setCell ?_ ?_ _); rotate_left; focus (first | omega | (simp; done) | (simp; omega))) | (with_reducible refine Below.step ?_ (by assumption))))⟩, by (first | (simp; done) | (simp; omega) | omega)⟩ ?_
  repeat (first | (first | (refine calmA_plain rfl rfl ?_ (fun K hK w1 hC => ?_); (focus (intro _ _; simp [RA]; done)); have hC' := hC.1.1; simp only [Held, and_true] at hC'; go_wp2_with (first | (refine wpList_fbin rfl rfl rfl rfl rfl (fun r n9 hr => ?_)) | (refine wpList_widen rfl rfl Try.underlying44 Try.underlying22 rfl (fun r n9 hr => ?_))); refine ⟨rfl, (by first | exact Below.refl _ _ | exact below_drewN _), hK _ ?_⟩; clear hC hC' hK K w1) | (refine calmA_check rfl rfl rfl ?_ ?_; (focus (intro _ _; simp [RA]; done)))) | (refine calmA_call (f := 96) (args := _) rfl ?_ (by (intro w1; simp [execOp, resolve, invoke, go_sem]; with_reducible rfl)) (fun w1 hC => ?_) ?_; (focus (intro _ _; simp [RA]; done)); (focus (refine (SineTurns_any _ _).mono ?_; rintro e w2 ⟨r, n9, rfl, hq, rfl⟩; exact ⟨_, rfl, ⟨r, rfl, by simp [argF]; exact hq⟩, below_drewN _⟩)); rintro v9 hv; simp [argF] at hv; obtain ⟨rr, rfl, hq⟩ := hv; have HRR := Lib.hid hq; clear hq))
  refine calmA_nil ?_
  intro w' hC hF
  have hC' := hC.1.1
  have hB1 : Below w.heap.size w w' := hC.1.2
  simp only [Held, and_true] at hC'
  clear hC hF
  go_wp2_with fail
  go_ret
  refine ⟨_, rfl, ?_, by (repeat (first | assumption | (with_reducible exact Below.refl _ _) | (with_reducible refine Below.drewN ?_ _) | (with_reducible refine Below.drew ?_) | (with_reducible refine Below.allocS ?_ _) | ((with_reducible refine Below.setCell ?_ ?_ _); rotate_left; focus (first | omega | (simp; done) | (simp; omega))) | (with_reducible refine Below.step ?_ (by assumption))))⟩
  show _ = kickQ l y i; unfold kickQ; rw [hx0.out]; simp only [Hid] at *; simp only [*]

set_option maxRecDepth 100000 in
set_option maxHeartbeats 8000000 in
theorem implKickClocks_any (v v' : Value) (n m : Nat) (l lk : List Nat) (y : Nat) (w : World) (h : RowAt w v 2 n (fl l)) (h' : RowAt w v' 1 m (fl lk)) : Calls Try.prog 49 #[.agg #[v, v'], .float .f32 y] w (GiveC (cN (clocksB n l m lk && upto (fun j => finB .f32 (kickQ l y j)) n) n) (cL (clocksB n l m lk && upto (fun j => finB .f32 (kickQ l y j)) n) (turned l (kickQ l y) n)) (cN (clocksB n l m lk && upto (fun j => finB .f32 (kickQ l y j)) n) m) (cL (clocksB n l m lk && upto (fun j => finB .f32 (kickQ l y j)) n) lk) (clocksB n l m lk && upto (fun j => finB .f32 (kickQ l y j)) n) w) := by
  have H := Lib.hid h
  have H' := Lib.hid h'
  clear h h'
  go_enter Try.func49, Try.ntmps49
  go_wp2_with fail
  refine (turnEach_any v v' n m l lk 95 #[.pointer (some ⟨w.heap.size, 0, none⟩), .pointer (some ⟨w.heap.size + 1, 0, none⟩)] (kickQ l y) _ ?_ ?_ ?_ ?_).mono ?_
  · refine RowAt.below H.out ?_
    (repeat (first | assumption | (with_reducible exact Below.refl _ _) | (with_reducible refine Below.drewN ?_ _) | (with_reducible refine Below.drew ?_) | (with_reducible refine Below.allocS ?_ _) | ((with_reducible refine Below.setCell ?_ ?_ _); rotate_left; focus (first | omega | (simp; done) | (simp; omega))) | (with_reducible refine Below.step ?_ (by assumption))))
  · refine RowAt.below H'.out ?_
    (repeat (first | assumption | (with_reducible exact Below.refl _ _) | (with_reducible refine Below.drewN ?_ _) | (with_reducible refine Below.drew ?_) | (with_reducible refine Below.allocS ?_ _) | ((with_reducible refine Below.setCell ?_ ?_ _); rotate_left; focus (first | omega | (simp; done) | (simp; omega))) | (with_reducible refine Below.step ?_ (by assumption))))
  · intro w1 x
    simp [go_sem]
  · intro hc i w1 hi hb
    obtain ⟨c1, c2, _⟩ := clocks_parts hc
    have hb0 : Below w.heap.size w w1 := by (repeat (first | assumption | (with_reducible exact Below.refl _ _) | (with_reducible refine Below.drewN ?_ _) | (with_reducible refine Below.drew ?_) | (with_reducible refine Below.allocS ?_ _) | ((with_reducible refine Below.setCell ?_ ?_ _); rotate_left; focus (first | omega | (simp; done) | (simp; omega))) | (with_reducible refine Below.step ?_ (by assumption))))
    exact KickClocks1_any v v' n l _ _ y i w1 (H.out.below hb0) (Held.below hb (by simp [Held, go_sem])) (Held.below hb (by simp [Held, go_sem])) hi c2
  rintro e w4 ⟨u0, u1, rfl, ou0, ou1, une, hb4⟩
  obtain ⟨a0, k0, d0, rfl⟩ := ownsRow_shape ou0
  obtain ⟨a1, k1, d1, rfl⟩ := ownsRow_shape ou1
  have hk4 := Held.below hb4 (l := [(⟨w.heap.size + 1 + 1, 0, none⟩, .slice none 0 0), (⟨w.heap.size + 1 + 1, 1, none⟩, .slice none 0 0)]) (by simp [Held, go_sem])
  simp only [Held, and_true] at hk4
  have OU0 := Lib.hid ou0
  have OU1 := Lib.hid ou1
  clear ou0 ou1
  go_wp2_with fail
  refine bodyPost_ret (v := ?_) (by first | (simp [results, Try.results49, go_sem, *]; rfl) | (simp [results, Try.results49, go_sem, *]; done)) rfl ?_
  refine ⟨_, _, rfl, ?_, ?_, une, ?_⟩
  · refine ownsRow_base (base := w.heap.size + 1 + 1 + 1) (by omega) ?_
    have := OU0.out
    (repeat (first | (with_reducible refine World.ownsRow.alloc ?_ _) | (with_reducible refine ownsRow_drewN ?_ _) | ((with_reducible refine ownsRow_setCell_below ?_ ?_ _); rotate_left; focus (first | omega | (simp; done) | (simp; omega)))))
    simpa using this
  · refine ownsRow_base (base := w.heap.size + 1 + 1 + 1) (by omega) ?_
    have := OU1.out
    (repeat (first | (with_reducible refine World.ownsRow.alloc ?_ _) | (with_reducible refine ownsRow_drewN ?_ _) | ((with_reducible refine ownsRow_setCell_below ?_ ?_ _); rotate_left; focus (first | omega | (simp; done) | (simp; omega)))))
    simpa using this
  · (repeat (first | assumption | (with_reducible exact Below.refl _ _) | (with_reducible refine Below.drewN ?_ _) | (with_reducible refine Below.drew ?_) | (with_reducible refine Below.allocS ?_ _) | ((with_reducible refine Below.setCell ?_ ?_ _); rotate_left; focus (first | omega | (simp; done) | (simp; omega))) | (with_reducible refine Below.step ?_ (by assumption))))

set_option maxRecDepth 100000 in
set_option maxHeartbeats 8000000 in
theorem specKickClocks_any (v v' : Value) (n m : Nat) (l lk : List Nat) (y : Nat) (w : World) (h : RowAt w v 2 n (fl l)) (h' : RowAt w v' 1 m (fl lk)) : Calls Try.prog 48 #[.agg #[v, v'], .float .f32 y] w (GiveC (cN (clocksB n l m lk && upto (fun j => finB .f32 (kickQ l y j)) n) n) (cL (clocksB n l m lk && upto (fun j => finB .f32 (kickQ l y j)) n) (turned l (kickQ l y) n)) (cN (clocksB n l m lk && upto (fun j => finB .f32 (kickQ l y j)) n) m) (cL (clocksB n l m lk && upto (fun j => finB .f32 (kickQ l y j)) n) lk) (clocksB n l m lk && upto (fun j => finB .f32 (kickQ l y j)) n) w) := by
  have H := Lib.hid h
  have H' := Lib.hid h'
  clear h h'
  cases hc : clocksB n l m lk
  · go_enter Try.func48, Try.ntmps48
    go_wp2_with (first | (go_at_call 77; refine (l05Is_any v v' n m l lk _ _ ?_ ?_ ?_).mono ?_; (focus (refine RowAt.below H.out ?_; (repeat (first | assumption | (with_reducible exact Below.refl _ _) | (with_reducible refine Below.drewN ?_ _) | (with_reducible refine Below.drew ?_) | (with_reducible refine Below.allocS ?_ _) | ((with_reducible refine Below.setCell ?_ ?_ _); rotate_left; focus (first | omega | (simp; done) | (simp; omega))) | (with_reducible refine Below.step ?_ (by assumption)))); done)); (focus (refine RowAt.below H'.out ?_; (repeat (first | assumption | (with_reducible exact Below.refl _ _) | (with_reducible refine Below.drewN ?_ _) | (with_reducible refine Below.drew ?_) | (with_reducible refine Below.allocS ?_ _) | ((with_reducible refine Below.setCell ?_ ?_ _); rotate_left; focus (first | omega | (simp; done) | (simp; omega))) | (with_reducible refine Below.step ?_ (by assumption)))); done)); (focus (simp [Held, go_sem]; done)); rintro e w1 ⟨c9, rfl, rfl⟩; rw [hc]))
    refine bodyPost_ret (v := ?_) (by first | (simp [results, Try.results48, go_sem, *]; rfl) | (simp [results, Try.results48, go_sem, *]; done)) rfl ?_
    refine ⟨_, _, rfl, ownsRow_nil', ownsRow_nil', (fun i hi => by cases hi), ?_⟩
    (repeat (first | assumption | (with_reducible exact Below.refl _ _) | (with_reducible refine Below.drewN ?_ _) | (with_reducible refine Below.drew ?_) | (with_reducible refine Below.allocS ?_ _) | ((with_reducible refine Below.setCell ?_ ?_ _); rotate_left; focus (first | omega | (simp; done) | (simp; omega))) | (with_reducible refine Below.step ?_ (by assumption))))
  obtain ⟨c1, c2, c3, c4, c5⟩ := clocks_parts hc
  have hm0 : 0 < m := by have := Nat.mul_pos (by omega : 0 < n) (by omega : 0 < n); omega
  have hm9 : m ≤ 144 := by have := sq_small c2; omega
  clear c4 c3 c5
  rw [Bool.true_and]
  obtain ⟨h1, h2, ao, cap, rfl, h3⟩ := H.out
  obtain ⟨b, o, rfl, hbl, hcell⟩ := h3.resolve_left (by omega)
  rw [fl_length] at h1
  have HC := Lib.hid hcell
  clear hcell h3
  go_enter Try.func48, Try.ntmps48
  go_wp2_with (first | (go_at_call 77; refine (l05Is_any (.slice (some ⟨b, o, none⟩) n cap) v' n m l lk _ _ ?_ ?_ ?_).mono ?_; (focus (refine RowAt.below H.out ?_; (repeat (first | assumption | (with_reducible exact Below.refl _ _) | (with_reducible refine Below.drewN ?_ _) | (with_reducible refine Below.drew ?_) | (with_reducible refine Below.allocS ?_ _) | ((with_reducible refine Below.setCell ?_ ?_ _); rotate_left; focus (first | omega | (simp; done) | (simp; omega))) | (with_reducible refine Below.step ?_ (by assumption)))); done)); (focus (refine RowAt.below H'.out ?_; (repeat (first | assumption | (with_reducible exact Below.refl _ _) | (with_reducible refine Below.drewN ?_ _) | (with_reducible refine Below.drew ?_) | (with_reducible refine Below.allocS ?_ _) | ((with_reducible refine Below.setCell ?_ ?_ _); rotate_left; focus (first | omega | (simp; done) | (simp; omega))) | (with_reducible refine Below.step ?_ (by assumption)))); done)); (focus (simp [Held, go_sem]; done)); rintro e w1 ⟨c9, rfl, rfl⟩; rw [hc]) | (go_at_call 63; refine (l05Own_any (.slice (some ⟨b, o, none⟩) n cap) v' n m l lk _ _ ?_ ?_ ?_ (by omega) hm0 (by omega) (by omega)).mono ?_; (focus (refine RowAt.below H.out ?_; (repeat (first | assumption | (with_reducible exact Below.refl _ _) | (with_reducible refine Below.drewN ?_ _) | (with_reducible refine Below.drew ?_) | (with_reducible refine Below.allocS ?_ _) | ((with_reducible refine Below.setCell ?_ ?_ _); rotate_left; focus (first | omega | (simp; done) | (simp; omega))) | (with_reducible refine Below.step ?_ (by assumption)))); done)); (focus (refine RowAt.below H'.out ?_; (repeat (first | assumption | (with_reducible exact Below.refl _ _) | (with_reducible refine Below.drewN ?_ _) | (with_reducible refine Below.drew ?_) | (with_reducible refine Below.allocS ?_ _) | ((with_reducible refine Below.setCell ?_ ?_ _); rotate_left; focus (first | omega | (simp; done) | (simp; omega))) | (with_reducible refine Below.step ?_ (by assumption)))); done)); (focus (simp [Held, go_sem]; done))))
  rintro e w2 ⟨u0, u1, rfl, ou0, ou1, hb2⟩
  obtain ⟨ga, ca, rfl⟩ := ownsRow_own ou0 (by omega)
  obtain ⟨gb, cb, rfl⟩ := ownsRow_own ou1 (by omega)
  have hk2 := Held.below hb2 (l := [(⟨w.heap.size, 0, none⟩, .slice (some ⟨b, o, none⟩) n cap), (⟨w.heap.size, 1, none⟩, v'), (⟨w.heap.size + 1, 0, none⟩, .slice none 0 0), (⟨w.heap.size + 1, 1, none⟩, .slice none 0 0)]) (by simp [Held, go_sem, *])
  simp only [Held, and_true] at hk2
  have hg0 := ownsRow_lt ou0 ga rfl
  have hg1 := ownsRow_lt ou1 gb rfl
  have hB2 : Below w.heap.size w w2 := by (repeat (first | assumption | (with_reducible exact Below.refl _ _) | (with_reducible refine Below.drewN ?_ _) | (with_reducible refine Below.drew ?_) | (with_reducible refine Below.allocS ?_ _) | ((with_reducible refine Below.setCell ?_ ?_ _); rotate_left; focus (first | omega | (simp; done) | (simp; omega))) | (with_reducible refine Below.step ?_ (by assumption))))
  have hz2 := hb2.size
  simp at hg0 hg1 hz2
  have ou0' := ownsRow_base (base' := w.heap.size + 1 + 1) (by simp) ou0
  have ou1' := ownsRow_base (base' := w.heap.size + 1 + 1) (by simp) ou1
  have hne := ownsRow_ne ou0' ou1' tc_ne
  have OU0 := Lib.hid ou0'
  have OU1 := Lib.hid ou1'
  clear ou0 ou1 ou0' ou1'
  obtain ⟨w3, hw3⟩ : ∃ w3, w3 = w2.alloc (.cells #[.slice (some ⟨ga, 0, none⟩) n ca, .slice (some ⟨gb, 0, none⟩) m cb] 26) := ⟨_, rfl⟩
  have HK3 : Hid (Held [(⟨w.heap.size, 0, none⟩, .slice (some ⟨b, o, none⟩) n cap), (⟨w.heap.size, 1, none⟩, v'), (⟨w.heap.size + 1, 0, none⟩, .slice none 0 0), (⟨w.heap.size + 1, 1, none⟩, .slice none 0 0), (⟨w2.heap.size, 0, none⟩, .slice (some ⟨ga, 0, none⟩) n ca), (⟨w2.heap.size, 1, none⟩, .slice (some ⟨gb, 0, none⟩) m cb)] w3) := by rw [hw3]; show Held _ _; simp [Held, go_sem, *]
  have O3 : Hid (w3.ownsRow (w.heap.size + 1 + 1) 66 2 (.slice (some ⟨ga, 0, none⟩) n ca) n (fl l)) := by rw [hw3]; exact OU0.out.alloc _
  have O3' : Hid (w3.ownsRow (w.heap.size + 1 + 1) 22 1 (.slice (some ⟨gb, 0, none⟩) m cb) m (fl lk)) := by rw [hw3]; exact OU1.out.alloc _
  have hB3 : Below w.heap.size w w3 := by rw [hw3]; (repeat (first | assumption | (with_reducible exact Below.refl _ _) | (with_reducible refine Below.drewN ?_ _) | (with_reducible refine Below.drew ?_) | (with_reducible refine Below.allocS ?_ _) | ((with_reducible refine Below.setCell ?_ ?_ _); rotate_left; focus (first | omega | (simp; done) | (simp; omega))) | (with_reducible refine Below.step ?_ (by assumption))))
  have hz3 : w2.heap.size < w3.heap.size := by rw [hw3]; simp
  go_wp2_with fail
  rw [← hw3]
  have HW3 := Lib.hid hw3
  clear hw3 hk2
  have hk3 := HK3.out
  simp only [Held, and_true] at hk3
  go_wp2_with fail
  go_loopw [16] (fun jv wr => ∃ i : Nat, i ≤ n ∧ jv = .int .i64 (i : Int) ∧ upto (fun j => finB .f32 (kickQ l y j)) i = true ∧ wr.ownsRow (w.heap.size + 1 + 1) 66 2 (.slice (some ⟨ga, 0, none⟩) n ca) n (fl (turned l (kickQ l y) i)) ∧ Kept w3 wr [some ga]) (fun jv _ => n - (intOf jv).toNat)
  case atStart => exact ⟨0, Nat.zero_le _, rfl, rfl, O3.out, Kept.refl1 _ _⟩
  case round =>
    obtain ⟨i, hi, rfl, hup, ho, hk⟩ := hrel
    have UP := Lib.hid hup
    have OI := Lib.hid ho
    have KI := Lib.hid hk
    have hr2 := Held_kept1 (v := .slice (some ⟨ga, 0, none⟩) n ca) hk (l := [(⟨w.heap.size, 0, none⟩, .slice (some ⟨b, o, none⟩) n cap), (⟨w.heap.size, 1, none⟩, v'), (⟨w.heap.size + 1, 0, none⟩, .slice none 0 0), (⟨w.heap.size + 1, 1, none⟩, .slice none 0 0), (⟨w2.heap.size, 0, none⟩, .slice (some ⟨ga, 0, none⟩) n ca), (⟨w2.heap.size, 1, none⟩, .slice (some ⟨gb, 0, none⟩) m cb)]) (by simp [Value.ownBlock]; omega) HK3.out
    have HR2 := Lib.hid hr2
    simp only [Held, and_true] at hr2
    have hBr : Below w.heap.size w wr := hB3.trans (hk.toBelow (by omega) (fun j hj => by have := List.mem_singleton.1 hj; cases this; omega))
    clear ho hk hup
    by_cases hlt : i < n
    · have d1 : decide ((i : Int) < (n : Int)) = true := decide_eq_true (by omega)
      obtain ⟨x0, hx0⟩ : ∃ x, Hid (l.getD (i * 2) 0 = x) := ⟨_, rfl⟩
      have f0 := HC.out (i * 2) (.float .f32 x0) (by rw [← hx0.out]; exact fl_get (by omega))
      have hc0 := Held.below hBr (l := [(⟨b, o + i * 2, none⟩, .float .f32 x0)]) ⟨⟨hbl, f0⟩, trivial⟩
      simp only [Held, and_true] at hc0
      clear f0
      cases e1 : finB .f32 (kickQ l y i)
      all_goals
        have E1 := Lib.hid e1
        clear e1
        go_wp2_with (first | (refine wpList_fbin rfl rfl rfl rfl rfl (fun r n9 hr => ?_)) | (go_at_call 94; refine (l01Sine_any _ _).mono ?_; rintro e w3 ⟨rr, m1, rfl, hq, rfl⟩; have HRR := Lib.hid hq; clear hq) | (go_at_call 85; refine (l05Turned_any (.slice (some ⟨ga, 0, none⟩) n ca) (.slice (some ⟨gb, 0, none⟩) m cb) n (turned l (kickQ l y) i) (w.heap.size + 1 + 1) w2.heap.size i _ _ ?_ ?_ hlt c2).mono ?_; (focus (have h9 := OI.out; (repeat (first | (with_reducible refine World.ownsRow.alloc ?_ _) | (with_reducible refine ownsRow_drewN ?_ _) | ((with_reducible refine ownsRow_setCell_below ?_ ?_ _); rotate_left; focus (first | omega | (simp; done) | (simp; omega))))); exact h9)); (focus (simp [Held, go_sem, *]; done)); have hq9 : cn .f32 r = kickQ l y i := (by show _ = kickQ l y i; unfold kickQ; rw [hx0.out]; simp only [Hid] at *; simp only [*]); have hfr : finB .f32 r = finB .f32 (kickQ l y i) := (by rw [← hq9, finB_cn]); rw [E1.out] at hfr; rw [hfr]; have HQ9 := Lib.hid hq9; clear hq9 hfr; rintro e w4 ⟨rfl, ho4, hk4⟩; have O4 := Lib.hid ho4; have K4 := Lib.hid hk4; clear ho4; have K5 := (KI.out.below1 (below_drewN _)).trans1 hk4; have hk5 := Held_kept1 (v := .slice (some ⟨ga, 0, none⟩) n ca) K5 (l := [(⟨w.heap.size, 0, none⟩, .slice (some ⟨b, o, none⟩) n cap), (⟨w.heap.size, 1, none⟩, v'), (⟨w.heap.size + 1, 0, none⟩, .slice none 0 0), (⟨w.heap.size + 1, 1, none⟩, .slice none 0 0), (⟨w2.heap.size, 0, none⟩, .slice (some ⟨ga, 0, none⟩) n ca), (⟨w2.heap.size, 1, none⟩, .slice (some ⟨gb, 0, none⟩) m cb)]) (by simp [Value.ownBlock]; omega) HK3.out; have HK5 := Lib.hid hk5; have KK5 := Lib.hid K5; clear hk4 K5; simp only [Held, and_true] at hk5; have hB4 : Below w.heap.size w w4 := hB3.trans (KK5.out.toBelow (by omega) (fun j hj => by have := List.mem_singleton.1 hj; cases this; omega))))
      · refine bodyPost_ret (v := ?_) (by first | (simp [results, Try.results48, go_sem, *]; rfl) | (simp [results, Try.results48, go_sem, *]; done)) rfl ?_
        rw [upto_false hlt E1.out]
        refine ⟨_, _, rfl, ownsRow_nil', ownsRow_nil', (fun i hi => by cases hi), ?_⟩
        (repeat (first | assumption | (with_reducible exact Below.refl _ _) | (with_reducible refine Below.drewN ?_ _) | (with_reducible refine Below.drew ?_) | (with_reducible refine Below.allocS ?_ _) | ((with_reducible refine Below.setCell ?_ ?_ _); rotate_left; focus (first | omega | (simp; done) | (simp; omega))) | (with_reducible refine Below.step ?_ (by assumption))))
      · go_roundw
        case rel =>
          refine ⟨i + 1, hlt, by go_num, ?_, ?_, KK5.out⟩
          · rw [upto_succ, UP.out, E1.out]; rfl
          · have h9 := O4.out trivial
            rw [← turnQ_cn, HQ9.out] at h9
            exact h9
        case measure => simp [intOf]; omega
    · obtain rfl : i = n := by omega
      have d1 : decide ((i : Int) < (i : Int)) = false := decide_eq_false (by omega)
      go_wp2_with fail
      refine bodyPost_ret (v := ?_) (by first | (simp [results, Try.results48, go_sem, *]; rfl) | (simp [results, Try.results48, go_sem, *]; done)) rfl ?_
      rw [UP.out]
      refine ⟨_, _, rfl, ?_, ?_, hne, ?_⟩
      · refine ownsRow_base (base := w.heap.size + 1 + 1) (by omega) ?_
        have := OI.out
        (repeat (first | (with_reducible refine World.ownsRow.alloc ?_ _) | (with_reducible refine ownsRow_drewN ?_ _) | ((with_reducible refine ownsRow_setCell_below ?_ ?_ _); rotate_left; focus (first | omega | (simp; done) | (simp; omega)))))
        exact this
      · refine ownsRow_base (base := w.heap.size + 1 + 1) (by omega) ?_
        have := ownsRow_kept O3'.out KI.out (fun j hj hm => hne j (List.mem_singleton.1 hm).symm hj)
        (repeat (first | (with_reducible refine World.ownsRow.alloc ?_ _) | (with_reducible refine ownsRow_drewN ?_ _) | ((with_reducible refine ownsRow_setCell_below ?_ ?_ _); rotate_left; focus (first | omega | (simp; done) | (simp; omega)))))
        exact this
      · (repeat (first | assumption | (with_reducible exact Below.refl _ _) | (with_reducible refine Below.drewN ?_ _) | (with_reducible refine Below.drew ?_) | (with_reducible refine Below.allocS ?_ _) | ((with_reducible refine Below.setCell ?_ ?_ _); rotate_left; focus (first | omega | (simp; done) | (simp; omega))) | (with_reducible refine Below.step ?_ (by assumption))))

end Go.Proofs.Ytifdcoambehekaa
