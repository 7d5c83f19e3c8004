/-
  The walks of a clock and of a link that are set; the laws SetClock and SetLink.
-/
import Derived.Test.YtifdcoambehekaaTg
set_option linter.unusedVariables false
set_option linter.unusedSimpArgs false
namespace Go.Proofs.Ytifdcoambehekaa
open Go.RowKit

/-- A clock set. -/
def clockSet (l : List Nat) (i x y : Nat) : List Nat := (l.set (i * 2 + 1) y).set (i * 2) (turnQ x)
theorem clockSet_length (l : List Nat) (i x y : Nat) : (clockSet l i x y).length = l.length := by unfold clockSet; rw [List.length_set, List.length_set]
theorem inZ_nat {i : Int} {n : Nat} (h : inZ i 0 ((n : Int) - 1) = true) : ∃ j : Nat, i = (j : Int) ∧ j < n := by
  unfold inZ at h
  simp at h
  exact ⟨i.toNat, by omega, by omega⟩

set_option maxRecDepth 100000 in
set_option maxHeartbeats 8000000 in
theorem SetClock1_any (v0 v1 : Value) (n m : Nat) (l lk : List Nat) (B p q1 q2 q3 x y : Nat) (i : Int) (w : World) (h : w.ownsRow B 66 2 v0 n (fl l)) (h' : w.ownsRow B 22 1 v1 m (fl lk)) (hp : Held [(⟨p, 0, none⟩, v0), (⟨p, 1, none⟩, v1)] w) (hq : Held [(⟨q1, 0, none⟩, .int .i64 i), (⟨q2, 0, none⟩, .float .f32 y), (⟨q3, 0, none⟩, .float .f32 x)] w) (hn0 : 0 < n) (hn : n ≤ 12) (hlp : ∀ j, v0.ownBlock = some j → j < p) (hqB : q1 < B ∧ q2 < B ∧ q3 < B) :
    Calls Try.prog 83 #[.pointer (some ⟨p, 0, none⟩), .pointer (some ⟨q1, 0, none⟩), .pointer (some ⟨q2, 0, none⟩), .pointer (some ⟨q3, 0, none⟩)] w fun e w' => e = .returned (.bool (inZ i 0 ((n : Int) - 1) && finB .f32 x)) ∧ w'.ownsRow B 66 2 v0 n (fl (if inZ i 0 ((n : Int) - 1) then clockSet l i.toNat x y else l)) ∧ Kept w w' [v0.ownBlock] := by
  obtain ⟨g, cap, rfl⟩ := ownsRow_own h hn0
  have hg := ownsRow_lt h g rfl
  have hgp := hlp g rfl
  have hL := h.1
  rw [fl_length] at hL
  have HO := Lib.hid h
  have HP := Lib.hid hp
  have HQ := Lib.hid hq
  have HR := Lib.hid (ownsRow_rowAt h)
  simp only [Held, and_true] at hp hq
  clear hlp
  cases hz : inZ i 0 ((n : Int) - 1)
  · go_enter Try.func83, Try.ntmps83
    go_wp2_with (first | (go_at_call 68; refine (has_any _ v1 n m _ p i _ hn HR.out HP.out).mono ?_; rintro e w' ⟨rfl, e9⟩; subst w'; rw [hz]))
    go_ret
    exact ⟨ret_bool (by simp), HO.out, Kept.refl1 _ _⟩
  obtain ⟨j, rfl, hj⟩ := inZ_nat hz
  have f1 := (h.cellAt (j * 2 + 1) (by omega)).trans (fl_get (l := l) (by omega))
  have z1 := h.frozenAt (j * 2 + 1)
  clear h
  simp only [Int.toNat_natCast, if_true]
  go_enter Try.func83, Try.ntmps83
  go_wp2_with (first | (go_at_call 68; refine (has_any _ v1 n m _ p (j : Int) _ hn HR.out HP.out).mono ?_; rintro e w' ⟨rfl, e9⟩; subst w'; rw [hz]))
  refine region_calmA_tail 8 w w.heap.size [(⟨p, 0, none⟩, .slice (some ⟨g, 0, none⟩) n cap), (⟨p, 1, none⟩, v1), (⟨q1, 0, none⟩, .int .i64 (j : Int)), (⟨q2, 0, none⟩, .float .f32 y), (⟨q3, 0, none⟩, .float .f32 x), (⟨g, j * 2 + 1, none⟩, .float .f32 (l.getD (j * 2 + 1) 0))] (fun _ _ _ => False) [] (by kernel_rfl) (by kernel_rfl) (by kernel_rfl) ⟨⟨by simp [Held, go_sem, *], by (repeat (first | (with_reducible exact Below.refl _ _) | (with_reducible refine Below.drewN ?_ _) | (with_reducible refine Below.drew ?_) | (with_reducible refine Below.allocS ?_ _) | ((with_reducible refine Below.setCell ?_ ?_ _); rotate_left; focus (first | omega | (simp; done) | (simp; omega))) | (with_reducible refine Below.step ?_ (by assumption))))⟩, by (first | (simp; done) | (simp; omega) | omega)⟩ ?_
  simp only [List.take_succ_cons, List.take_zero, List.drop_succ_cons, List.drop_zero]
  repeat (first | (refine calmA_plain rfl rfl ?_ (fun K hK w1 hC => ?_); (focus (intro _ _; simp [RA]; done)); have hC' := hC.1.1; simp only [Held, and_true] at hC'; go_wp2_with (first | (refine wpList_fbin rfl rfl rfl rfl rfl (fun r n9 hr => ?_)) | (refine wpList_widen rfl rfl Try.underlying44 Try.underlying22 rfl (fun r n9 hr => ?_))); refine ⟨rfl, (by first | exact Below.refl _ _ | exact below_drewN _), hK _ ?_⟩; clear hC hC' hK K w1) | (refine calmA_check rfl rfl rfl ?_ ?_; (focus (intro _ _; simp [RA]; done))))
  refine calmA_nil ?_
  intro w1 hC hF
  have hb : Below w.heap.size w w1 := hC.1.2
  have hC' := hC.1.1
  have HC1 := Lib.hid hC.1.1
  simp only [Held, and_true] at hC'
  clear hC hF
  have O1 := Lib.hid (ownsRow_below HO.out hb)
  have S2 := Lib.hid (O1.out.stored (j * 2 + 1) (.float .f32 y))
  have K2 := Lib.hid ((Kept.of_below hb).trans (Kept.of_grown S2.out.2))
  obtain ⟨w2, hw2⟩ : ∃ w2, w2 = w1.setCell ⟨g, j * 2 + 1, none⟩ (.float .f32 y) := ⟨_, rfl⟩
  have O2 : Hid (w2.ownsRow B 66 2 (.slice (some ⟨g, 0, none⟩) n cap) n (fl (l.set (j * 2 + 1) y))) := by
    show World.ownsRow _ _ _ _ _ _ _
    rw [hw2, ← fl_set]
    exact S2.out.1
  have hz1 := hb.size
  have hk2 : Held [(⟨p, 0, none⟩, .slice (some ⟨g, 0, none⟩) n cap), (⟨p, 1, none⟩, v1), (⟨q1, 0, none⟩, .int .i64 (j : Int)), (⟨q2, 0, none⟩, .float .f32 y), (⟨q3, 0, none⟩, .float .f32 x)] w2 := by
    rw [hw2]
    refine Held_kept1 (v := .slice (some ⟨g, 0, none⟩) n cap) (Kept.of_grown S2.out.2) (by simp [Value.ownBlock]; omega) ?_
    simp [Held, *]
  have KK2 : Hid (Kept w w2 [some g]) := by
    show Kept _ _ _
    rw [hw2]
    exact K2.out
  have HK2 := Lib.hid hk2
  simp only [Held, and_true] at hk2
  go_wp2_with fail
  rw [← hw2]
  clear hw2 S2 K2 O1 f1 z1
  go_wp2_with (first | (go_at_call 84; refine (setTurn_any _ v1 n (l.set (j * 2 + 1) y) B p j x _ O2.out ⟨HK2.out.1, HK2.out.2.1, trivial⟩ hj hn).mono ?_; rintro e w4 ⟨rfl, ho4, hk4⟩))
  go_ret
  exact ⟨ret_bool (by simp), ho4, KK2.out.trans1 hk4⟩

set_option maxRecDepth 100000 in
set_option maxHeartbeats 8000000 in
theorem SetLink1_any (v0 v1 : Value) (n m : Nat) (l lk : List Nat) (B p q1 q2 q3 z : Nat) (i j : Int) (w : World) (h : w.ownsRow B 66 2 v0 n (fl l)) (h' : w.ownsRow B 22 1 v1 m (fl lk)) (hp : Held [(⟨p, 0, none⟩, v0), (⟨p, 1, none⟩, v1)] w) (hq : Held [(⟨q1, 0, none⟩, .int .i64 i), (⟨q2, 0, none⟩, .int .i64 j), (⟨q3, 0, none⟩, .float .f32 z)] w) (hn0 : 0 < n) (hn : n ≤ 12) (hm : m = n * n) :
    Calls Try.prog 67 #[.pointer (some ⟨p, 0, none⟩), .pointer (some ⟨q1, 0, none⟩), .pointer (some ⟨q2, 0, none⟩), .pointer (some ⟨q3, 0, none⟩)] w fun e w' => e = .returned (.bool (inZ i 0 ((n : Int) - 1) && inZ j 0 ((n : Int) - 1))) ∧ w'.ownsRow B 22 1 v1 m (fl (if inZ i 0 ((n : Int) - 1) && inZ j 0 ((n : Int) - 1) then lk.set (i.toNat * n + j.toNat) z else lk)) ∧ Kept w w' [v1.ownBlock] := by
  have hm0 : 0 < m := by have := Nat.mul_pos hn0 hn0; omega
  have hsq := sq_small hn
  have HM : Hid (m = n * n) := hm
  clear hm
  obtain ⟨g, cap, rfl⟩ := ownsRow_own h' hm0
  have hg := ownsRow_lt h' g rfl
  have hL := h'.1
  rw [fl_length] at hL
  have HO := Lib.hid h'
  have HP := Lib.hid hp
  have HQ := Lib.hid hq
  have HR := Lib.hid (ownsRow_rowAt h)
  simp only [Held, and_true] at hp hq
  cases hz : inZ i 0 ((n : Int) - 1)
  · go_enter Try.func67, Try.ntmps67
    go_wp2_with (first | (go_at_call 68; refine (has_any v0 _ n m _ p (i) _ hn HR.out HP.out).mono ?_; rintro e w' ⟨rfl, e9⟩; subst w'; rw [hz]))
    go_ret
    exact ⟨ret_bool (by simp), by simpa using HO.out, Kept.refl1 _ _⟩
  cases hy : inZ j 0 ((n : Int) - 1)
  · go_enter Try.func67, Try.ntmps67
    go_wp2_with (first | (go_at_call 68; refine (has_any v0 (.slice (some ⟨g, 0, none⟩) m cap) n m _ p _ _ hn HR.out HP.out).mono ?_; rintro e w' ⟨rfl, e9⟩; subst w'; (first | rw [hz] | rw [hy])))
    go_ret
    exact ⟨ret_bool (by simp), by simpa using HO.out, Kept.refl1 _ _⟩
  obtain ⟨i', rfl, hi⟩ := inZ_nat hz
  obtain ⟨j', rfl, hj⟩ := inZ_nat hy
  have hib := sq_bound hi
  simp only [Int.toNat_natCast, Bool.and_self, if_true]
  obtain ⟨q, hq0⟩ : ∃ q, q = i' * n := ⟨_, rfl⟩
  have hqi : (i' : Int) * (n : Int) = (q : Int) := by rw [hq0]; exact (Int.natCast_mul i' n).symm
  have hqn : q + n ≤ m := by have := HM.out; omega
  rw [← hq0]
  have f1 := (h'.cellAt (q + j') (by omega)).trans (fl_get (l := lk) (by omega))
  have z1 := h'.frozenAt (q + j')
  have hm144 : m ≤ 144 := by have := HM.out; omega
  clear h' h hsq hib hq0 hm0
  go_enter Try.func67, Try.ntmps67
  go_wp2_with (first | (go_at_call 68; refine (has_any v0 (.slice (some ⟨g, 0, none⟩) m cap) n m _ p _ _ hn HR.out HP.out).mono ?_; rintro e w' ⟨rfl, e9⟩; subst w'; (first | rw [hz] | rw [hy])))
  refine region_calmA_tail 12 w w.heap.size [(⟨p, 0, none⟩, v0), (⟨p, 1, none⟩, .slice (some ⟨g, 0, none⟩) m cap), (⟨q1, 0, none⟩, .int .i64 (i' : Int)), (⟨q2, 0, none⟩, .int .i64 (j' : Int)), (⟨q3, 0, none⟩, .float .f32 z), (⟨g, q + j', none⟩, .float .f32 (lk.getD (q + j') 0))] (fun _ _ v => v = .int .i64 (n : Int)) [] (by kernel_rfl) (by kernel_rfl) (by kernel_rfl) ⟨⟨by simp [Held, go_sem, *], by (repeat (first | (with_reducible exact Below.refl _ _) | (with_reducible refine Below.drewN ?_ _) | (with_reducible refine Below.drew ?_) | (with_reducible refine Below.allocS ?_ _) | ((with_reducible refine Below.setCell ?_ ?_ _); rotate_left; focus (first | omega | (simp; done) | (simp; omega))) | (with_reducible refine Below.step ?_ (by assumption))))⟩, by (first | (simp; done) | (simp; omega) | omega)⟩ ?_
  simp only [List.take_succ_cons, List.take_zero, List.drop_succ_cons, List.drop_zero]
  repeat (first | (first | (refine calmA_plain rfl rfl ?_ (fun K hK w1 hC => ?_); (focus (intro _ _; simp [RA]; done)); have hC' := hC.1.1; simp only [Held, and_true] at hC'; go_wp2_with (first | (refine wpList_fbin rfl rfl rfl rfl rfl (fun r n9 hr => ?_)) | (refine wpList_widen rfl rfl Try.underlying44 Try.underlying22 rfl (fun r n9 hr => ?_))); refine ⟨rfl, (by first | exact Below.refl _ _ | exact below_drewN _), hK _ ?_⟩; clear hC hC' hK K w1) | (refine calmA_check rfl rfl rfl ?_ ?_; (focus (intro _ _; simp [RA]; done)))) | (refine calmA_call (f := 69) (args := _) rfl ?_ (by (intro w1; simp [execOp, resolve, invoke, go_sem]; with_reducible rfl)) (fun w7 hC => ?_) ?_; (focus (intro _ _; simp [RA]; done)); (focus (refine (many_any v0 (.slice (some ⟨g, 0, none⟩) m cap) n m _ p _ (HR.out.below hC.1.2) ⟨hC.1.1.1, hC.1.1.2.1, trivial⟩).mono ?_; rintro e w8 ⟨rfl, rfl⟩; exact ⟨_, rfl, rfl, Below.refl _ _⟩)); rintro v9 rfl))
  refine calmA_nil ?_
  intro w1 hC hF
  have hb : Below w.heap.size w w1 := hC.1.2
  have hC' := hC.1.1
  simp only [Held, and_true] at hC'
  clear hC hF
  go_wp2_with fail
  go_ret
  have h2 := ownsRow_below HO.out hb
  have h3 := h2.stored (q + j') (.float .f32 z)
  rw [fl_set] at h3
  exact ⟨rfl, h3.1, (Kept.of_below hb).trans (Kept.of_grown h3.2)⟩

set_option maxRecDepth 100000 in
set_option maxHeartbeats 8000000 in
theorem implSetClock_any (v v' : Value) (n m : Nat) (l lk : List Nat) (i : Int) (x y : Nat) (w : World) (h : RowAt w v 2 n (fl l)) (h' : RowAt w v' 1 m (fl lk)) : Calls Try.prog 40 #[.agg #[v, v'], .int .i64 i, .float .f32 x, .float .f32 y] w (GiveC (cN ((clocksB n l m lk && (inZ i 0 ((n : Int) - 1) && finB .f32 x)) && clocksB n (clockSet l i.toNat x y) m (lk)) n) (cL ((clocksB n l m lk && (inZ i 0 ((n : Int) - 1) && finB .f32 x)) && clocksB n (clockSet l i.toNat x y) m (lk)) (clockSet l i.toNat x y)) (cN ((clocksB n l m lk && (inZ i 0 ((n : Int) - 1) && finB .f32 x)) && clocksB n (clockSet l i.toNat x y) m (lk)) m) (cL ((clocksB n l m lk && (inZ i 0 ((n : Int) - 1) && finB .f32 x)) && clocksB n (clockSet l i.toNat x y) m (lk)) (lk)) ((clocksB n l m lk && (inZ i 0 ((n : Int) - 1) && finB .f32 x)) && clocksB n (clockSet l i.toNat x y) m (lk)) w) := by
  have H := Lib.hid h
  have H' := Lib.hid h'
  clear h h'
  go_enter Try.func40, Try.ntmps40
  go_wp2_with fail
  have hR : (clocksB n l m lk && (inZ i 0 ((n : Int) - 1) && finB .f32 x) && clocksB n (if inZ i 0 ((n : Int) - 1) then clockSet l i.toNat x y else l) m lk) = ((clocksB n l m lk && (inZ i 0 ((n : Int) - 1) && finB .f32 x)) && clocksB n (clockSet l i.toNat x y) m lk) := by
    cases hz : inZ i 0 ((n : Int) - 1)
    · simp
    · rfl
  have hR2 : ∀ b : Bool, b = ((clocksB n l m lk && (inZ i 0 ((n : Int) - 1) && finB .f32 x)) && clocksB n (clockSet l i.toNat x y) m lk) → cL b (if inZ i 0 ((n : Int) - 1) then clockSet l i.toNat x y else l) = cL b (clockSet l i.toNat x y) := by
    intro b hb
    cases hz : inZ i 0 ((n : Int) - 1)
    · rw [hz] at hb
      simp at hb
      rw [hb]; rfl
    · rfl
  have HR9 := Lib.hid hR
  have HR8 := Lib.hid hR2
  clear hR hR2
  refine (changedClocks_any v v' n m l lk 83 #[.pointer (some ⟨w.heap.size + 1, 0, none⟩), .pointer (some ⟨w.heap.size + 1 + 1 + 1, 0, none⟩), .pointer (some ⟨w.heap.size + 1 + 1, 0, none⟩)] (inZ i 0 ((n : Int) - 1) && finB .f32 x) n (if inZ i 0 ((n : Int) - 1) then clockSet l i.toNat x y else l) m lk _ ?_ ?_ ?_ ?_).mono ?_
  · refine RowAt.below H.out ?_
    (repeat (first | assumption | (with_reducible exact Below.refl _ _) | (with_reducible refine Below.drewN ?_ _) | (with_reducible refine Below.drew ?_) | (with_reducible refine Below.allocS ?_ _) | ((with_reducible refine Below.setCell ?_ ?_ _); rotate_left; focus (first | omega | (simp; done) | (simp; omega))) | (with_reducible refine Below.step ?_ (by assumption))))
  · refine RowAt.below H'.out ?_
    (repeat (first | assumption | (with_reducible exact Below.refl _ _) | (with_reducible refine Below.drewN ?_ _) | (with_reducible refine Below.drew ?_) | (with_reducible refine Below.allocS ?_ _) | ((with_reducible refine Below.setCell ?_ ?_ _); rotate_left; focus (first | omega | (simp; done) | (simp; omega))) | (with_reducible refine Below.step ?_ (by assumption))))
  · intro w1 x
    simp [go_sem]
  · intro hc B w1 p v0 v1 hB hp HP o0 o1 l0 l1 hb
    have c1 := (clocks_parts hc).1
    have c2 := (clocks_parts hc).2.1
    simp at hB
    refine (SetClock1_any v0 v1 n m l lk B p _ _ _ x y i w1 o0 o1 HP (Held.below hb (by simp [Held, go_sem])) (by omega) c2 l0 ⟨by omega, by omega, by omega⟩).mono ?_
    rintro e w2 ⟨rfl, h0, hk⟩
    refine ⟨v0, v1, rfl, ?_, h0, ?_, ?_⟩
    · exact Held_kept1 hk (by simp only [List.mem_cons, List.not_mem_nil, or_false, forall_eq_or_imp, forall_eq]; exact ⟨fun e9 => Nat.lt_irrefl _ (l0 _ e9), fun e9 => Nat.lt_irrefl _ (l0 _ e9)⟩) HP
    · exact ownsRow_kept o1 hk (fun i hi hm => ownsRow_ne o0 o1 tc_ne i (List.mem_singleton.1 hm).symm hi)
    · exact ⟨hk.os, hk.tape, hk.output, hk.size, fun j hj hne => hk.block j hj (fun hm => hne (by simp at hm ⊢; simp [hm]))⟩
  rw [HR9.out, HR8.out _ rfl]
  rintro e w4 ⟨u0, u1, rfl, ou0, ou1, une, hb4⟩
  obtain ⟨a0, k0, d0, rfl⟩ := ownsRow_shape ou0
  obtain ⟨a1, k1, d1, rfl⟩ := ownsRow_shape ou1
  have hk4 := Held.below hb4 (l := [(⟨w.heap.size + 1 + 1 + 1 + 1, 0, none⟩, .slice none 0 0), (⟨w.heap.size + 1 + 1 + 1 + 1, 1, none⟩, .slice none 0 0)]) (by simp [Held, go_sem])
  simp only [Held, and_true] at hk4
  have OU0 := Lib.hid (ownsRow_base (base' := w.heap.size + 1 + 1 + 1 + 1 + 1) (by simp) ou0)
  have OU1 := Lib.hid (ownsRow_base (base' := w.heap.size + 1 + 1 + 1 + 1 + 1) (by simp) ou1)
  clear ou0 ou1
  go_wp2_with fail
  refine bodyPost_ret (v := ?_) (by first | (simp [results, Try.results40, go_sem, *]; rfl) | (simp [results, Try.results40, go_sem, *]; done)) rfl ?_
  refine ⟨_, _, rfl, ?_, ?_, une, ?_⟩
  · refine ownsRow_base (base := w.heap.size + 1 + 1 + 1 + 1 + 1) (by omega) ?_
    have := OU0.out
    (repeat (first | (with_reducible refine World.ownsRow.alloc ?_ _) | (with_reducible refine ownsRow_drewN ?_ _) | ((with_reducible refine ownsRow_setCell_below ?_ ?_ _); rotate_left; focus (first | omega | (simp; done) | (simp; omega)))))
    exact this
  · refine ownsRow_base (base := w.heap.size + 1 + 1 + 1 + 1 + 1) (by omega) ?_
    have := OU1.out
    (repeat (first | (with_reducible refine World.ownsRow.alloc ?_ _) | (with_reducible refine ownsRow_drewN ?_ _) | ((with_reducible refine ownsRow_setCell_below ?_ ?_ _); rotate_left; focus (first | omega | (simp; done) | (simp; omega)))))
    exact this
  · (repeat (first | assumption | (with_reducible exact Below.refl _ _) | (with_reducible refine Below.drewN ?_ _) | (with_reducible refine Below.drew ?_) | (with_reducible refine Below.allocS ?_ _) | ((with_reducible refine Below.setCell ?_ ?_ _); rotate_left; focus (first | omega | (simp; done) | (simp; omega))) | (with_reducible refine Below.step ?_ (by assumption))))

set_option maxRecDepth 100000 in
set_option maxHeartbeats 8000000 in
theorem implSetLink_any (v v' : Value) (n m : Nat) (l lk : List Nat) (i j : Int) (z : Nat) (w : World) (h : RowAt w v 2 n (fl l)) (h' : RowAt w v' 1 m (fl lk)) : Calls Try.prog 23 #[.agg #[v, v'], .int .i64 i, .int .i64 j, .float .f32 z] w (GiveC (cN ((clocksB n l m lk && (inZ i 0 ((n : Int) - 1) && inZ j 0 ((n : Int) - 1))) && clocksB n (l) m (lk.set (i.toNat * n + j.toNat) z)) n) (cL ((clocksB n l m lk && (inZ i 0 ((n : Int) - 1) && inZ j 0 ((n : Int) - 1))) && clocksB n (l) m (lk.set (i.toNat * n + j.toNat) z)) (l)) (cN ((clocksB n l m lk && (inZ i 0 ((n : Int) - 1) && inZ j 0 ((n : Int) - 1))) && clocksB n (l) m (lk.set (i.toNat * n + j.toNat) z)) m) (cL ((clocksB n l m lk && (inZ i 0 ((n : Int) - 1) && inZ j 0 ((n : Int) - 1))) && clocksB n (l) m (lk.set (i.toNat * n + j.toNat) z)) (lk.set (i.toNat * n + j.toNat) z)) ((clocksB n l m lk && (inZ i 0 ((n : Int) - 1) && inZ j 0 ((n : Int) - 1))) && clocksB n (l) m (lk.set (i.toNat * n + j.toNat) z)) w) := by
  have H := Lib.hid h
  have H' := Lib.hid h'
  clear h h'
  go_enter Try.func23, Try.ntmps23
  go_wp2_with fail
  have hR : (clocksB n l m lk && (inZ i 0 ((n : Int) - 1) && inZ j 0 ((n : Int) - 1)) && clocksB n l m (if (inZ i 0 ((n : Int) - 1) && inZ j 0 ((n : Int) - 1)) then lk.set (i.toNat * n + j.toNat) z else lk)) = ((clocksB n l m lk && (inZ i 0 ((n : Int) - 1) && inZ j 0 ((n : Int) - 1))) && clocksB n l m (lk.set (i.toNat * n + j.toNat) z)) := by
    cases hz : (inZ i 0 ((n : Int) - 1) && inZ j 0 ((n : Int) - 1))
    · simp
    · rfl
  have hR2 : ∀ b : Bool, b = ((clocksB n l m lk && (inZ i 0 ((n : Int) - 1) && inZ j 0 ((n : Int) - 1))) && clocksB n l m (lk.set (i.toNat * n + j.toNat) z)) → cL b (if (inZ i 0 ((n : Int) - 1) && inZ j 0 ((n : Int) - 1)) then lk.set (i.toNat * n + j.toNat) z else lk) = cL b (lk.set (i.toNat * n + j.toNat) z) := by
    intro b hb
    cases hz : (inZ i 0 ((n : Int) - 1) && inZ j 0 ((n : Int) - 1))
    · rw [hz] at hb
      simp at hb
      rw [hb]; rfl
    · rfl
  have HR9 := Lib.hid hR
  have HR8 := Lib.hid hR2
  clear hR hR2
  refine (changedClocks_any v v' n m l lk 67 #[.pointer (some ⟨w.heap.size + 1, 0, none⟩), .pointer (some ⟨w.heap.size + 1 + 1, 0, none⟩), .pointer (some ⟨w.heap.size + 1 + 1 + 1, 0, none⟩)] (inZ i 0 ((n : Int) - 1) && inZ j 0 ((n : Int) - 1)) n l m (if (inZ i 0 ((n : Int) - 1) && inZ j 0 ((n : Int) - 1)) then lk.set (i.toNat * n + j.toNat) z else lk) _ ?_ ?_ ?_ ?_).mono ?_
  · refine RowAt.below H.out ?_
    (repeat (first | assumption | (with_reducible exact Below.refl _ _) | (with_reducible refine Below.drewN ?_ _) | (with_reducible refine Below.drew ?_) | (with_reducible refine Below.allocS ?_ _) | ((with_reducible refine Below.setCell ?_ ?_ _); rotate_left; focus (first | omega | (simp; done) | (simp; omega))) | (with_reducible refine Below.step ?_ (by assumption))))
  · refine RowAt.below H'.out ?_
    (repeat (first | assumption | (with_reducible exact Below.refl _ _) | (with_reducible refine Below.drewN ?_ _) | (with_reducible refine Below.drew ?_) | (with_reducible refine Below.allocS ?_ _) | ((with_reducible refine Below.setCell ?_ ?_ _); rotate_left; focus (first | omega | (simp; done) | (simp; omega))) | (with_reducible refine Below.step ?_ (by assumption))))
  · intro w1 x
    simp [go_sem]
  · intro hc B w1 p v0 v1 hB hp HP o0 o1 l0 l1 hb
    have c1 := (clocks_parts hc).1
    have c2 := (clocks_parts hc).2.1
    have c4 := (clocks_parts hc).2.2.2.1
    simp at hB
    refine (SetLink1_any v0 v1 n m l lk B p _ _ _ z i j w1 o0 o1 HP (Held.below hb (by simp [Held, go_sem])) (by omega) c2 c4).mono ?_
    rintro e w2 ⟨rfl, h0, hk⟩
    refine ⟨v0, v1, rfl, ?_, ?_, h0, ?_⟩
    · exact Held_kept1 hk (by simp only [List.mem_cons, List.not_mem_nil, or_false, forall_eq_or_imp, forall_eq]; exact ⟨fun e9 => Nat.lt_irrefl _ (l1 _ e9), fun e9 => Nat.lt_irrefl _ (l1 _ e9)⟩) HP
    · exact ownsRow_kept o0 hk (fun i hi hm => ownsRow_ne o0 o1 tc_ne i hi (List.mem_singleton.1 hm).symm)
    · exact ⟨hk.os, hk.tape, hk.output, hk.size, fun j hj hne => hk.block j hj (fun hm => hne (by simp at hm ⊢; simp [hm]))⟩
  rw [HR9.out, HR8.out _ rfl]
  rintro e w4 ⟨u0, u1, rfl, ou0, ou1, une, hb4⟩
  obtain ⟨a0, k0, d0, rfl⟩ := ownsRow_shape ou0
  obtain ⟨a1, k1, d1, rfl⟩ := ownsRow_shape ou1
  have hk4 := Held.below hb4 (l := [(⟨w.heap.size + 1 + 1 + 1 + 1, 0, none⟩, .slice none 0 0), (⟨w.heap.size + 1 + 1 + 1 + 1, 1, none⟩, .slice none 0 0)]) (by simp [Held, go_sem])
  simp only [Held, and_true] at hk4
  have OU0 := Lib.hid (ownsRow_base (base' := w.heap.size + 1 + 1 + 1 + 1 + 1) (by simp) ou0)
  have OU1 := Lib.hid (ownsRow_base (base' := w.heap.size + 1 + 1 + 1 + 1 + 1) (by simp) ou1)
  clear ou0 ou1
  go_wp2_with fail
  refine bodyPost_ret (v := ?_) (by first | (simp [results, Try.results23, go_sem, *]; rfl) | (simp [results, Try.results23, go_sem, *]; done)) rfl ?_
  refine ⟨_, _, rfl, ?_, ?_, une, ?_⟩
  · refine ownsRow_base (base := w.heap.size + 1 + 1 + 1 + 1 + 1) (by omega) ?_
    have := OU0.out
    (repeat (first | (with_reducible refine World.ownsRow.alloc ?_ _) | (with_reducible refine ownsRow_drewN ?_ _) | ((with_reducible refine ownsRow_setCell_below ?_ ?_ _); rotate_left; focus (first | omega | (simp; done) | (simp; omega)))))
    exact this
  · refine ownsRow_base (base := w.heap.size + 1 + 1 + 1 + 1 + 1) (by omega) ?_
    have := OU1.out
    (repeat (first | (with_reducible refine World.ownsRow.alloc ?_ _) | (with_reducible refine ownsRow_drewN ?_ _) | ((with_reducible refine ownsRow_setCell_below ?_ ?_ _); rotate_left; focus (first | omega | (simp; done) | (simp; omega)))))
    exact this
  · (repeat (first | assumption | (with_reducible exact Below.refl _ _) | (with_reducible refine Below.drewN ?_ _) | (with_reducible refine Below.drew ?_) | (with_reducible refine Below.allocS ?_ _) | ((with_reducible refine Below.setCell ?_ ?_ _); rotate_left; focus (first | omega | (simp; done) | (simp; omega))) | (with_reducible refine Below.step ?_ (by assumption))))

set_option maxRecDepth 100000 in
set_option maxHeartbeats 8000000 in
theorem l05Give_any (a0 a1 : Option Addr) (k0 d0 k1 d1 n m : Nat) (l lk : List Nat) (w : World) (h : RowAt w (.slice a0 k0 d0) 2 n (fl l)) (h' : RowAt w (.slice a1 k1 d1) 1 m (fl lk)) : Calls Try.prog 53 #[.agg #[.slice a0 k0 d0, .slice a1 k1 d1]] w fun e w' => e = .returned (.tuple #[if clocksB n l m lk then .agg #[.slice a0 k0 d0, .slice a1 k1 d1] else .agg #[.slice none 0 0, .slice none 0 0], .bool (clocksB n l m lk)]) ∧ Below w.heap.size w w' := by
  have H := Lib.hid h
  have H' := Lib.hid h'
  clear h h'
  cases hc : clocksB n l m lk
  all_goals
    go_enter Try.func53, Try.ntmps53
    go_wp2_with (first | (go_at_call 77; refine (l05Is_any (.slice a0 k0 d0) (.slice a1 k1 d1) n m l lk _ _ ?_ ?_ ?_).mono ?_; (focus (refine RowAt.below H.out ?_; (repeat (first | assumption | (with_reducible exact Below.refl _ _) | (with_reducible refine Below.drewN ?_ _) | (with_reducible refine Below.drew ?_) | (with_reducible refine Below.allocS ?_ _) | ((with_reducible refine Below.setCell ?_ ?_ _); rotate_left; focus (first | omega | (simp; done) | (simp; omega))) | (with_reducible refine Below.step ?_ (by assumption)))); done)); (focus (refine RowAt.below H'.out ?_; (repeat (first | assumption | (with_reducible exact Below.refl _ _) | (with_reducible refine Below.drewN ?_ _) | (with_reducible refine Below.drew ?_) | (with_reducible refine Below.allocS ?_ _) | ((with_reducible refine Below.setCell ?_ ?_ _); rotate_left; focus (first | omega | (simp; done) | (simp; omega))) | (with_reducible refine Below.step ?_ (by assumption)))); done)); (focus (simp [Held, go_sem]; done)); rintro e w' ⟨c9, rfl, rfl⟩; rw [hc]))
    refine bodyPost_ret (v := ?_) (by first | (simp [results, Try.results53, go_sem, *]; rfl) | (simp [results, Try.results53, go_sem, *]; done)) rfl ?_
    refine ⟨rfl, ?_⟩
    (repeat (first | assumption | (with_reducible exact Below.refl _ _) | (with_reducible refine Below.drewN ?_ _) | (with_reducible refine Below.drew ?_) | (with_reducible refine Below.allocS ?_ _) | ((with_reducible refine Below.setCell ?_ ?_ _); rotate_left; focus (first | omega | (simp; done) | (simp; omega))) | (with_reducible refine Below.step ?_ (by assumption))))

set_option maxRecDepth 100000 in
set_option maxHeartbeats 8000000 in
theorem specSetClock_any (v v' : Value) (n m : Nat) (l lk : List Nat) (i : Int) (x y : Nat) (w : World) (h : RowAt w v 2 n (fl l)) (h' : RowAt w v' 1 m (fl lk)) : Calls Try.prog 39 #[.agg #[v, v'], .int .i64 i, .float .f32 x, .float .f32 y] w (GiveC (cN ((clocksB n l m lk && (inZ i 0 ((n : Int) - 1) && finB .f32 x)) && clocksB n (clockSet l i.toNat x y) m (lk)) n) (cL ((clocksB n l m lk && (inZ i 0 ((n : Int) - 1) && finB .f32 x)) && clocksB n (clockSet l i.toNat x y) m (lk)) (clockSet l i.toNat x y)) (cN ((clocksB n l m lk && (inZ i 0 ((n : Int) - 1) && finB .f32 x)) && clocksB n (clockSet l i.toNat x y) m (lk)) m) (cL ((clocksB n l m lk && (inZ i 0 ((n : Int) - 1) && finB .f32 x)) && clocksB n (clockSet l i.toNat x y) m (lk)) (lk)) ((clocksB n l m lk && (inZ i 0 ((n : Int) - 1) && finB .f32 x)) && clocksB n (clockSet l i.toNat x y) m (lk)) w) := by
  have H := Lib.hid h
  have H' := Lib.hid h'
  clear h h'
  cases hi : (clocksB n l m lk && inZ i 0 ((n : Int) - 1))
  · rw [show (clocksB n l m lk && (inZ i 0 ((n : Int) - 1) && finB .f32 x)) = false by rw [← Bool.and_assoc, hi]; rfl]
    go_enter Try.func39, Try.ntmps39
    go_wp2_with (first | (go_at_call 62; refine (l05Index_any v v' n m l lk _ i _ ?_ ?_ ?_).mono ?_; (focus (refine RowAt.below H.out ?_; (repeat (first | assumption | (with_reducible exact Below.refl _ _) | (with_reducible refine Below.drewN ?_ _) | (with_reducible refine Below.drew ?_) | (with_reducible refine Below.allocS ?_ _) | ((with_reducible refine Below.setCell ?_ ?_ _); rotate_left; focus (first | omega | (simp; done) | (simp; omega))) | (with_reducible refine Below.step ?_ (by assumption)))); done)); (focus (refine RowAt.below H'.out ?_; (repeat (first | assumption | (with_reducible exact Below.refl _ _) | (with_reducible refine Below.drewN ?_ _) | (with_reducible refine Below.drew ?_) | (with_reducible refine Below.allocS ?_ _) | ((with_reducible refine Below.setCell ?_ ?_ _); rotate_left; focus (first | omega | (simp; done) | (simp; omega))) | (with_reducible refine Below.step ?_ (by assumption)))); done)); (focus (simp [Held, go_sem]; done)); rintro e w' ⟨c9, rfl, rfl⟩; rw [hi]))
    refine bodyPost_ret (v := ?_) (by first | (simp [results, Try.results39, go_sem, *]; rfl) | (simp [results, Try.results39, go_sem, *]; done)) rfl ?_
    refine ⟨_, _, rfl, ownsRow_nil', ownsRow_nil', (fun i hi => by cases hi), ?_⟩
    (repeat (first | assumption | (with_reducible exact Below.refl _ _) | (with_reducible refine Below.drewN ?_ _) | (with_reducible refine Below.drew ?_) | (with_reducible refine Below.allocS ?_ _) | ((with_reducible refine Below.setCell ?_ ?_ _); rotate_left; focus (first | omega | (simp; done) | (simp; omega))) | (with_reducible refine Below.step ?_ (by assumption))))
  cases hx : finB .f32 x
  · rw [show (clocksB n l m lk && (inZ i 0 ((n : Int) - 1) && false)) = false by rw [Bool.and_false, Bool.and_false]]
    go_enter Try.func39, Try.ntmps39
    go_wp2_with (first | (go_at_call 62; refine (l05Index_any v v' n m l lk _ i _ ?_ ?_ ?_).mono ?_; (focus (refine RowAt.below H.out ?_; (repeat (first | assumption | (with_reducible exact Below.refl _ _) | (with_reducible refine Below.drewN ?_ _) | (with_reducible refine Below.drew ?_) | (with_reducible refine Below.allocS ?_ _) | ((with_reducible refine Below.setCell ?_ ?_ _); rotate_left; focus (first | omega | (simp; done) | (simp; omega))) | (with_reducible refine Below.step ?_ (by assumption)))); done)); (focus (refine RowAt.below H'.out ?_; (repeat (first | assumption | (with_reducible exact Below.refl _ _) | (with_reducible refine Below.drewN ?_ _) | (with_reducible refine Below.drew ?_) | (with_reducible refine Below.allocS ?_ _) | ((with_reducible refine Below.setCell ?_ ?_ _); rotate_left; focus (first | omega | (simp; done) | (simp; omega))) | (with_reducible refine Below.step ?_ (by assumption)))); done)); (focus (simp [Held, go_sem]; done)); rintro e w' ⟨c9, rfl, rfl⟩; rw [hi]) | (go_at_call 80; refine (l01Finite_any _ _).mono ?_; rintro e w' ⟨n9, rfl, rfl⟩; rw [hx]))
    refine bodyPost_ret (v := ?_) (by first | (simp [results, Try.results39, go_sem, *]; rfl) | (simp [results, Try.results39, go_sem, *]; done)) rfl ?_
    refine ⟨_, _, rfl, ownsRow_nil', ownsRow_nil', (fun i hi => by cases hi), ?_⟩
    (repeat (first | assumption | (with_reducible exact Below.refl _ _) | (with_reducible refine Below.drewN ?_ _) | (with_reducible refine Below.drew ?_) | (with_reducible refine Below.allocS ?_ _) | ((with_reducible refine Below.setCell ?_ ?_ _); rotate_left; focus (first | omega | (simp; done) | (simp; omega))) | (with_reducible refine Below.step ?_ (by assumption))))
  rw [show (clocksB n l m lk && (inZ i 0 ((n : Int) - 1) && true)) = true by rw [Bool.and_true]; exact hi]
  rw [Bool.true_and]
  have hc : clocksB n l m lk = true := by simp only [Bool.and_eq_true] at hi; exact hi.1
  obtain ⟨j, rfl, hj⟩ := inZ_nat (by simp only [Bool.and_eq_true] at hi; exact hi.2)
  obtain ⟨c1, c2, c3, c4, c5⟩ := clocks_parts hc
  have hm0 : 0 < m := by have := Nat.mul_pos (by omega : 0 < n) (by omega : 0 < n); omega
  have hm9 : m ≤ 144 := by have := sq_small c2; omega
  clear c3 c4 c5 hc
  simp only [Int.toNat_natCast]
  have ht : wrapQ x = turnQ x := by unfold turnQ; rw [if_pos hx]
  go_enter Try.func39, Try.ntmps39
  go_wp2_with (first | (go_at_call 62; refine (l05Index_any v v' n m l lk _ (j : Int) _ ?_ ?_ ?_).mono ?_; (focus (refine RowAt.below H.out ?_; (repeat (first | assumption | (with_reducible exact Below.refl _ _) | (with_reducible refine Below.drewN ?_ _) | (with_reducible refine Below.drew ?_) | (with_reducible refine Below.allocS ?_ _) | ((with_reducible refine Below.setCell ?_ ?_ _); rotate_left; focus (first | omega | (simp; done) | (simp; omega))) | (with_reducible refine Below.step ?_ (by assumption)))); done)); (focus (refine RowAt.below H'.out ?_; (repeat (first | assumption | (with_reducible exact Below.refl _ _) | (with_reducible refine Below.drewN ?_ _) | (with_reducible refine Below.drew ?_) | (with_reducible refine Below.allocS ?_ _) | ((with_reducible refine Below.setCell ?_ ?_ _); rotate_left; focus (first | omega | (simp; done) | (simp; omega))) | (with_reducible refine Below.step ?_ (by assumption)))); done)); (focus (simp [Held, go_sem]; done)); rintro e w' ⟨c9, rfl, rfl⟩; rw [hi]) | (go_at_call 80; refine (l01Finite_any _ _).mono ?_; rintro e w' ⟨n9, rfl, rfl⟩; rw [hx]) | (go_at_call 63; refine (l05Own_any v v' n m l lk _ _ ?_ ?_ ?_ (by omega) hm0 (by omega) (by omega)).mono ?_; (focus (refine RowAt.below H.out ?_; (repeat (first | assumption | (with_reducible exact Below.refl _ _) | (with_reducible refine Below.drewN ?_ _) | (with_reducible refine Below.drew ?_) | (with_reducible refine Below.allocS ?_ _) | ((with_reducible refine Below.setCell ?_ ?_ _); rotate_left; focus (first | omega | (simp; done) | (simp; omega))) | (with_reducible refine Below.step ?_ (by assumption)))); done)); (focus (refine RowAt.below H'.out ?_; (repeat (first | assumption | (with_reducible exact Below.refl _ _) | (with_reducible refine Below.drewN ?_ _) | (with_reducible refine Below.drew ?_) | (with_reducible refine Below.allocS ?_ _) | ((with_reducible refine Below.setCell ?_ ?_ _); rotate_left; focus (first | omega | (simp; done) | (simp; omega))) | (with_reducible refine Below.step ?_ (by assumption)))); done)); (focus (simp [Held, go_sem]; done))))
  rintro e w2 ⟨u0, u1, rfl, ou0, ou1, hb2⟩
  obtain ⟨ga, ca, rfl⟩ := ownsRow_own ou0 (by omega)
  obtain ⟨gb, cb, rfl⟩ := ownsRow_own ou1 (by omega)
  have hk2 := Held.below hb2 (l := [(⟨w.heap.size, 0, none⟩, v), (⟨w.heap.size, 1, none⟩, v'), (⟨w.heap.size + 1, 0, none⟩, .slice none 0 0), (⟨w.heap.size + 1, 1, none⟩, .slice none 0 0)]) (by simp [Held, go_sem, *])
  simp only [Held, and_true] at hk2
  have hg0 := ownsRow_lt ou0 ga rfl
  have hg1 := ownsRow_lt ou1 gb rfl
  have hB2 : Below w.heap.size w w2 := by (repeat (first | assumption | (with_reducible exact Below.refl _ _) | (with_reducible refine Below.drewN ?_ _) | (with_reducible refine Below.drew ?_) | (with_reducible refine Below.allocS ?_ _) | ((with_reducible refine Below.setCell ?_ ?_ _); rotate_left; focus (first | omega | (simp; done) | (simp; omega))) | (with_reducible refine Below.step ?_ (by assumption))))
  simp at hg0 hg1
  have ou0' := ownsRow_base (base' := w.heap.size + 1 + 1) (by simp) ou0
  have ou1' := ownsRow_base (base' := w.heap.size + 1 + 1) (by simp) ou1
  have hne := ownsRow_ne ou0' ou1' tc_ne
  have hL0 := ou0'.1
  have hL1 := ou1'.1
  rw [fl_length] at hL0 hL1
  clear ou0 ou1
  obtain ⟨w3, hw3⟩ : ∃ w3, w3 = w2.alloc (.cells #[.slice (some ⟨ga, 0, none⟩) n ca, .slice (some ⟨gb, 0, none⟩) m cb] 26) := ⟨_, rfl⟩
  have O0 : Hid (w3.ownsRow (w.heap.size + 1 + 1) 66 2 (.slice (some ⟨ga, 0, none⟩) n ca) n (fl l)) := by rw [hw3]; exact ou0'.alloc _
  have O1 : Hid (w3.ownsRow (w.heap.size + 1 + 1) 22 1 (.slice (some ⟨gb, 0, none⟩) m cb) m (fl lk)) := by rw [hw3]; exact ou1'.alloc _
  have HK3 : Hid (Held [(⟨w.heap.size, 0, none⟩, v), (⟨w.heap.size, 1, none⟩, v'), (⟨w.heap.size + 1, 0, none⟩, .slice none 0 0), (⟨w.heap.size + 1, 1, none⟩, .slice none 0 0), (⟨w2.heap.size, 0, none⟩, .slice (some ⟨ga, 0, none⟩) n ca), (⟨w2.heap.size, 1, none⟩, .slice (some ⟨gb, 0, none⟩) m cb)] w3) := by rw [hw3]; show Held _ _; simp [Held, go_sem, *]
  have hB3 : Below w.heap.size w w3 := by rw [hw3]; (repeat (first | assumption | (with_reducible exact Below.refl _ _) | (with_reducible refine Below.drewN ?_ _) | (with_reducible refine Below.drew ?_) | (with_reducible refine Below.allocS ?_ _) | ((with_reducible refine Below.setCell ?_ ?_ _); rotate_left; focus (first | omega | (simp; done) | (simp; omega))) | (with_reducible refine Below.step ?_ (by assumption))))
  have hz3 : w2.heap.size < w3.heap.size := by rw [hw3]; simp
  clear ou0' ou1'
  go_wp2_with fail
  rw [← hw3]
  clear hw3 hk2
  have hk3 := HK3.out
  simp only [Held, and_true] at hk3
  have f0 := (O0.out.cellAt (j * 2) (by omega)).trans (fl_get (l := l) (by omega))
  have z0 := O0.out.frozenAt (j * 2)
  have f1 := (O0.out.cellAt (j * 2 + 1) (by omega)).trans (fl_get (l := l) (by omega))
  have z1 := O0.out.frozenAt (j * 2 + 1)
  have hga3 : ga < w3.heap.size := by omega
  go_wp2_with fail
  refine region_calmA_tail 8 w3 w3.heap.size [(⟨w2.heap.size, 0, none⟩, .slice (some ⟨ga, 0, none⟩) n ca), (⟨w2.heap.size, 1, none⟩, .slice (some ⟨gb, 0, none⟩) m cb), (⟨ga, j * 2, none⟩, .float .f32 (l.getD (j * 2) 0)), (⟨ga, j * 2 + 1, none⟩, .float .f32 (l.getD (j * 2 + 1) 0))] (fun _ _ v => v = .float .f32 (turnQ x)) [] (by kernel_rfl) (by kernel_rfl) (by kernel_rfl) ⟨⟨by simp [Held, go_sem, *], by (repeat (first | (with_reducible exact Below.refl _ _) | (with_reducible refine Below.drewN ?_ _) | (with_reducible refine Below.drew ?_) | (with_reducible refine Below.allocS ?_ _) | ((with_reducible refine Below.setCell ?_ ?_ _); rotate_left; focus (first | omega | (simp; done) | (simp; omega))) | (with_reducible refine Below.step ?_ (by assumption))))⟩, by (first | (simp; done) | (simp; omega) | omega)⟩ ?_
  simp only [List.take_succ_cons, List.take_zero, List.drop_succ_cons, List.drop_zero]
  repeat (first | (first | (refine calmA_plain rfl rfl ?_ (fun K hK w1 hC => ?_); (focus (intro _ _; simp [RA]; done)); have hC' := hC.1.1; simp only [Held, and_true] at hC'; go_wp2_with (first | (refine wpList_fbin rfl rfl rfl rfl rfl (fun r n9 hr => ?_)) | (refine wpList_widen rfl rfl Try.underlying44 Try.underlying22 rfl (fun r n9 hr => ?_))); refine ⟨rfl, (by first | exact Below.refl _ _ | exact below_drewN _), hK _ ?_⟩; clear hC hC' hK K w1) | (refine calmA_check rfl rfl rfl ?_ ?_; (focus (intro _ _; simp [RA]; done)))) | (refine calmA_call (f := 82) (args := _) rfl ?_ (by (intro w1; simp [execOp, resolve, invoke, go_sem]; with_reducible rfl)) (fun w1 hC => ?_) ?_; (focus (intro _ _; simp [RA]; done)); (focus (refine (l05Wrap_any _ _ hx).mono ?_; rintro e w2 ⟨n9, rfl, rfl⟩; exact ⟨_, rfl, by rw [ht], below_drewN _⟩)); rintro v9 rfl))
  refine calmA_nil ?_
  intro w4 hC hF
  have hb4 : Below w3.heap.size w3 w4 := hC.1.2
  have hC' := hC.1.1
  simp only [Held, and_true] at hC'
  clear hC hF
  have P0 := ownsRow_below O0.out hb4
  have P1 := ownsRow_below O1.out hb4
  have S1 := P0.stored (j * 2) (.float .f32 (turnQ x))
  have S2 := S1.1.stored (j * 2 + 1) (.float .f32 y)
  rw [fl_set, fl_set] at S2
  obtain ⟨w5, hw5⟩ : ∃ w5, w5 = (w4.setCell ⟨ga, j * 2, none⟩ (.float .f32 (turnQ x))).setCell ⟨ga, j * 2 + 1, none⟩ (.float .f32 y) := ⟨_, rfl⟩
  have KK : Kept w3 w5 [some ga] := by rw [hw5]; exact (((Kept.of_below hb4).trans (Kept.of_grown S1.2) : Kept _ _ [some ga])).trans1 (Kept.of_grown S2.2)
  have X0 : Hid (w5.ownsRow (w.heap.size + 1 + 1) 66 2 (.slice (some ⟨ga, 0, none⟩) n ca) n (fl (clockSet l j x y))) := by
    show World.ownsRow _ _ _ _ _ _ _
    rw [hw5]
    have h9 := S2.1
    rw [List.set_comm _ _ (by omega)] at h9
    exact h9
  have X1 : Hid (w5.ownsRow (w.heap.size + 1 + 1) 22 1 (.slice (some ⟨gb, 0, none⟩) m cb) m (fl lk)) := ownsRow_kept O1.out KK (fun q hq hm => hne q (List.mem_singleton.1 hm).symm hq)
  have hk5 := Held_kept1 (v := .slice (some ⟨ga, 0, none⟩) n ca) KK (l := [(⟨w.heap.size, 0, none⟩, v), (⟨w.heap.size, 1, none⟩, v'), (⟨w.heap.size + 1, 0, none⟩, .slice none 0 0), (⟨w.heap.size + 1, 1, none⟩, .slice none 0 0), (⟨w2.heap.size, 0, none⟩, .slice (some ⟨ga, 0, none⟩) n ca), (⟨w2.heap.size, 1, none⟩, .slice (some ⟨gb, 0, none⟩) m cb)]) (by simp [Value.ownBlock]; omega) HK3.out
  have hB5 : Below w.heap.size w w5 := hB3.trans (KK.toBelow (by omega) (fun q hq => by have := List.mem_singleton.1 hq; cases this; omega))
  simp only [Held, and_true] at hk5
  clear P0 P1 S1 S2 KK f0 f1 z0 z1
  go_wp2_with fail
  rw [← hw5]
  clear hw5
  cases hv : clocksB n (clockSet l j x y) m (lk)
  · go_wp2_with (first | (go_at_call 53; refine (l05Give_any _ _ _ _ _ _ n m _ _ _ (ownsRow_rowAt X0.out) (ownsRow_rowAt X1.out)).mono ?_; rintro e w7 ⟨rfl, hb7⟩; rw [hv]; have hk7 := Held.below hb7 (l := [(⟨w.heap.size + 1, 0, none⟩, .slice none 0 0), (⟨w.heap.size + 1, 1, none⟩, .slice none 0 0)]) (by simp [Held, *]); simp only [Held, and_true] at hk7; have Y0 := Lib.hid (ownsRow_below X0.out hb7); have Y1 := Lib.hid (ownsRow_below X1.out hb7)))
    refine bodyPost_ret (v := ?_) (by first | (simp [results, Try.results39, go_sem, *]; rfl) | (simp [results, Try.results39, go_sem, *]; done)) rfl ?_
    rw [hv]
    refine ⟨_, _, rfl, ownsRow_nil', ownsRow_nil', (fun i hi => by cases hi), ?_⟩
    (repeat (first | assumption | (with_reducible exact Below.refl _ _) | (with_reducible refine Below.drewN ?_ _) | (with_reducible refine Below.drew ?_) | (with_reducible refine Below.allocS ?_ _) | ((with_reducible refine Below.setCell ?_ ?_ _); rotate_left; focus (first | omega | (simp; done) | (simp; omega))) | (with_reducible refine Below.step ?_ (by assumption))))
  · go_wp2_with (first | (go_at_call 53; refine (l05Give_any _ _ _ _ _ _ n m _ _ _ (ownsRow_rowAt X0.out) (ownsRow_rowAt X1.out)).mono ?_; rintro e w7 ⟨rfl, hb7⟩; rw [hv]; have hk7 := Held.below hb7 (l := [(⟨w.heap.size + 1, 0, none⟩, .slice none 0 0), (⟨w.heap.size + 1, 1, none⟩, .slice none 0 0)]) (by simp [Held, *]); simp only [Held, and_true] at hk7; have Y0 := Lib.hid (ownsRow_below X0.out hb7); have Y1 := Lib.hid (ownsRow_below X1.out hb7)))
    refine bodyPost_ret (v := ?_) (by first | (simp [results, Try.results39, go_sem, *]; rfl) | (simp [results, Try.results39, go_sem, *]; done)) rfl ?_
    rw [hv]
    refine ⟨_, _, rfl, ?_, ?_, hne, ?_⟩
    · refine ownsRow_base (base := w.heap.size + 1 + 1) (by omega) ?_
      have := Y0.out
      (repeat (first | (with_reducible refine World.ownsRow.alloc ?_ _) | (with_reducible refine ownsRow_drewN ?_ _) | ((with_reducible refine ownsRow_setCell_below ?_ ?_ _); rotate_left; focus (first | omega | (simp; done) | (simp; omega)))))
      exact this
    · refine ownsRow_base (base := w.heap.size + 1 + 1) (by omega) ?_
      have := Y1.out
      (repeat (first | (with_reducible refine World.ownsRow.alloc ?_ _) | (with_reducible refine ownsRow_drewN ?_ _) | ((with_reducible refine ownsRow_setCell_below ?_ ?_ _); rotate_left; focus (first | omega | (simp; done) | (simp; omega)))))
      exact this
    · (repeat (first | assumption | (with_reducible exact Below.refl _ _) | (with_reducible refine Below.drewN ?_ _) | (with_reducible refine Below.drew ?_) | (with_reducible refine Below.allocS ?_ _) | ((with_reducible refine Below.setCell ?_ ?_ _); rotate_left; focus (first | omega | (simp; done) | (simp; omega))) | (with_reducible refine Below.step ?_ (by assumption))))

set_option maxRecDepth 100000 in
set_option maxHeartbeats 8000000 in
theorem specSetLink_any (v v' : Value) (n m : Nat) (l lk : List Nat) (i j : Int) (z : Nat) (w : World) (h : RowAt w v 2 n (fl l)) (h' : RowAt w v' 1 m (fl lk)) : Calls Try.prog 21 #[.agg #[v, v'], .int .i64 i, .int .i64 j, .float .f32 z] w (GiveC (cN ((clocksB n l m lk && (inZ i 0 ((n : Int) - 1) && inZ j 0 ((n : Int) - 1))) && clocksB n (l) m (lk.set (i.toNat * n + j.toNat) z)) n) (cL ((clocksB n l m lk && (inZ i 0 ((n : Int) - 1) && inZ j 0 ((n : Int) - 1))) && clocksB n (l) m (lk.set (i.toNat * n + j.toNat) z)) (l)) (cN ((clocksB n l m lk && (inZ i 0 ((n : Int) - 1) && inZ j 0 ((n : Int) - 1))) && clocksB n (l) m (lk.set (i.toNat * n + j.toNat) z)) m) (cL ((clocksB n l m lk && (inZ i 0 ((n : Int) - 1) && inZ j 0 ((n : Int) - 1))) && clocksB n (l) m (lk.set (i.toNat * n + j.toNat) z)) (lk.set (i.toNat * n + j.toNat) z)) ((clocksB n l m lk && (inZ i 0 ((n : Int) - 1) && inZ j 0 ((n : Int) - 1))) && clocksB n (l) m (lk.set (i.toNat * n + j.toNat) z)) w) := by
  have H := Lib.hid h
  have H' := Lib.hid h'
  clear h h'
  cases hi : (clocksB n l m lk && inZ i 0 ((n : Int) - 1))
  · rw [show (clocksB n l m lk && (inZ i 0 ((n : Int) - 1) && inZ j 0 ((n : Int) - 1))) = false by rw [← Bool.and_assoc, hi]; rfl]
    go_enter Try.func21, Try.ntmps21
    go_wp2_with (first | (go_at_call 62; refine (l05Index_any v v' n m l lk _ i _ ?_ ?_ ?_).mono ?_; (focus (refine RowAt.below H.out ?_; (repeat (first | assumption | (with_reducible exact Below.refl _ _) | (with_reducible refine Below.drewN ?_ _) | (with_reducible refine Below.drew ?_) | (with_reducible refine Below.allocS ?_ _) | ((with_reducible refine Below.setCell ?_ ?_ _); rotate_left; focus (first | omega | (simp; done) | (simp; omega))) | (with_reducible refine Below.step ?_ (by assumption)))); done)); (focus (refine RowAt.below H'.out ?_; (repeat (first | assumption | (with_reducible exact Below.refl _ _) | (with_reducible refine Below.drewN ?_ _) | (with_reducible refine Below.drew ?_) | (with_reducible refine Below.allocS ?_ _) | ((with_reducible refine Below.setCell ?_ ?_ _); rotate_left; focus (first | omega | (simp; done) | (simp; omega))) | (with_reducible refine Below.step ?_ (by assumption)))); done)); (focus (simp [Held, go_sem]; done)); rintro e w' ⟨c9, rfl, rfl⟩; rw [hi]))
    refine bodyPost_ret (v := ?_) (by first | (simp [results, Try.results21, go_sem, *]; rfl) | (simp [results, Try.results21, go_sem, *]; done)) rfl ?_
    refine ⟨_, _, rfl, ownsRow_nil', ownsRow_nil', (fun i hi => by cases hi), ?_⟩
    (repeat (first | assumption | (with_reducible exact Below.refl _ _) | (with_reducible refine Below.drewN ?_ _) | (with_reducible refine Below.drew ?_) | (with_reducible refine Below.allocS ?_ _) | ((with_reducible refine Below.setCell ?_ ?_ _); rotate_left; focus (first | omega | (simp; done) | (simp; omega))) | (with_reducible refine Below.step ?_ (by assumption))))
  cases hy : (clocksB n l m lk && inZ j 0 ((n : Int) - 1))
  · rw [show (clocksB n l m lk && (inZ i 0 ((n : Int) - 1) && inZ j 0 ((n : Int) - 1))) = false by
      have hi' := hi
      simp only [Bool.and_eq_true] at hi'
      rw [hi'.1, Bool.true_and] at hy
      rw [hy, Bool.and_false, Bool.and_false]]
    go_enter Try.func21, Try.ntmps21
    go_wp2_with (first | (go_at_call 62; refine (l05Index_any v v' n m l lk _ _ _ ?_ ?_ ?_).mono ?_; (focus (refine RowAt.below H.out ?_; (repeat (first | assumption | (with_reducible exact Below.refl _ _) | (with_reducible refine Below.drewN ?_ _) | (with_reducible refine Below.drew ?_) | (with_reducible refine Below.allocS ?_ _) | ((with_reducible refine Below.setCell ?_ ?_ _); rotate_left; focus (first | omega | (simp; done) | (simp; omega))) | (with_reducible refine Below.step ?_ (by assumption)))); done)); (focus (refine RowAt.below H'.out ?_; (repeat (first | assumption | (with_reducible exact Below.refl _ _) | (with_reducible refine Below.drewN ?_ _) | (with_reducible refine Below.drew ?_) | (with_reducible refine Below.allocS ?_ _) | ((with_reducible refine Below.setCell ?_ ?_ _); rotate_left; focus (first | omega | (simp; done) | (simp; omega))) | (with_reducible refine Below.step ?_ (by assumption)))); done)); (focus (simp [Held, go_sem]; done)); rintro e w' ⟨c9, rfl, rfl⟩; (first | rw [hi] | rw [hy])))
    refine bodyPost_ret (v := ?_) (by first | (simp [results, Try.results21, go_sem, *]; rfl) | (simp [results, Try.results21, go_sem, *]; done)) rfl ?_
    refine ⟨_, _, rfl, ownsRow_nil', ownsRow_nil', (fun i hi => by cases hi), ?_⟩
    (repeat (first | assumption | (with_reducible exact Below.refl _ _) | (with_reducible refine Below.drewN ?_ _) | (with_reducible refine Below.drew ?_) | (with_reducible refine Below.allocS ?_ _) | ((with_reducible refine Below.setCell ?_ ?_ _); rotate_left; focus (first | omega | (simp; done) | (simp; omega))) | (with_reducible refine Below.step ?_ (by assumption))))
  have hc : clocksB n l m lk = true := by simp only [Bool.and_eq_true] at hi; exact hi.1
  have hz9 : inZ i 0 ((n : Int) - 1) = true := by simp only [Bool.and_eq_true] at hi; exact hi.2
  have hy9 : inZ j 0 ((n : Int) - 1) = true := by simp only [Bool.and_eq_true] at hy; exact hy.2
  rw [show (clocksB n l m lk && (inZ i 0 ((n : Int) - 1) && inZ j 0 ((n : Int) - 1))) = true by rw [hc, hz9, hy9]; rfl]
  rw [Bool.true_and]
  obtain ⟨i', rfl, hi'⟩ := inZ_nat hz9
  obtain ⟨j', rfl, hj'⟩ := inZ_nat hy9
  obtain ⟨c1, c2, c3, c4, c5⟩ := clocks_parts hc
  have hm0 : 0 < m := by have := Nat.mul_pos (by omega : 0 < n) (by omega : 0 < n); omega
  have hm9 : m ≤ 144 := by have := sq_small c2; omega
  have hib := sq_bound hi'
  obtain ⟨q, hq0⟩ : ∃ q, q = i' * n := ⟨_, rfl⟩
  have hqi : (i' : Int) * (n : Int) = (q : Int) := by rw [hq0]; exact (Int.natCast_mul i' n).symm
  have hqn : q + n ≤ m := by omega
  simp only [Int.toNat_natCast]
  rw [← hq0]
  clear c3 c4 c5 hc hz9 hy9 hib hq0
  obtain ⟨hh1, hh2, ao, cap, hv9, hh3⟩ := H.out
  clear hh1 hh3
  subst hv9
  have hn63 : n ≤ 9223372036854775807 := hh2
  go_enter Try.func21, Try.ntmps21
  go_wp2_with (first | (go_at_call 62; refine (l05Index_any (.slice ao n cap) v' n m l lk _ _ _ ?_ ?_ ?_).mono ?_; (focus (refine RowAt.below H.out ?_; (repeat (first | assumption | (with_reducible exact Below.refl _ _) | (with_reducible refine Below.drewN ?_ _) | (with_reducible refine Below.drew ?_) | (with_reducible refine Below.allocS ?_ _) | ((with_reducible refine Below.setCell ?_ ?_ _); rotate_left; focus (first | omega | (simp; done) | (simp; omega))) | (with_reducible refine Below.step ?_ (by assumption)))); done)); (focus (refine RowAt.below H'.out ?_; (repeat (first | assumption | (with_reducible exact Below.refl _ _) | (with_reducible refine Below.drewN ?_ _) | (with_reducible refine Below.drew ?_) | (with_reducible refine Below.allocS ?_ _) | ((with_reducible refine Below.setCell ?_ ?_ _); rotate_left; focus (first | omega | (simp; done) | (simp; omega))) | (with_reducible refine Below.step ?_ (by assumption)))); done)); (focus (simp [Held, go_sem]; done)); rintro e w' ⟨c9, rfl, rfl⟩; (first | rw [hi] | rw [hy])) | (go_at_call 63; refine (l05Own_any (.slice ao n cap) v' n m l lk _ _ ?_ ?_ ?_ (by omega) hm0 (by omega) (by omega)).mono ?_; (focus (refine RowAt.below H.out ?_; (repeat (first | assumption | (with_reducible exact Below.refl _ _) | (with_reducible refine Below.drewN ?_ _) | (with_reducible refine Below.drew ?_) | (with_reducible refine Below.allocS ?_ _) | ((with_reducible refine Below.setCell ?_ ?_ _); rotate_left; focus (first | omega | (simp; done) | (simp; omega))) | (with_reducible refine Below.step ?_ (by assumption)))); done)); (focus (refine RowAt.below H'.out ?_; (repeat (first | assumption | (with_reducible exact Below.refl _ _) | (with_reducible refine Below.drewN ?_ _) | (with_reducible refine Below.drew ?_) | (with_reducible refine Below.allocS ?_ _) | ((with_reducible refine Below.setCell ?_ ?_ _); rotate_left; focus (first | omega | (simp; done) | (simp; omega))) | (with_reducible refine Below.step ?_ (by assumption)))); done)); (focus (simp [Held, go_sem]; done))))
  rintro e w2 ⟨u0, u1, rfl, ou0, ou1, hb2⟩
  obtain ⟨ga, ca, rfl⟩ := ownsRow_own ou0 (by omega)
  obtain ⟨gb, cb, rfl⟩ := ownsRow_own ou1 (by omega)
  have hk2 := Held.below hb2 (l := [(⟨w.heap.size, 0, none⟩, .slice ao n cap), (⟨w.heap.size, 1, none⟩, v'), (⟨w.heap.size + 1, 0, none⟩, .slice none 0 0), (⟨w.heap.size + 1, 1, none⟩, .slice none 0 0)]) (by simp [Held, go_sem, *])
  simp only [Held, and_true] at hk2
  have hg0 := ownsRow_lt ou0 ga rfl
  have hg1 := ownsRow_lt ou1 gb rfl
  have hB2 : Below w.heap.size w w2 := by (repeat (first | assumption | (with_reducible exact Below.refl _ _) | (with_reducible refine Below.drewN ?_ _) | (with_reducible refine Below.drew ?_) | (with_reducible refine Below.allocS ?_ _) | ((with_reducible refine Below.setCell ?_ ?_ _); rotate_left; focus (first | omega | (simp; done) | (simp; omega))) | (with_reducible refine Below.step ?_ (by assumption))))
  simp at hg0 hg1
  have ou0' := ownsRow_base (base' := w.heap.size + 1 + 1) (by simp) ou0
  have ou1' := ownsRow_base (base' := w.heap.size + 1 + 1) (by simp) ou1
  have hne := ownsRow_ne ou0' ou1' tc_ne
  have hL0 := ou0'.1
  have hL1 := ou1'.1
  rw [fl_length] at hL0 hL1
  clear ou0 ou1
  have hgb2 : gb < w2.heap.size := by omega
  have f0 := (ou1'.cellAt (q + j') (by omega)).trans (fl_get (l := lk) (by omega))
  have z0 := ou1'.frozenAt (q + j')
  have S1 := ou1'.stored (q + j') (.float .f32 z)
  rw [fl_set] at S1
  obtain ⟨w4, hw4⟩ : ∃ w4, w4 = w2.setCell ⟨gb, q + j', none⟩ (.float .f32 z) := ⟨_, rfl⟩
  have KK : Kept w2 w4 [some gb] := by rw [hw4]; exact Kept.of_grown S1.2
  have X1 : Hid (w4.ownsRow (w.heap.size + 1 + 1) 22 1 (.slice (some ⟨gb, 0, none⟩) m cb) m (fl (lk.set (q + j') z))) := by
    show World.ownsRow _ _ _ _ _ _ _
    rw [hw4]
    exact S1.1
  have X0 : Hid (w4.ownsRow (w.heap.size + 1 + 1) 66 2 (.slice (some ⟨ga, 0, none⟩) n ca) n (fl l)) := ownsRow_kept ou0' KK (fun r hq hm => hne r hq (List.mem_singleton.1 hm).symm)
  have hk5 := Held_kept1 (v := .slice (some ⟨gb, 0, none⟩) m cb) KK (l := [(⟨w.heap.size, 0, none⟩, .slice ao n cap), (⟨w.heap.size, 1, none⟩, v'), (⟨w.heap.size + 1, 0, none⟩, .slice none 0 0), (⟨w.heap.size + 1, 1, none⟩, .slice none 0 0)]) (by simp [Value.ownBlock]; omega) (by simp [Held, *])
  have hB5 : Below w.heap.size w w4 := hB2.trans (KK.toBelow (by omega) (fun r hq => by have := List.mem_singleton.1 hq; cases this; omega))
  have hz5 : w4.heap.size = w2.heap.size := by rw [hw4]; simp
  simp only [Held, and_true] at hk5
  clear S1 KK ou0' ou1'
  go_wp2_with fail
  rw [← hw4]
  clear hw4
  cases hv : clocksB n (l) m (lk.set (q + j') z)
  · go_wp2_with (first | (go_at_call 53; refine (l05Give_any _ _ _ _ _ _ n m _ _ _ (ownsRow_rowAt (X0.out.alloc _)) (ownsRow_rowAt (X1.out.alloc _))).mono ?_; rintro e w7 ⟨rfl, hb7⟩; rw [hv]; have hk7 := Held.below hb7 (l := [(⟨w.heap.size + 1, 0, none⟩, .slice none 0 0), (⟨w.heap.size + 1, 1, none⟩, .slice none 0 0)]) (by simp [Held, go_sem, *]); simp only [Held, and_true] at hk7; have Y0 := Lib.hid (ownsRow_below (X0.out.alloc _) hb7); have Y1 := Lib.hid (ownsRow_below (X1.out.alloc _) hb7)))
    refine bodyPost_ret (v := ?_) (by first | (simp [results, Try.results21, go_sem, *]; rfl) | (simp [results, Try.results21, go_sem, *]; done)) rfl ?_
    rw [hv]
    refine ⟨_, _, rfl, ownsRow_nil', ownsRow_nil', (fun i hi => by cases hi), ?_⟩
    (repeat (first | assumption | (with_reducible exact Below.refl _ _) | (with_reducible refine Below.drewN ?_ _) | (with_reducible refine Below.drew ?_) | (with_reducible refine Below.allocS ?_ _) | ((with_reducible refine Below.setCell ?_ ?_ _); rotate_left; focus (first | omega | (simp; done) | (simp; omega))) | (with_reducible refine Below.step ?_ (by assumption))))
  · go_wp2_with (first | (go_at_call 53; refine (l05Give_any _ _ _ _ _ _ n m _ _ _ (ownsRow_rowAt (X0.out.alloc _)) (ownsRow_rowAt (X1.out.alloc _))).mono ?_; rintro e w7 ⟨rfl, hb7⟩; rw [hv]; have hk7 := Held.below hb7 (l := [(⟨w.heap.size + 1, 0, none⟩, .slice none 0 0), (⟨w.heap.size + 1, 1, none⟩, .slice none 0 0)]) (by simp [Held, go_sem, *]); simp only [Held, and_true] at hk7; have Y0 := Lib.hid (ownsRow_below (X0.out.alloc _) hb7); have Y1 := Lib.hid (ownsRow_below (X1.out.alloc _) hb7)))
    refine bodyPost_ret (v := ?_) (by first | (simp [results, Try.results21, go_sem, *]; rfl) | (simp [results, Try.results21, go_sem, *]; done)) rfl ?_
    rw [hv]
    refine ⟨_, _, rfl, ?_, ?_, hne, ?_⟩
    · refine ownsRow_base (base := w.heap.size + 1 + 1) (by omega) ?_
      have := Y0.out
      (repeat (first | (with_reducible refine World.ownsRow.alloc ?_ _) | (with_reducible refine ownsRow_drewN ?_ _) | ((with_reducible refine ownsRow_setCell_below ?_ ?_ _); rotate_left; focus (first | omega | (simp; done) | (simp; omega)))))
      exact this
    · refine ownsRow_base (base := w.heap.size + 1 + 1) (by omega) ?_
      have := Y1.out
      (repeat (first | (with_reducible refine World.ownsRow.alloc ?_ _) | (with_reducible refine ownsRow_drewN ?_ _) | ((with_reducible refine ownsRow_setCell_below ?_ ?_ _); rotate_left; focus (first | omega | (simp; done) | (simp; omega)))))
      exact this
    · (repeat (first | assumption | (with_reducible exact Below.refl _ _) | (with_reducible refine Below.drewN ?_ _) | (with_reducible refine Below.drew ?_) | (with_reducible refine Below.allocS ?_ _) | ((with_reducible refine Below.setCell ?_ ?_ _); rotate_left; focus (first | omega | (simp; done) | (simp; omega))) | (with_reducible refine Below.step ?_ (by assumption))))

theorem specSetClock_lit {n m : Nat} {l lk : List Nat} {i2 : Int} {x3 : Nat} {y4 : Nat} {B : Bool} (hB : ((clocksB n l m lk && (inZ i2 0 ((n : Int) - 1) && finB .f32 x3)) && clocksB n (clockSet l i2.toNat x3 y4) m lk) = B) (v v' : Value) (w : World) (h : RowAt w v 2 n (fl l)) (h' : RowAt w v' 1 m (fl lk)) : Calls Try.prog 39 #[.agg #[v, v'], .int .i64 i2, .float .f32 x3, .float .f32 y4] w (GiveC (cN B (n)) (cL B (clockSet l i2.toNat x3 y4)) (cN B (m)) (cL B (lk)) B w) := hB ▸ specSetClock_any v v' n m l lk i2 x3 y4 w h h'

theorem implSetClock_lit {n m : Nat} {l lk : List Nat} {i2 : Int} {x3 : Nat} {y4 : Nat} {B : Bool} (hB : ((clocksB n l m lk && (inZ i2 0 ((n : Int) - 1) && finB .f32 x3)) && clocksB n (clockSet l i2.toNat x3 y4) m lk) = B) (v v' : Value) (w : World) (h : RowAt w v 2 n (fl l)) (h' : RowAt w v' 1 m (fl lk)) : Calls Try.prog 40 #[.agg #[v, v'], .int .i64 i2, .float .f32 x3, .float .f32 y4] w (GiveC (cN B (n)) (cL B (clockSet l i2.toNat x3 y4)) (cN B (m)) (cL B (lk)) B w) := hB ▸ implSetClock_any v v' n m l lk i2 x3 y4 w h h'

set_option maxRecDepth 100000 in
set_option maxHeartbeats 8000000 in
theorem lawSetClock_walk (v0 : Value) (n0 : Nat) (l0 : List Nat) (v1 : Value) (n1 : Nat) (l1 : List Nat) (i2 : Int) (x3 : Nat) (y4 : Nat) (w : World) (h0 : RowAt w v0 2 n0 (fl l0)) (h1 : RowAt w v1 1 n1 (fl l1)) (hb0 : ∀ x ∈ l0, x < 4294967296) (hb1 : ∀ x ∈ l1, x < 4294967296) (hb_i2 : (Lit.int .i64 i2).wf = true) (hb_x3 : x3 < 4294967296) (hb_y4 : y4 < 4294967296) : Calls Try.prog 9 #[.agg #[v0, v1], .int .i64 i2, .float .f32 x3, .float .f32 y4] w fun e w' => e = .returned (.bool true) ∧ Below w.heap.size w w' := by
  have H0 := Lib.hid h0
  have H1 := Lib.hid h1
  have HB0 := Lib.hid hb0
  clear hb0
  have HB1 := Lib.hid hb1
  clear hb1
  clear h0 h1
  go_enter Try.func9, Try.ntmps9
  obtain ⟨B, hB⟩ : ∃ B, ((clocksB n0 l0 n1 l1 && (inZ i2 0 ((n0 : Int) - 1) && finB .f32 x3)) && clocksB n0 (clockSet l0 i2.toNat x3 y4) n1 l1) = B := ⟨_, rfl⟩
  have hN9 : cN B (n0) ≤ 12 ∧ cN B (n1) ≤ 144 := by
    cases B
    · exact ⟨Nat.zero_le _, Nat.zero_le _⟩
    · simp only [Bool.and_eq_true] at hB; obtain ⟨c1, c2, c3, c4, c5⟩ := clocks_parts hB.1.1; exact ⟨c2, by have := sq_small c2; show n1 ≤ 144; omega⟩
  have HBB := Lib.hid hB
  clear hB
  go_wp2_with fail
  refine (szClocks_any v0 n0 (fl l0) v1 n1 (fl l1) (1048576) _ ?_ ?_ (by omega)).mono ?_
  · refine RowAt.below H0.out ?_
    (repeat (first | assumption | (with_reducible exact Below.refl _ _) | (with_reducible refine Below.drewN ?_ _) | (with_reducible refine Below.drew ?_) | (with_reducible refine Below.allocS ?_ _) | ((with_reducible refine Below.setCell ?_ ?_ _); rotate_left; focus (first | omega | (simp; done) | (simp; omega))) | (with_reducible refine Below.step ?_ (by assumption))))
  · refine RowAt.below H1.out ?_
    (repeat (first | assumption | (with_reducible exact Below.refl _ _) | (with_reducible refine Below.drewN ?_ _) | (with_reducible refine Below.drew ?_) | (with_reducible refine Below.allocS ?_ _) | ((with_reducible refine Below.setCell ?_ ?_ _); rotate_left; focus (first | omega | (simp; done) | (simp; omega))) | (with_reducible refine Below.step ?_ (by assumption))))
  rintro e ws0 ⟨rfl, hcs0⟩
  have hk := Held.below hcs0 (l := [(⟨w.heap.size, 0, none⟩, v0), (⟨w.heap.size, 1, none⟩, v1)]) (by simp [Held, go_sem, *])
  simp only [Held, and_true] at hk
  have hBs0 : Below w.heap.size w ws0 := by (repeat (first | assumption | (with_reducible exact Below.refl _ _) | (with_reducible refine Below.drewN ?_ _) | (with_reducible refine Below.drew ?_) | (with_reducible refine Below.allocS ?_ _) | ((with_reducible refine Below.setCell ?_ ?_ _); rotate_left; focus (first | omega | (simp; done) | (simp; omega))) | (with_reducible refine Below.step ?_ (by assumption))))
  clear hcs0
  by_cases hs0 : n0 + n1 ≤ 1048576
  case neg =>
    rw [if_neg hs0]
    go_wp2_with fail
    go_ret
    refine ⟨rfl, ?_⟩
    (repeat (first | assumption | (with_reducible exact Below.refl _ _) | (with_reducible refine Below.drewN ?_ _) | (with_reducible refine Below.drew ?_) | (with_reducible refine Below.allocS ?_ _) | ((with_reducible refine Below.setCell ?_ ?_ _); rotate_left; focus (first | omega | (simp; done) | (simp; omega))) | (with_reducible refine Below.step ?_ (by assumption))))
  rw [if_pos hs0]
  go_wp2_with fail
  refine (toClocks_any v0 n0 v1 n1 l0 l1 _ ?_ ?_ (by omega) (by omega)).mono ?_
  · refine RowAt.below H0.out ?_
    (repeat (first | assumption | (with_reducible exact Below.refl _ _) | (with_reducible refine Below.drewN ?_ _) | (with_reducible refine Below.drew ?_) | (with_reducible refine Below.allocS ?_ _) | ((with_reducible refine Below.setCell ?_ ?_ _); rotate_left; focus (first | omega | (simp; done) | (simp; omega))) | (with_reducible refine Below.step ?_ (by assumption))))
  · refine RowAt.below H1.out ?_
    (repeat (first | assumption | (with_reducible exact Below.refl _ _) | (with_reducible refine Below.drewN ?_ _) | (with_reducible refine Below.drew ?_) | (with_reducible refine Below.allocS ?_ _) | ((with_reducible refine Below.setCell ?_ ?_ _); rotate_left; focus (first | omega | (simp; done) | (simp; omega))) | (with_reducible refine Below.step ?_ (by assumption))))
  rintro e w1 ⟨ga0, ga1, rfl, oa0, oa1, oane0, c1⟩
  have hkN := Held.below c1 (l := [(⟨w.heap.size, 0, none⟩, v0), (⟨w.heap.size, 1, none⟩, v1)]) (by simp [Held, go_sem, *])
  (try clear hk)
  have hk := hkN
  clear hkN
  simp only [Held, and_true] at hk
  have hBw1 : Below w.heap.size w w1 := by (repeat (first | assumption | (with_reducible exact Below.refl _ _) | (with_reducible refine Below.drewN ?_ _) | (with_reducible refine Below.drew ?_) | (with_reducible refine Below.allocS ?_ _) | ((with_reducible refine Below.setCell ?_ ?_ _); rotate_left; focus (first | omega | (simp; done) | (simp; omega))) | (with_reducible refine Below.step ?_ (by assumption))))
  have hzw1_0 : w.heap.size < w1.heap.size := by omega
  go_wp2_with fail
  refine (specSetClock_lit HBB.out _ _ _ (ownsRow_rowAt oa0) (ownsRow_rowAt oa1)).mono ?_
  rintro e w2 ⟨u00, u01, rfl, ow_u00, ow_u01, ne_u00_u01, c2⟩
  obtain ⟨a_u00, k_u00, d_u00, rfl⟩ := ownsRow_shape ow_u00
  obtain ⟨a_u01, k_u01, d_u01, rfl⟩ := ownsRow_shape ow_u01
  have hkN := Held.below c2 (l := [(⟨w.heap.size, 0, none⟩, v0), (⟨w.heap.size, 1, none⟩, v1)]) (by simp [Held, go_sem, *])
  (try clear hk)
  have hk := hkN
  clear hkN
  simp only [Held, and_true] at hk
  have hBw2 : Below w.heap.size w w2 := by (repeat (first | assumption | (with_reducible exact Below.refl _ _) | (with_reducible refine Below.drewN ?_ _) | (with_reducible refine Below.drew ?_) | (with_reducible refine Below.allocS ?_ _) | ((with_reducible refine Below.setCell ?_ ?_ _); rotate_left; focus (first | omega | (simp; done) | (simp; omega))) | (with_reducible refine Below.step ?_ (by assumption))))
  have hzw2_0 : w.heap.size < w2.heap.size := by omega
  have Lu00 := Lib.hid (ownsRow_lt ow_u00)
  (try simp only [World.size_alloc, World.size_setCell, World.heap_drewN] at Lu00)
  have Ou00 := Lib.hid ow_u00
  have Ru00 := Lib.hid (ownsRow_rowAt ow_u00)
  clear ow_u00
  have Lu01 := Lib.hid (ownsRow_lt ow_u01)
  (try simp only [World.size_alloc, World.size_setCell, World.heap_drewN] at Lu01)
  have Ou01 := Lib.hid ow_u01
  have Ru01 := Lib.hid (ownsRow_rowAt ow_u01)
  clear ow_u01
  have : ¬ w.heap.size = w2.heap.size := by omega
  clear oa0 oa1
  go_wp2_with fail
  refine (toClocks_any v0 n0 v1 n1 l0 l1 _ ?_ ?_ (by omega) (by omega)).mono ?_
  · refine RowAt.below H0.out ?_
    (repeat (first | assumption | (with_reducible exact Below.refl _ _) | (with_reducible refine Below.drewN ?_ _) | (with_reducible refine Below.drew ?_) | (with_reducible refine Below.allocS ?_ _) | ((with_reducible refine Below.setCell ?_ ?_ _); rotate_left; focus (first | omega | (simp; done) | (simp; omega))) | (with_reducible refine Below.step ?_ (by assumption))))
  · refine RowAt.below H1.out ?_
    (repeat (first | assumption | (with_reducible exact Below.refl _ _) | (with_reducible refine Below.drewN ?_ _) | (with_reducible refine Below.drew ?_) | (with_reducible refine Below.allocS ?_ _) | ((with_reducible refine Below.setCell ?_ ?_ _); rotate_left; focus (first | omega | (simp; done) | (simp; omega))) | (with_reducible refine Below.step ?_ (by assumption))))
  rintro e w3 ⟨g0, g1, rfl, o0, o1, one0, c3⟩
  have hkN := Held.below c3 (l := [(⟨w.heap.size, 0, none⟩, v0), (⟨w.heap.size, 1, none⟩, v1), (⟨w2.heap.size, 0, none⟩, .slice a_u00 k_u00 d_u00), (⟨w2.heap.size, 1, none⟩, .slice a_u01 k_u01 d_u01)]) (by simp [Held, go_sem, *])
  (try clear hk)
  have hk := hkN
  clear hkN
  simp only [Held, and_true] at hk
  have hBw3 : Below w.heap.size w w3 := by (repeat (first | assumption | (with_reducible exact Below.refl _ _) | (with_reducible refine Below.drewN ?_ _) | (with_reducible refine Below.drew ?_) | (with_reducible refine Below.allocS ?_ _) | ((with_reducible refine Below.setCell ?_ ?_ _); rotate_left; focus (first | omega | (simp; done) | (simp; omega))) | (with_reducible refine Below.step ?_ (by assumption))))
  have hzw3_0 : w.heap.size < w3.heap.size := by omega
  have hzw3_1 : w2.heap.size < w3.heap.size := by omega
  have B3 : Below w2.heap.size w2 w3 := by
    refine Below.step ?_ c3
    (repeat (first | (with_reducible exact Below.refl _ _) | (with_reducible refine Below.drewN ?_ _) | (with_reducible refine Below.drew ?_) | (with_reducible refine Below.allocS ?_ _) | ((with_reducible refine Below.setCell ?_ ?_ _); rotate_left; focus (first | omega | (simp; done) | (simp; omega)))))
  replace Ru00 := Lib.hid (Ru00.out.below B3)
  replace Ru01 := Lib.hid (Ru01.out.below B3)
  have : ¬ w.heap.size = w3.heap.size := by omega
  have : ¬ w2.heap.size = w3.heap.size := by omega
  have X0 := ownsRow_lt o0 _ rfl
  have X1 := ownsRow_lt o1 _ rfl
  simp only [World.size_alloc, World.size_setCell] at X0 X1
  have P0 := Lib.hid o0
  have P1 := Lib.hid o1
  go_wp2_with fail
  refine (implSetClock_lit HBB.out _ _ _ ((ownsRow_rowAt o0).below (by (repeat (first | (with_reducible exact Below.refl _ _) | (with_reducible refine Below.drewN ?_ _) | (with_reducible refine Below.drew ?_) | (with_reducible refine Below.allocS ?_ _) | ((with_reducible refine Below.setCell ?_ ?_ _); rotate_left; focus (first | omega | (simp; done) | (simp; omega))))))) ((ownsRow_rowAt o1).below (by (repeat (first | (with_reducible exact Below.refl _ _) | (with_reducible refine Below.drewN ?_ _) | (with_reducible refine Below.drew ?_) | (with_reducible refine Below.allocS ?_ _) | ((with_reducible refine Below.setCell ?_ ?_ _); rotate_left; focus (first | omega | (simp; done) | (simp; omega)))))))).mono ?_
  rintro e w4 ⟨vv00, vv01, rfl, ow_vv00, ow_vv01, ne_vv00_vv01, c4⟩
  obtain ⟨a_vv00, k_vv00, d_vv00, rfl⟩ := ownsRow_shape ow_vv00
  obtain ⟨a_vv01, k_vv01, d_vv01, rfl⟩ := ownsRow_shape ow_vv01
  have hkN := Held.below c4 (l := [(⟨w.heap.size, 0, none⟩, v0), (⟨w.heap.size, 1, none⟩, v1), (⟨w2.heap.size, 0, none⟩, .slice a_u00 k_u00 d_u00), (⟨w2.heap.size, 1, none⟩, .slice a_u01 k_u01 d_u01), (⟨w3.heap.size, 0, none⟩, .slice (some ⟨g0, 0, none⟩) n0 n0), (⟨w3.heap.size, 1, none⟩, .slice (some ⟨g1, 0, none⟩) n1 n1)]) (by simp [Held, go_sem, *])
  (try clear hk)
  have hk := hkN
  clear hkN
  simp only [Held, and_true] at hk
  have hBw4 : Below w.heap.size w w4 := by (repeat (first | assumption | (with_reducible exact Below.refl _ _) | (with_reducible refine Below.drewN ?_ _) | (with_reducible refine Below.drew ?_) | (with_reducible refine Below.allocS ?_ _) | ((with_reducible refine Below.setCell ?_ ?_ _); rotate_left; focus (first | omega | (simp; done) | (simp; omega))) | (with_reducible refine Below.step ?_ (by assumption))))
  have hzw4_0 : w.heap.size < w4.heap.size := by omega
  have hzw4_1 : w2.heap.size < w4.heap.size := by omega
  have hzw4_2 : w3.heap.size < w4.heap.size := by omega
  have Lvv00 := Lib.hid (ownsRow_lt ow_vv00)
  (try simp only [World.size_alloc, World.size_setCell, World.heap_drewN] at Lvv00)
  have Ovv00 := Lib.hid ow_vv00
  have Rvv00 := Lib.hid (ownsRow_rowAt ow_vv00)
  clear ow_vv00
  have Lvv01 := Lib.hid (ownsRow_lt ow_vv01)
  (try simp only [World.size_alloc, World.size_setCell, World.heap_drewN] at Lvv01)
  have Ovv01 := Lib.hid ow_vv01
  have Rvv01 := Lib.hid (ownsRow_rowAt ow_vv01)
  clear ow_vv01
  have : ¬ w.heap.size = w4.heap.size := by omega
  have : ¬ w2.heap.size = w4.heap.size := by omega
  have : ¬ w3.heap.size = w4.heap.size := by omega
  clear o0 o1
  have B4 : Below w3.heap.size w3 w4 := by
    refine Below.step ?_ c4
    (repeat (first | (with_reducible exact Below.refl _ _) | (with_reducible refine Below.drewN ?_ _) | (with_reducible refine Below.drew ?_) | (with_reducible refine Below.allocS ?_ _) | ((with_reducible refine Below.setCell ?_ ?_ _); rotate_left; focus (first | omega | (simp; done) | (simp; omega)))))
  replace Ru00 := Lib.hid (Ru00.out.below B4)
  replace Ru01 := Lib.hid (Ru01.out.below B4)
  replace P0 := Lib.hid (ownsRow_below P0.out B4)
  replace P1 := Lib.hid (ownsRow_below P1.out B4)
  go_wp2_with fail
  refine (eqClocks_any _ _ (cN B (n0)) _ _ (cN B (n1)) (cL B (clockSet l0 i2.toNat x3 y4)) (cL B (clockSet l0 i2.toNat x3 y4)) (cL B (l1)) (cL B (l1)) _ ?_ ?_ rfl ?_ ?_ rfl).mono ?_
  · refine RowAt.below Rvv00.out ?_
    (repeat (first | assumption | (with_reducible exact Below.refl _ _) | (with_reducible refine Below.drewN ?_ _) | (with_reducible refine Below.drew ?_) | (with_reducible refine Below.allocS ?_ _) | ((with_reducible refine Below.setCell ?_ ?_ _); rotate_left; focus (first | omega | (simp; done) | (simp; omega))) | (with_reducible refine Below.step ?_ (by assumption))))
  · refine RowAt.below Ru00.out ?_
    (repeat (first | assumption | (with_reducible exact Below.refl _ _) | (with_reducible refine Below.drewN ?_ _) | (with_reducible refine Below.drew ?_) | (with_reducible refine Below.allocS ?_ _) | ((with_reducible refine Below.setCell ?_ ?_ _); rotate_left; focus (first | omega | (simp; done) | (simp; omega))) | (with_reducible refine Below.step ?_ (by assumption))))
  · refine RowAt.below Rvv01.out ?_
    (repeat (first | assumption | (with_reducible exact Below.refl _ _) | (with_reducible refine Below.drewN ?_ _) | (with_reducible refine Below.drew ?_) | (with_reducible refine Below.allocS ?_ _) | ((with_reducible refine Below.setCell ?_ ?_ _); rotate_left; focus (first | omega | (simp; done) | (simp; omega))) | (with_reducible refine Below.step ?_ (by assumption))))
  · refine RowAt.below Ru01.out ?_
    (repeat (first | assumption | (with_reducible exact Below.refl _ _) | (with_reducible refine Below.drewN ?_ _) | (with_reducible refine Below.drew ?_) | (with_reducible refine Below.allocS ?_ _) | ((with_reducible refine Below.setCell ?_ ?_ _); rotate_left; focus (first | omega | (simp; done) | (simp; omega))) | (with_reducible refine Below.step ?_ (by assumption))))
  rintro e w5 ⟨rfl, c5x0⟩
  have hkN := Held.below c5x0 (l := [(⟨w.heap.size, 0, none⟩, v0), (⟨w.heap.size, 1, none⟩, v1), (⟨w2.heap.size, 0, none⟩, .slice a_u00 k_u00 d_u00), (⟨w2.heap.size, 1, none⟩, .slice a_u01 k_u01 d_u01), (⟨w3.heap.size, 0, none⟩, .slice (some ⟨g0, 0, none⟩) n0 n0), (⟨w3.heap.size, 1, none⟩, .slice (some ⟨g1, 0, none⟩) n1 n1), (⟨w4.heap.size, 0, none⟩, .slice a_vv00 k_vv00 d_vv00), (⟨w4.heap.size, 1, none⟩, .slice a_vv01 k_vv01 d_vv01)]) (by simp [Held, go_sem, *])
  (try clear hk)
  have hk := hkN
  clear hkN
  simp only [Held, and_true] at hk
  have hBw5 : Below w.heap.size w w5 := by (repeat (first | assumption | (with_reducible exact Below.refl _ _) | (with_reducible refine Below.drewN ?_ _) | (with_reducible refine Below.drew ?_) | (with_reducible refine Below.allocS ?_ _) | ((with_reducible refine Below.setCell ?_ ?_ _); rotate_left; focus (first | omega | (simp; done) | (simp; omega))) | (with_reducible refine Below.step ?_ (by assumption))))
  have hzw5_0 : w.heap.size < w5.heap.size := by omega
  have hzw5_1 : w2.heap.size < w5.heap.size := by omega
  have hzw5_2 : w3.heap.size < w5.heap.size := by omega
  have hzw5_3 : w4.heap.size < w5.heap.size := by omega
  have B5 : Below w4.heap.size w4 w5 := by
    refine Below.step ?_ c5x0
    (repeat (first | (with_reducible exact Below.refl _ _) | (with_reducible refine Below.drewN ?_ _) | (with_reducible refine Below.drew ?_) | (with_reducible refine Below.allocS ?_ _) | ((with_reducible refine Below.setCell ?_ ?_ _); rotate_left; focus (first | omega | (simp; done) | (simp; omega)))))
  replace Ru00 := Lib.hid (Ru00.out.below B5)
  replace Ru01 := Lib.hid (Ru01.out.below B5)
  replace Rvv00 := Lib.hid (Rvv00.out.below B5)
  replace Rvv01 := Lib.hid (Rvv01.out.below B5)
  replace Ovv00 := Lib.hid (ownsRow_below Ovv00.out B5)
  replace Ovv01 := Lib.hid (ownsRow_below Ovv01.out B5)
  replace P0 := Lib.hid (ownsRow_below P0.out B5)
  replace P1 := Lib.hid (ownsRow_below P1.out B5)
  go_wp2_with fail
  have R0 := Lib.hid (ownsRow_rowAt P0.out)
  have R1 := Lib.hid (ownsRow_rowAt P1.out)
  have hst : stableV [(2, 55, (fun v w => ∃ s0 s1, v = .agg #[s0, s1] ∧ RowAt w s0 2 n0 (fl l0) ∧ RowAt w s1 1 n1 (fl l1)))] := by
    intro q hq
    obtain rfl := List.mem_singleton.1 hq
    intro v w w' hb hh
    obtain ⟨s0, s1, rfl, r0, r1⟩ := hh; exact ⟨s0, s1, rfl, r0.below hb, r1.below hb⟩
  refine region_calmV w5 [(⟨w.heap.size, 0, none⟩, v0), (⟨w.heap.size, 1, none⟩, v1), (⟨w2.heap.size, 0, none⟩, .slice a_u00 k_u00 d_u00), (⟨w2.heap.size, 1, none⟩, .slice a_u01 k_u01 d_u01), (⟨w3.heap.size, 0, none⟩, .slice (some ⟨g0, 0, none⟩) n0 n0), (⟨w3.heap.size, 1, none⟩, .slice (some ⟨g1, 0, none⟩) n1 n1), (⟨w4.heap.size, 0, none⟩, .slice a_vv00 k_vv00 d_vv00), (⟨w4.heap.size, 1, none⟩, .slice a_vv01 k_vv01 d_vv01)] (fun f _ v => (f = 22 ∧ ∃ s0 s1, v = .agg #[s0, s1]) ∨ (f = 17 ∧ v = .bool true)) [(2, 55, (fun v w => ∃ s0 s1, v = .agg #[s0, s1] ∧ RowAt w s0 2 n0 (fl l0) ∧ RowAt w s1 1 n1 (fl l1)))] (by kernel_rfl) (by kernel_rfl) (by kernel_rfl) ⟨by simp [Held, go_sem, *], by (repeat (first | assumption | (with_reducible exact Below.refl _ _) | (with_reducible refine Below.drewN ?_ _) | (with_reducible refine Below.drew ?_) | (with_reducible refine Below.allocS ?_ _) | ((with_reducible refine Below.setCell ?_ ?_ _); rotate_left; focus (first | omega | (simp; done) | (simp; omega))) | (with_reducible refine Below.step ?_ (by assumption))))⟩ ?_
  repeat (first | (first | (refine calmV_plain hst rfl rfl ?_ (fun K hK w1 hC => ?_); (focus (intro _ _; simp [RVF]; done)); have hC' := hC.1; simp only [Held, and_true] at hC'; go_wp2_with (first | (refine wpList_fbin rfl rfl rfl rfl rfl (fun r n hr => ?_)) | (refine wpList_widen rfl rfl Try.underlying44 Try.underlying22 rfl (fun r n hr => ?_))); refine ⟨rfl, (by first | exact Below.refl _ _ | exact below_drewN _), hK _ ?_⟩; clear hC hC' hK K w1) | (refine calmV_check rfl rfl rfl ?_ ?_; (focus (intro _ _; simp [RVF]; done))) | (refine calmV_skip rfl ?_ ?_; (focus (intro _ _; simp [RVF]; done)); simp [Act.put])) | (refine calmV_call (f := 22) (args := _) hst rfl (by (intro w1; simp [execOp, resolve, invoke, go_sem]; with_reducible rfl)) (fun w1 hC hD => ?_) ?_; (focus (refine (toClocks_any v0 n0 v1 n1 l0 l1 _ ?_ ?_ (by omega) (by omega)).mono ?_; (focus (refine RowAt.below H0.out ?_; have hB9 := hC.2; (repeat (first | assumption | (with_reducible exact Below.refl _ _) | (with_reducible refine Below.drewN ?_ _) | (with_reducible refine Below.drew ?_) | (with_reducible refine Below.allocS ?_ _) | ((with_reducible refine Below.setCell ?_ ?_ _); rotate_left; focus (first | omega | (simp; done) | (simp; omega))) | (with_reducible refine Below.step ?_ (by assumption)))); done)); (focus (refine RowAt.below H1.out ?_; have hB9 := hC.2; (repeat (first | assumption | (with_reducible exact Below.refl _ _) | (with_reducible refine Below.drewN ?_ _) | (with_reducible refine Below.drew ?_) | (with_reducible refine Below.allocS ?_ _) | ((with_reducible refine Below.setCell ?_ ?_ _); rotate_left; focus (first | omega | (simp; done) | (simp; omega))) | (with_reducible refine Below.step ?_ (by assumption)))); done)); rintro e w2 ⟨g'0, g'1, rfl, o'0, o'1, o'ne0, hb2⟩; exact ⟨_, rfl, .inl ⟨rfl, _, _, rfl⟩, (by simp [RVF, Act.put, Act.eval]; exact ⟨_, _, ⟨rfl, rfl⟩, ownsRow_rowAt o'0, ownsRow_rowAt o'1⟩), hb2⟩)); (intro v hv; simp at hv; obtain ⟨s0, s1, rfl⟩ := hv)) | (refine calmV_call (f := 17) (args := _) hst rfl (by (intro w1; simp [execOp, resolve, invoke, go_sem]; with_reducible rfl)) (fun w1 hC hD => ?_) ?_; (focus (have hf := RVF_get (depV hD (ia := 2) (by kernel_rfl)) (List.mem_singleton.2 rfl); simp [Act.put, Act.eval] at hf; obtain ⟨t0, t1, ⟨rfl, rfl⟩, hf0, hf1⟩ := hf; refine (eqClocks_any _ _ n0 _ _ n1 l0 l0 l1 l1 _ ?_ ?_ rfl ?_ ?_ rfl).mono ?_; (focus (exact R0.out.below hC.2)); (focus (exact hf0)); (focus (exact R1.out.below hC.2)); (focus (exact hf1)); rintro e w2 ⟨rfl, hb2⟩; exact ⟨_, rfl, .inr ⟨rfl, rfl⟩, (by simp [RVF]), hb2⟩)); (intro v hv; simp at hv; subst hv)))
  refine calmV_nil ?_
  intro w6 hC hF
  have c6 := hC.2
  (try clear hk)
  have hk := hC.1
  simp only [Held, and_true] at hk
  have hBw6 : Below w.heap.size w w6 := by (repeat (first | assumption | (with_reducible exact Below.refl _ _) | (with_reducible refine Below.drewN ?_ _) | (with_reducible refine Below.drew ?_) | (with_reducible refine Below.allocS ?_ _) | ((with_reducible refine Below.setCell ?_ ?_ _); rotate_left; focus (first | omega | (simp; done) | (simp; omega))) | (with_reducible refine Below.step ?_ (by assumption))))
  clear hC hF hst R0 R1
  replace Ru00 := Lib.hid (Ru00.out.below c6)
  replace Ru01 := Lib.hid (Ru01.out.below c6)
  replace Rvv00 := Lib.hid (Rvv00.out.below c6)
  replace Rvv01 := Lib.hid (Rvv01.out.below c6)
  replace Ovv00 := Lib.hid (ownsRow_below Ovv00.out c6)
  replace Ovv01 := Lib.hid (ownsRow_below Ovv01.out c6)
  replace P0 := Lib.hid (ownsRow_below P0.out c6)
  replace P1 := Lib.hid (ownsRow_below P1.out c6)
  go_wp2_with fail
  refine (markClocks_any _ n0 _ _ _ n1 _ _ 1 _ P0.out (by omega) P1.out (by omega) ?_ (by omega)).mono ?_
  · intro i hi hj
    have e1 := own_some hi
    have e2 := own_some hj
    omega
  rintro e w7 ⟨rfl, _, _, K7⟩
  have r7 : ∀ i, some i ∈ [(Value.slice (some ⟨g0, 0, none⟩) n0 n0).ownBlock, (Value.slice (some ⟨g1, 0, none⟩) n1 n1).ownBlock] → w2.heap.size + 1 ≤ i ∧ i < w3.heap.size := range_two (fun i hi => by have e1 := own_some hi; omega) (fun i hi => by have e1 := own_some hi; omega)
  have hkN := Held_range K7 r7 (l := [(⟨w.heap.size, 0, none⟩, v0), (⟨w.heap.size, 1, none⟩, v1), (⟨w2.heap.size, 0, none⟩, .slice a_u00 k_u00 d_u00), (⟨w2.heap.size, 1, none⟩, .slice a_u01 k_u01 d_u01), (⟨w3.heap.size, 0, none⟩, .slice (some ⟨g0, 0, none⟩) n0 n0), (⟨w3.heap.size, 1, none⟩, .slice (some ⟨g1, 0, none⟩) n1 n1), (⟨w4.heap.size, 0, none⟩, .slice a_vv00 k_vv00 d_vv00), (⟨w4.heap.size, 1, none⟩, .slice a_vv01 k_vv01 d_vv01)]) (by simp only [List.mem_cons, List.not_mem_nil, or_false, forall_eq_or_imp, forall_eq]; omega) (by simp [Held, go_sem, *])
  (try clear hk)
  have hk := hkN
  clear hkN
  simp only [Held, and_true] at hk
  have C7 : Below w.heap.size w6 w7 := Below_range K7 r7 (by omega) hBw6.size
  have hBw7 : Below w.heap.size w w7 := hBw6.trans C7
  replace Ru00 := Lib.hid (RowAt_range K7 r7 (fun i hi => by have := Lu00.out i hi; omega) Ru00.out)
  replace Ru01 := Lib.hid (RowAt_range K7 r7 (fun i hi => by have := Lu01.out i hi; omega) Ru01.out)
  replace Rvv00 := Lib.hid (RowAt_range K7 r7 (fun i hi => by have := Lvv00.out i hi; omega) Rvv00.out)
  replace Ovv00 := Lib.hid (ownsRow_range K7 r7 (fun i hi => by have := Lvv00.out i hi; omega) Ovv00.out)
  replace Rvv01 := Lib.hid (RowAt_range K7 r7 (fun i hi => by have := Lvv01.out i hi; omega) Rvv01.out)
  replace Ovv01 := Lib.hid (ownsRow_range K7 r7 (fun i hi => by have := Lvv01.out i hi; omega) Ovv01.out)
  go_wp2_with fail
  refine (eqClocks_any _ _ (cN B (n0)) _ _ (cN B (n1)) (cL B (clockSet l0 i2.toNat x3 y4)) (cL B (clockSet l0 i2.toNat x3 y4)) (cL B (l1)) (cL B (l1)) _ ?_ ?_ rfl ?_ ?_ rfl).mono ?_
  · refine RowAt.below Rvv00.out ?_
    (repeat (first | assumption | (with_reducible exact Below.refl _ _) | (with_reducible refine Below.drewN ?_ _) | (with_reducible refine Below.drew ?_) | (with_reducible refine Below.allocS ?_ _) | ((with_reducible refine Below.setCell ?_ ?_ _); rotate_left; focus (first | omega | (simp; done) | (simp; omega))) | (with_reducible refine Below.step ?_ (by assumption))))
  · refine RowAt.below Ru00.out ?_
    (repeat (first | assumption | (with_reducible exact Below.refl _ _) | (with_reducible refine Below.drewN ?_ _) | (with_reducible refine Below.drew ?_) | (with_reducible refine Below.allocS ?_ _) | ((with_reducible refine Below.setCell ?_ ?_ _); rotate_left; focus (first | omega | (simp; done) | (simp; omega))) | (with_reducible refine Below.step ?_ (by assumption))))
  · refine RowAt.below Rvv01.out ?_
    (repeat (first | assumption | (with_reducible exact Below.refl _ _) | (with_reducible refine Below.drewN ?_ _) | (with_reducible refine Below.drew ?_) | (with_reducible refine Below.allocS ?_ _) | ((with_reducible refine Below.setCell ?_ ?_ _); rotate_left; focus (first | omega | (simp; done) | (simp; omega))) | (with_reducible refine Below.step ?_ (by assumption))))
  · refine RowAt.below Ru01.out ?_
    (repeat (first | assumption | (with_reducible exact Below.refl _ _) | (with_reducible refine Below.drewN ?_ _) | (with_reducible refine Below.drew ?_) | (with_reducible refine Below.allocS ?_ _) | ((with_reducible refine Below.setCell ?_ ?_ _); rotate_left; focus (first | omega | (simp; done) | (simp; omega))) | (with_reducible refine Below.step ?_ (by assumption))))
  rintro e w8 ⟨rfl, c8x0⟩
  have hkN := Held.below c8x0 (l := [(⟨w.heap.size, 0, none⟩, v0), (⟨w.heap.size, 1, none⟩, v1), (⟨w2.heap.size, 0, none⟩, .slice a_u00 k_u00 d_u00), (⟨w2.heap.size, 1, none⟩, .slice a_u01 k_u01 d_u01), (⟨w3.heap.size, 0, none⟩, .slice (some ⟨g0, 0, none⟩) n0 n0), (⟨w3.heap.size, 1, none⟩, .slice (some ⟨g1, 0, none⟩) n1 n1), (⟨w4.heap.size, 0, none⟩, .slice a_vv00 k_vv00 d_vv00), (⟨w4.heap.size, 1, none⟩, .slice a_vv01 k_vv01 d_vv01)]) (by simp [Held, go_sem, *])
  (try clear hk)
  have hk := hkN
  clear hkN
  simp only [Held, and_true] at hk
  have hBw8 : Below w.heap.size w w8 := by (repeat (first | assumption | (with_reducible exact Below.refl _ _) | (with_reducible refine Below.drewN ?_ _) | (with_reducible refine Below.drew ?_) | (with_reducible refine Below.allocS ?_ _) | ((with_reducible refine Below.setCell ?_ ?_ _); rotate_left; focus (first | omega | (simp; done) | (simp; omega))) | (with_reducible refine Below.step ?_ (by assumption))))
  have hzw8_0 : w.heap.size < w8.heap.size := by omega
  have hzw8_1 : w2.heap.size < w8.heap.size := by omega
  have hzw8_2 : w3.heap.size < w8.heap.size := by omega
  have hzw8_3 : w4.heap.size < w8.heap.size := by omega
  have B8 : Below w7.heap.size w7 w8 := by
    refine Below.step ?_ c8x0
    (repeat (first | (with_reducible exact Below.refl _ _) | (with_reducible refine Below.drewN ?_ _) | (with_reducible refine Below.drew ?_) | (with_reducible refine Below.allocS ?_ _) | ((with_reducible refine Below.setCell ?_ ?_ _); rotate_left; focus (first | omega | (simp; done) | (simp; omega)))))
  replace Ru00 := Lib.hid (Ru00.out.below B8)
  replace Ru01 := Lib.hid (Ru01.out.below B8)
  replace Rvv00 := Lib.hid (Rvv00.out.below B8)
  replace Rvv01 := Lib.hid (Rvv01.out.below B8)
  replace Ovv00 := Lib.hid (ownsRow_below Ovv00.out B8)
  replace Ovv01 := Lib.hid (ownsRow_below Ovv01.out B8)
  go_wp2_with fail
  go_wp2_with fail
  refine (markClocks_any _ _ _ _ _ _ _ _ (1) _ Ovv00.out (by omega) Ovv01.out (by omega) ne_vv00_vv01 (by omega)).mono ?_
  rintro e w9x0 ⟨rfl, ow0, ow1, K9⟩
  have r9 := range_two Lvv00.out Lvv01.out
  have hkN := Held_range K9 r9 (l := [(⟨w.heap.size, 0, none⟩, v0), (⟨w.heap.size, 1, none⟩, v1), (⟨w2.heap.size, 0, none⟩, .slice a_u00 k_u00 d_u00), (⟨w2.heap.size, 1, none⟩, .slice a_u01 k_u01 d_u01), (⟨w3.heap.size, 0, none⟩, .slice (some ⟨g0, 0, none⟩) n0 n0), (⟨w3.heap.size, 1, none⟩, .slice (some ⟨g1, 0, none⟩) n1 n1), (⟨w4.heap.size, 0, none⟩, .slice a_vv00 k_vv00 d_vv00), (⟨w4.heap.size, 1, none⟩, .slice a_vv01 k_vv01 d_vv01)]) (by simp only [List.mem_cons, List.not_mem_nil, or_false, forall_eq_or_imp, forall_eq]; omega) (by simp [Held, go_sem, *])
  (try clear hk)
  have hk := hkN
  clear hkN
  simp only [Held, and_true] at hk
  have C9 : Below w.heap.size w8 w9x0 := Below_range K9 r9 (by omega) (by have := hBw8.size; omega)
  have hBw9x0 : Below w.heap.size w w9x0 := hBw8.trans C9
  replace Ru00 := Lib.hid (RowAt_range K9 r9 (fun i hi => by have := Lu00.out i hi; omega) Ru00.out)
  replace Ru01 := Lib.hid (RowAt_range K9 r9 (fun i hi => by have := Lu01.out i hi; omega) Ru01.out)
  have Mvv00 := Lib.hid (ownsRow_rowAt ow0)
  clear Rvv00 ow0
  have Mvv01 := Lib.hid (ownsRow_rowAt ow1)
  clear Rvv01 ow1
  clear K9 r9 C9
  go_wp2_with fail
  refine (heldClocks_any _ _ (cN B (n0)) (cN B (n1)) (1) _ ?_ ?_ (by omega) (by omega) (by omega)).mono ?_
  · refine RowAt.below Mvv00.out ?_
    (repeat (first | assumption | (with_reducible exact Below.refl _ _) | (with_reducible refine Below.drewN ?_ _) | (with_reducible refine Below.drew ?_) | (with_reducible refine Below.allocS ?_ _) | ((with_reducible refine Below.setCell ?_ ?_ _); rotate_left; focus (first | omega | (simp; done) | (simp; omega))) | (with_reducible refine Below.step ?_ (by assumption))))
  · refine RowAt.below Mvv01.out ?_
    (repeat (first | assumption | (with_reducible exact Below.refl _ _) | (with_reducible refine Below.drewN ?_ _) | (with_reducible refine Below.drew ?_) | (with_reducible refine Below.allocS ?_ _) | ((with_reducible refine Below.setCell ?_ ?_ _); rotate_left; focus (first | omega | (simp; done) | (simp; omega))) | (with_reducible refine Below.step ?_ (by assumption))))
  rintro e w10x0 ⟨rfl, cw10x0⟩
  have hkN := Held.below cw10x0 (l := [(⟨w.heap.size, 0, none⟩, v0), (⟨w.heap.size, 1, none⟩, v1), (⟨w2.heap.size, 0, none⟩, .slice a_u00 k_u00 d_u00), (⟨w2.heap.size, 1, none⟩, .slice a_u01 k_u01 d_u01), (⟨w3.heap.size, 0, none⟩, .slice (some ⟨g0, 0, none⟩) n0 n0), (⟨w3.heap.size, 1, none⟩, .slice (some ⟨g1, 0, none⟩) n1 n1), (⟨w4.heap.size, 0, none⟩, .slice a_vv00 k_vv00 d_vv00), (⟨w4.heap.size, 1, none⟩, .slice a_vv01 k_vv01 d_vv01)]) (by simp [Held, go_sem, *])
  (try clear hk)
  have hk := hkN
  clear hkN
  simp only [Held, and_true] at hk
  have hBw10x0 : Below w.heap.size w w10x0 := by (repeat (first | assumption | (with_reducible exact Below.refl _ _) | (with_reducible refine Below.drewN ?_ _) | (with_reducible refine Below.drew ?_) | (with_reducible refine Below.allocS ?_ _) | ((with_reducible refine Below.setCell ?_ ?_ _); rotate_left; focus (first | omega | (simp; done) | (simp; omega))) | (with_reducible refine Below.step ?_ (by assumption))))
  have hzw10x0_0 : w.heap.size < w10x0.heap.size := by omega
  have hzw10x0_1 : w2.heap.size < w10x0.heap.size := by omega
  have hzw10x0_2 : w3.heap.size < w10x0.heap.size := by omega
  have hzw10x0_3 : w4.heap.size < w10x0.heap.size := by omega
  have B9 : Below w9x0.heap.size w9x0 w10x0 := by
    refine Below.step ?_ cw10x0
    (repeat (first | (with_reducible exact Below.refl _ _) | (with_reducible refine Below.drewN ?_ _) | (with_reducible refine Below.drew ?_) | (with_reducible refine Below.allocS ?_ _) | ((with_reducible refine Below.setCell ?_ ?_ _); rotate_left; focus (first | omega | (simp; done) | (simp; omega)))))
  replace Ru00 := Lib.hid (Ru00.out.below B9)
  replace Ru01 := Lib.hid (Ru01.out.below B9)
  replace Mvv00 := Lib.hid (Mvv00.out.below B9)
  replace Mvv01 := Lib.hid (Mvv01.out.below B9)
  clear B9
  go_wp2_with fail
  refine (toClocks_any v0 n0 v1 n1 l0 l1 _ ?_ ?_ (by omega) (by omega)).mono ?_
  · refine RowAt.below H0.out ?_
    (repeat (first | assumption | (with_reducible exact Below.refl _ _) | (with_reducible refine Below.drewN ?_ _) | (with_reducible refine Below.drew ?_) | (with_reducible refine Below.allocS ?_ _) | ((with_reducible refine Below.setCell ?_ ?_ _); rotate_left; focus (first | omega | (simp; done) | (simp; omega))) | (with_reducible refine Below.step ?_ (by assumption))))
  · refine RowAt.below H1.out ?_
    (repeat (first | assumption | (with_reducible exact Below.refl _ _) | (with_reducible refine Below.drewN ?_ _) | (with_reducible refine Below.drew ?_) | (with_reducible refine Below.allocS ?_ _) | ((with_reducible refine Below.setCell ?_ ?_ _); rotate_left; focus (first | omega | (simp; done) | (simp; omega))) | (with_reducible refine Below.step ?_ (by assumption))))
  rintro e w11 ⟨gz0, gz1, rfl, oz0, oz1, ozne0, c11⟩
  have hkN := Held.below c11 (l := [(⟨w.heap.size, 0, none⟩, v0), (⟨w.heap.size, 1, none⟩, v1), (⟨w2.heap.size, 0, none⟩, .slice a_u00 k_u00 d_u00), (⟨w2.heap.size, 1, none⟩, .slice a_u01 k_u01 d_u01), (⟨w3.heap.size, 0, none⟩, .slice (some ⟨g0, 0, none⟩) n0 n0), (⟨w3.heap.size, 1, none⟩, .slice (some ⟨g1, 0, none⟩) n1 n1), (⟨w4.heap.size, 0, none⟩, .slice a_vv00 k_vv00 d_vv00), (⟨w4.heap.size, 1, none⟩, .slice a_vv01 k_vv01 d_vv01)]) (by simp [Held, go_sem, *])
  (try clear hk)
  have hk := hkN
  clear hkN
  simp only [Held, and_true] at hk
  have hBw11 : Below w.heap.size w w11 := by (repeat (first | assumption | (with_reducible exact Below.refl _ _) | (with_reducible refine Below.drewN ?_ _) | (with_reducible refine Below.drew ?_) | (with_reducible refine Below.allocS ?_ _) | ((with_reducible refine Below.setCell ?_ ?_ _); rotate_left; focus (first | omega | (simp; done) | (simp; omega))) | (with_reducible refine Below.step ?_ (by assumption))))
  have hzw11_0 : w.heap.size < w11.heap.size := by omega
  have hzw11_1 : w2.heap.size < w11.heap.size := by omega
  have hzw11_2 : w3.heap.size < w11.heap.size := by omega
  have hzw11_3 : w4.heap.size < w11.heap.size := by omega
  have B11 : Below w10x0.heap.size w10x0 w11 := by
    refine Below.step ?_ c11
    (repeat (first | (with_reducible exact Below.refl _ _) | (with_reducible refine Below.drewN ?_ _) | (with_reducible refine Below.drew ?_) | (with_reducible refine Below.allocS ?_ _) | ((with_reducible refine Below.setCell ?_ ?_ _); rotate_left; focus (first | omega | (simp; done) | (simp; omega)))))
  replace Ru00 := Lib.hid (Ru00.out.below B11)
  replace Ru01 := Lib.hid (Ru01.out.below B11)
  replace Mvv00 := Lib.hid (Mvv00.out.below B11)
  replace Mvv01 := Lib.hid (Mvv01.out.below B11)
  go_wp2_with fail
  refine (implSetClock_lit HBB.out _ _ _ (ownsRow_rowAt oz0) (ownsRow_rowAt oz1)).mono ?_
  rintro e w12 ⟨h00, h01, rfl, ow_h00, ow_h01, ne_h00_h01, c12⟩
  obtain ⟨a_h00, k_h00, d_h00, rfl⟩ := ownsRow_shape ow_h00
  obtain ⟨a_h01, k_h01, d_h01, rfl⟩ := ownsRow_shape ow_h01
  have hkN := Held.below c12 (l := [(⟨w.heap.size, 0, none⟩, v0), (⟨w.heap.size, 1, none⟩, v1), (⟨w2.heap.size, 0, none⟩, .slice a_u00 k_u00 d_u00), (⟨w2.heap.size, 1, none⟩, .slice a_u01 k_u01 d_u01), (⟨w3.heap.size, 0, none⟩, .slice (some ⟨g0, 0, none⟩) n0 n0), (⟨w3.heap.size, 1, none⟩, .slice (some ⟨g1, 0, none⟩) n1 n1), (⟨w4.heap.size, 0, none⟩, .slice a_vv00 k_vv00 d_vv00), (⟨w4.heap.size, 1, none⟩, .slice a_vv01 k_vv01 d_vv01)]) (by simp [Held, go_sem, *])
  (try clear hk)
  have hk := hkN
  clear hkN
  simp only [Held, and_true] at hk
  have hBw12 : Below w.heap.size w w12 := by (repeat (first | assumption | (with_reducible exact Below.refl _ _) | (with_reducible refine Below.drewN ?_ _) | (with_reducible refine Below.drew ?_) | (with_reducible refine Below.allocS ?_ _) | ((with_reducible refine Below.setCell ?_ ?_ _); rotate_left; focus (first | omega | (simp; done) | (simp; omega))) | (with_reducible refine Below.step ?_ (by assumption))))
  have hzw12_0 : w.heap.size < w12.heap.size := by omega
  have hzw12_1 : w2.heap.size < w12.heap.size := by omega
  have hzw12_2 : w3.heap.size < w12.heap.size := by omega
  have hzw12_3 : w4.heap.size < w12.heap.size := by omega
  have Lh00 := Lib.hid (ownsRow_lt ow_h00)
  (try simp only [World.size_alloc, World.size_setCell, World.heap_drewN] at Lh00)
  have Oh00 := Lib.hid ow_h00
  have Rh00 := Lib.hid (ownsRow_rowAt ow_h00)
  clear ow_h00
  have Lh01 := Lib.hid (ownsRow_lt ow_h01)
  (try simp only [World.size_alloc, World.size_setCell, World.heap_drewN] at Lh01)
  have Oh01 := Lib.hid ow_h01
  have Rh01 := Lib.hid (ownsRow_rowAt ow_h01)
  clear ow_h01
  have : ¬ w.heap.size = w12.heap.size := by omega
  have : ¬ w2.heap.size = w12.heap.size := by omega
  have : ¬ w3.heap.size = w12.heap.size := by omega
  have : ¬ w4.heap.size = w12.heap.size := by omega
  have B12 : Below w11.heap.size w11 w12 := by
    refine Below.step ?_ c12
    (repeat (first | (with_reducible exact Below.refl _ _) | (with_reducible refine Below.drewN ?_ _) | (with_reducible refine Below.drew ?_) | (with_reducible refine Below.allocS ?_ _) | ((with_reducible refine Below.setCell ?_ ?_ _); rotate_left; focus (first | omega | (simp; done) | (simp; omega)))))
  replace Ru00 := Lib.hid (Ru00.out.below B12)
  replace Ru01 := Lib.hid (Ru01.out.below B12)
  replace Mvv00 := Lib.hid (Mvv00.out.below B12)
  replace Mvv01 := Lib.hid (Mvv01.out.below B12)
  go_wp2_with fail
  refine (eqClocks_any _ _ (cN B (n0)) _ _ (cN B (n1)) (cL B (clockSet l0 i2.toNat x3 y4)) (cL B (clockSet l0 i2.toNat x3 y4)) (cL B (l1)) (cL B (l1)) _ ?_ ?_ rfl ?_ ?_ rfl).mono ?_
  · refine RowAt.below Rh00.out ?_
    (repeat (first | assumption | (with_reducible exact Below.refl _ _) | (with_reducible refine Below.drewN ?_ _) | (with_reducible refine Below.drew ?_) | (with_reducible refine Below.allocS ?_ _) | ((with_reducible refine Below.setCell ?_ ?_ _); rotate_left; focus (first | omega | (simp; done) | (simp; omega))) | (with_reducible refine Below.step ?_ (by assumption))))
  · refine RowAt.below Ru00.out ?_
    (repeat (first | assumption | (with_reducible exact Below.refl _ _) | (with_reducible refine Below.drewN ?_ _) | (with_reducible refine Below.drew ?_) | (with_reducible refine Below.allocS ?_ _) | ((with_reducible refine Below.setCell ?_ ?_ _); rotate_left; focus (first | omega | (simp; done) | (simp; omega))) | (with_reducible refine Below.step ?_ (by assumption))))
  · refine RowAt.below Rh01.out ?_
    (repeat (first | assumption | (with_reducible exact Below.refl _ _) | (with_reducible refine Below.drewN ?_ _) | (with_reducible refine Below.drew ?_) | (with_reducible refine Below.allocS ?_ _) | ((with_reducible refine Below.setCell ?_ ?_ _); rotate_left; focus (first | omega | (simp; done) | (simp; omega))) | (with_reducible refine Below.step ?_ (by assumption))))
  · refine RowAt.below Ru01.out ?_
    (repeat (first | assumption | (with_reducible exact Below.refl _ _) | (with_reducible refine Below.drewN ?_ _) | (with_reducible refine Below.drew ?_) | (with_reducible refine Below.allocS ?_ _) | ((with_reducible refine Below.setCell ?_ ?_ _); rotate_left; focus (first | omega | (simp; done) | (simp; omega))) | (with_reducible refine Below.step ?_ (by assumption))))
  rintro e w13 ⟨rfl, c13x0⟩
  have hkN := Held.below c13x0 (l := [(⟨w.heap.size, 0, none⟩, v0), (⟨w.heap.size, 1, none⟩, v1), (⟨w2.heap.size, 0, none⟩, .slice a_u00 k_u00 d_u00), (⟨w2.heap.size, 1, none⟩, .slice a_u01 k_u01 d_u01), (⟨w3.heap.size, 0, none⟩, .slice (some ⟨g0, 0, none⟩) n0 n0), (⟨w3.heap.size, 1, none⟩, .slice (some ⟨g1, 0, none⟩) n1 n1), (⟨w4.heap.size, 0, none⟩, .slice a_vv00 k_vv00 d_vv00), (⟨w4.heap.size, 1, none⟩, .slice a_vv01 k_vv01 d_vv01), (⟨w12.heap.size, 0, none⟩, .slice a_h00 k_h00 d_h00), (⟨w12.heap.size, 1, none⟩, .slice a_h01 k_h01 d_h01)]) (by simp [Held, go_sem, *])
  (try clear hk)
  have hk := hkN
  clear hkN
  simp only [Held, and_true] at hk
  have hBw13 : Below w.heap.size w w13 := by (repeat (first | assumption | (with_reducible exact Below.refl _ _) | (with_reducible refine Below.drewN ?_ _) | (with_reducible refine Below.drew ?_) | (with_reducible refine Below.allocS ?_ _) | ((with_reducible refine Below.setCell ?_ ?_ _); rotate_left; focus (first | omega | (simp; done) | (simp; omega))) | (with_reducible refine Below.step ?_ (by assumption))))
  have hzw13_0 : w.heap.size < w13.heap.size := by omega
  have hzw13_1 : w2.heap.size < w13.heap.size := by omega
  have hzw13_2 : w3.heap.size < w13.heap.size := by omega
  have hzw13_3 : w4.heap.size < w13.heap.size := by omega
  have hzw13_4 : w12.heap.size < w13.heap.size := by omega
  have B13 : Below w12.heap.size w12 w13 := by
    refine Below.step ?_ c13x0
    (repeat (first | (with_reducible exact Below.refl _ _) | (with_reducible refine Below.drewN ?_ _) | (with_reducible refine Below.drew ?_) | (with_reducible refine Below.allocS ?_ _) | ((with_reducible refine Below.setCell ?_ ?_ _); rotate_left; focus (first | omega | (simp; done) | (simp; omega)))))
  replace Ru00 := Lib.hid (Ru00.out.below B13)
  replace Ru01 := Lib.hid (Ru01.out.below B13)
  replace Mvv00 := Lib.hid (Mvv00.out.below B13)
  replace Mvv01 := Lib.hid (Mvv01.out.below B13)
  go_wp2_with fail
  go_wp2_with fail
  refine (heldClocks_any _ _ (cN B (n0)) (cN B (n1)) (1) _ ?_ ?_ (by omega) (by omega) (by omega)).mono ?_
  · refine RowAt.below Mvv00.out ?_
    (repeat (first | assumption | (with_reducible exact Below.refl _ _) | (with_reducible refine Below.drewN ?_ _) | (with_reducible refine Below.drew ?_) | (with_reducible refine Below.allocS ?_ _) | ((with_reducible refine Below.setCell ?_ ?_ _); rotate_left; focus (first | omega | (simp; done) | (simp; omega))) | (with_reducible refine Below.step ?_ (by assumption))))
  · refine RowAt.below Mvv01.out ?_
    (repeat (first | assumption | (with_reducible exact Below.refl _ _) | (with_reducible refine Below.drewN ?_ _) | (with_reducible refine Below.drew ?_) | (with_reducible refine Below.allocS ?_ _) | ((with_reducible refine Below.setCell ?_ ?_ _); rotate_left; focus (first | omega | (simp; done) | (simp; omega))) | (with_reducible refine Below.step ?_ (by assumption))))
  rintro e w14x0 ⟨rfl, cw14x0⟩
  have hkN := Held.below cw14x0 (l := [(⟨w.heap.size, 0, none⟩, v0), (⟨w.heap.size, 1, none⟩, v1), (⟨w2.heap.size, 0, none⟩, .slice a_u00 k_u00 d_u00), (⟨w2.heap.size, 1, none⟩, .slice a_u01 k_u01 d_u01), (⟨w3.heap.size, 0, none⟩, .slice (some ⟨g0, 0, none⟩) n0 n0), (⟨w3.heap.size, 1, none⟩, .slice (some ⟨g1, 0, none⟩) n1 n1), (⟨w4.heap.size, 0, none⟩, .slice a_vv00 k_vv00 d_vv00), (⟨w4.heap.size, 1, none⟩, .slice a_vv01 k_vv01 d_vv01), (⟨w12.heap.size, 0, none⟩, .slice a_h00 k_h00 d_h00), (⟨w12.heap.size, 1, none⟩, .slice a_h01 k_h01 d_h01)]) (by simp [Held, go_sem, *])
  (try clear hk)
  have hk := hkN
  clear hkN
  simp only [Held, and_true] at hk
  have hBw14x0 : Below w.heap.size w w14x0 := by (repeat (first | assumption | (with_reducible exact Below.refl _ _) | (with_reducible refine Below.drewN ?_ _) | (with_reducible refine Below.drew ?_) | (with_reducible refine Below.allocS ?_ _) | ((with_reducible refine Below.setCell ?_ ?_ _); rotate_left; focus (first | omega | (simp; done) | (simp; omega))) | (with_reducible refine Below.step ?_ (by assumption))))
  have hzw14x0_0 : w.heap.size < w14x0.heap.size := by omega
  have hzw14x0_1 : w2.heap.size < w14x0.heap.size := by omega
  have hzw14x0_2 : w3.heap.size < w14x0.heap.size := by omega
  have hzw14x0_3 : w4.heap.size < w14x0.heap.size := by omega
  have hzw14x0_4 : w12.heap.size < w14x0.heap.size := by omega
  have B9 : Below w13.heap.size w13 w14x0 := by
    refine Below.step ?_ cw14x0
    (repeat (first | (with_reducible exact Below.refl _ _) | (with_reducible refine Below.drewN ?_ _) | (with_reducible refine Below.drew ?_) | (with_reducible refine Below.allocS ?_ _) | ((with_reducible refine Below.setCell ?_ ?_ _); rotate_left; focus (first | omega | (simp; done) | (simp; omega)))))
  replace Ru00 := Lib.hid (Ru00.out.below B9)
  replace Ru01 := Lib.hid (Ru01.out.below B9)
  replace Mvv00 := Lib.hid (Mvv00.out.below B9)
  replace Mvv01 := Lib.hid (Mvv01.out.below B9)
  clear B9
  go_wp2_with fail
  go_ret
  refine ⟨rfl, ?_⟩
  (repeat (first | assumption | (with_reducible exact Below.refl _ _) | (with_reducible refine Below.drewN ?_ _) | (with_reducible refine Below.drew ?_) | (with_reducible refine Below.allocS ?_ _) | ((with_reducible refine Below.setCell ?_ ?_ _); rotate_left; focus (first | omega | (simp; done) | (simp; omega))) | (with_reducible refine Below.step ?_ (by assumption))))

theorem specSetLink_lit {n m : Nat} {l lk : List Nat} {i2 : Int} {j3 : Int} {z4 : Nat} {B : Bool} (hB : ((clocksB n l m lk && (inZ i2 0 ((n : Int) - 1) && inZ j3 0 ((n : Int) - 1))) && clocksB n l m (lk.set (i2.toNat * n + j3.toNat) z4)) = B) (v v' : Value) (w : World) (h : RowAt w v 2 n (fl l)) (h' : RowAt w v' 1 m (fl lk)) : Calls Try.prog 21 #[.agg #[v, v'], .int .i64 i2, .int .i64 j3, .float .f32 z4] w (GiveC (cN B (n)) (cL B (l)) (cN B (m)) (cL B (lk.set (i2.toNat * n + j3.toNat) z4)) B w) := hB ▸ specSetLink_any v v' n m l lk i2 j3 z4 w h h'

theorem implSetLink_lit {n m : Nat} {l lk : List Nat} {i2 : Int} {j3 : Int} {z4 : Nat} {B : Bool} (hB : ((clocksB n l m lk && (inZ i2 0 ((n : Int) - 1) && inZ j3 0 ((n : Int) - 1))) && clocksB n l m (lk.set (i2.toNat * n + j3.toNat) z4)) = B) (v v' : Value) (w : World) (h : RowAt w v 2 n (fl l)) (h' : RowAt w v' 1 m (fl lk)) : Calls Try.prog 23 #[.agg #[v, v'], .int .i64 i2, .int .i64 j3, .float .f32 z4] w (GiveC (cN B (n)) (cL B (l)) (cN B (m)) (cL B (lk.set (i2.toNat * n + j3.toNat) z4)) B w) := hB ▸ implSetLink_any v v' n m l lk i2 j3 z4 w h h'

set_option maxRecDepth 100000 in
set_option maxHeartbeats 8000000 in
theorem lawSetLink_walk (v0 : Value) (n0 : Nat) (l0 : List Nat) (v1 : Value) (n1 : Nat) (l1 : List Nat) (i2 : Int) (j3 : Int) (z4 : Nat) (w : World) (h0 : RowAt w v0 2 n0 (fl l0)) (h1 : RowAt w v1 1 n1 (fl l1)) (hb0 : ∀ x ∈ l0, x < 4294967296) (hb1 : ∀ x ∈ l1, x < 4294967296) (hb_i2 : (Lit.int .i64 i2).wf = true) (hb_j3 : (Lit.int .i64 j3).wf = true) (hb_z4 : z4 < 4294967296) : Calls Try.prog 4 #[.agg #[v0, v1], .int .i64 i2, .int .i64 j3, .float .f32 z4] w fun e w' => e = .returned (.bool true) ∧ Below w.heap.size w w' := by
  have H0 := Lib.hid h0
  have H1 := Lib.hid h1
  have HB0 := Lib.hid hb0
  clear hb0
  have HB1 := Lib.hid hb1
  clear hb1
  clear h0 h1
  go_enter Try.func4, Try.ntmps4
  obtain ⟨B, hB⟩ : ∃ B, ((clocksB n0 l0 n1 l1 && (inZ i2 0 ((n0 : Int) - 1) && inZ j3 0 ((n0 : Int) - 1))) && clocksB n0 l0 n1 (l1.set (i2.toNat * n0 + j3.toNat) z4)) = B := ⟨_, rfl⟩
  have hN9 : cN B (n0) ≤ 12 ∧ cN B (n1) ≤ 144 := by
    cases B
    · exact ⟨Nat.zero_le _, Nat.zero_le _⟩
    · simp only [Bool.and_eq_true] at hB; obtain ⟨c1, c2, c3, c4, c5⟩ := clocks_parts hB.1.1; exact ⟨c2, by have := sq_small c2; show n1 ≤ 144; omega⟩
  have HBB := Lib.hid hB
  clear hB
  go_wp2_with fail
  refine (szClocks_any v0 n0 (fl l0) v1 n1 (fl l1) (1048576) _ ?_ ?_ (by omega)).mono ?_
  · refine RowAt.below H0.out ?_
    (repeat (first | assumption | (with_reducible exact Below.refl _ _) | (with_reducible refine Below.drewN ?_ _) | (with_reducible refine Below.drew ?_) | (with_reducible refine Below.allocS ?_ _) | ((with_reducible refine Below.setCell ?_ ?_ _); rotate_left; focus (first | omega | (simp; done) | (simp; omega))) | (with_reducible refine Below.step ?_ (by assumption))))
  · refine RowAt.below H1.out ?_
    (repeat (first | assumption | (with_reducible exact Below.refl _ _) | (with_reducible refine Below.drewN ?_ _) | (with_reducible refine Below.drew ?_) | (with_reducible refine Below.allocS ?_ _) | ((with_reducible refine Below.setCell ?_ ?_ _); rotate_left; focus (first | omega | (simp; done) | (simp; omega))) | (with_reducible refine Below.step ?_ (by assumption))))
  rintro e ws0 ⟨rfl, hcs0⟩
  have hk := Held.below hcs0 (l := [(⟨w.heap.size, 0, none⟩, v0), (⟨w.heap.size, 1, none⟩, v1)]) (by simp [Held, go_sem, *])
  simp only [Held, and_true] at hk
  have hBs0 : Below w.heap.size w ws0 := by (repeat (first | assumption | (with_reducible exact Below.refl _ _) | (with_reducible refine Below.drewN ?_ _) | (with_reducible refine Below.drew ?_) | (with_reducible refine Below.allocS ?_ _) | ((with_reducible refine Below.setCell ?_ ?_ _); rotate_left; focus (first | omega | (simp; done) | (simp; omega))) | (with_reducible refine Below.step ?_ (by assumption))))
  clear hcs0
  by_cases hs0 : n0 + n1 ≤ 1048576
  case neg =>
    rw [if_neg hs0]
    go_wp2_with fail
    go_ret
    refine ⟨rfl, ?_⟩
    (repeat (first | assumption | (with_reducible exact Below.refl _ _) | (with_reducible refine Below.drewN ?_ _) | (with_reducible refine Below.drew ?_) | (with_reducible refine Below.allocS ?_ _) | ((with_reducible refine Below.setCell ?_ ?_ _); rotate_left; focus (first | omega | (simp; done) | (simp; omega))) | (with_reducible refine Below.step ?_ (by assumption))))
  rw [if_pos hs0]
  go_wp2_with fail
  refine (toClocks_any v0 n0 v1 n1 l0 l1 _ ?_ ?_ (by omega) (by omega)).mono ?_
  · refine RowAt.below H0.out ?_
    (repeat (first | assumption | (with_reducible exact Below.refl _ _) | (with_reducible refine Below.drewN ?_ _) | (with_reducible refine Below.drew ?_) | (with_reducible refine Below.allocS ?_ _) | ((with_reducible refine Below.setCell ?_ ?_ _); rotate_left; focus (first | omega | (simp; done) | (simp; omega))) | (with_reducible refine Below.step ?_ (by assumption))))
  · refine RowAt.below H1.out ?_
    (repeat (first | assumption | (with_reducible exact Below.refl _ _) | (with_reducible refine Below.drewN ?_ _) | (with_reducible refine Below.drew ?_) | (with_reducible refine Below.allocS ?_ _) | ((with_reducible refine Below.setCell ?_ ?_ _); rotate_left; focus (first | omega | (simp; done) | (simp; omega))) | (with_reducible refine Below.step ?_ (by assumption))))
  rintro e w1 ⟨ga0, ga1, rfl, oa0, oa1, oane0, c1⟩
  have hkN := Held.below c1 (l := [(⟨w.heap.size, 0, none⟩, v0), (⟨w.heap.size, 1, none⟩, v1)]) (by simp [Held, go_sem, *])
  (try clear hk)
  have hk := hkN
  clear hkN
  simp only [Held, and_true] at hk
  have hBw1 : Below w.heap.size w w1 := by (repeat (first | assumption | (with_reducible exact Below.refl _ _) | (with_reducible refine Below.drewN ?_ _) | (with_reducible refine Below.drew ?_) | (with_reducible refine Below.allocS ?_ _) | ((with_reducible refine Below.setCell ?_ ?_ _); rotate_left; focus (first | omega | (simp; done) | (simp; omega))) | (with_reducible refine Below.step ?_ (by assumption))))
  have hzw1_0 : w.heap.size < w1.heap.size := by omega
  go_wp2_with fail
  refine (specSetLink_lit HBB.out _ _ _ (ownsRow_rowAt oa0) (ownsRow_rowAt oa1)).mono ?_
  rintro e w2 ⟨u00, u01, rfl, ow_u00, ow_u01, ne_u00_u01, c2⟩
  obtain ⟨a_u00, k_u00, d_u00, rfl⟩ := ownsRow_shape ow_u00
  obtain ⟨a_u01, k_u01, d_u01, rfl⟩ := ownsRow_shape ow_u01
  have hkN := Held.below c2 (l := [(⟨w.heap.size, 0, none⟩, v0), (⟨w.heap.size, 1, none⟩, v1)]) (by simp [Held, go_sem, *])
  (try clear hk)
  have hk := hkN
  clear hkN
  simp only [Held, and_true] at hk
  have hBw2 : Below w.heap.size w w2 := by (repeat (first | assumption | (with_reducible exact Below.refl _ _) | (with_reducible refine Below.drewN ?_ _) | (with_reducible refine Below.drew ?_) | (with_reducible refine Below.allocS ?_ _) | ((with_reducible refine Below.setCell ?_ ?_ _); rotate_left; focus (first | omega | (simp; done) | (simp; omega))) | (with_reducible refine Below.step ?_ (by assumption))))
  have hzw2_0 : w.heap.size < w2.heap.size := by omega
  have Lu00 := Lib.hid (ownsRow_lt ow_u00)
  (try simp only [World.size_alloc, World.size_setCell, World.heap_drewN] at Lu00)
  have Ou00 := Lib.hid ow_u00
  have Ru00 := Lib.hid (ownsRow_rowAt ow_u00)
  clear ow_u00
  have Lu01 := Lib.hid (ownsRow_lt ow_u01)
  (try simp only [World.size_alloc, World.size_setCell, World.heap_drewN] at Lu01)
  have Ou01 := Lib.hid ow_u01
  have Ru01 := Lib.hid (ownsRow_rowAt ow_u01)
  clear ow_u01
  have : ¬ w.heap.size = w2.heap.size := by omega
  clear oa0 oa1
  go_wp2_with fail
  refine (toClocks_any v0 n0 v1 n1 l0 l1 _ ?_ ?_ (by omega) (by omega)).mono ?_
  · refine RowAt.below H0.out ?_
    (repeat (first | assumption | (with_reducible exact Below.refl _ _) | (with_reducible refine Below.drewN ?_ _) | (with_reducible refine Below.drew ?_) | (with_reducible refine Below.allocS ?_ _) | ((with_reducible refine Below.setCell ?_ ?_ _); rotate_left; focus (first | omega | (simp; done) | (simp; omega))) | (with_reducible refine Below.step ?_ (by assumption))))
  · refine RowAt.below H1.out ?_
    (repeat (first | assumption | (with_reducible exact Below.refl _ _) | (with_reducible refine Below.drewN ?_ _) | (with_reducible refine Below.drew ?_) | (with_reducible refine Below.allocS ?_ _) | ((with_reducible refine Below.setCell ?_ ?_ _); rotate_left; focus (first | omega | (simp; done) | (simp; omega))) | (with_reducible refine Below.step ?_ (by assumption))))
  rintro e w3 ⟨g0, g1, rfl, o0, o1, one0, c3⟩
  have hkN := Held.below c3 (l := [(⟨w.heap.size, 0, none⟩, v0), (⟨w.heap.size, 1, none⟩, v1), (⟨w2.heap.size, 0, none⟩, .slice a_u00 k_u00 d_u00), (⟨w2.heap.size, 1, none⟩, .slice a_u01 k_u01 d_u01)]) (by simp [Held, go_sem, *])
  (try clear hk)
  have hk := hkN
  clear hkN
  simp only [Held, and_true] at hk
  have hBw3 : Below w.heap.size w w3 := by (repeat (first | assumption | (with_reducible exact Below.refl _ _) | (with_reducible refine Below.drewN ?_ _) | (with_reducible refine Below.drew ?_) | (with_reducible refine Below.allocS ?_ _) | ((with_reducible refine Below.setCell ?_ ?_ _); rotate_left; focus (first | omega | (simp; done) | (simp; omega))) | (with_reducible refine Below.step ?_ (by assumption))))
  have hzw3_0 : w.heap.size < w3.heap.size := by omega
  have hzw3_1 : w2.heap.size < w3.heap.size := by omega
  have B3 : Below w2.heap.size w2 w3 := by
    refine Below.step ?_ c3
    (repeat (first | (with_reducible exact Below.refl _ _) | (with_reducible refine Below.drewN ?_ _) | (with_reducible refine Below.drew ?_) | (with_reducible refine Below.allocS ?_ _) | ((with_reducible refine Below.setCell ?_ ?_ _); rotate_left; focus (first | omega | (simp; done) | (simp; omega)))))
  replace Ru00 := Lib.hid (Ru00.out.below B3)
  replace Ru01 := Lib.hid (Ru01.out.below B3)
  have : ¬ w.heap.size = w3.heap.size := by omega
  have : ¬ w2.heap.size = w3.heap.size := by omega
  have X0 := ownsRow_lt o0 _ rfl
  have X1 := ownsRow_lt o1 _ rfl
  simp only [World.size_alloc, World.size_setCell] at X0 X1
  have P0 := Lib.hid o0
  have P1 := Lib.hid o1
  go_wp2_with fail
  refine (implSetLink_lit HBB.out _ _ _ ((ownsRow_rowAt o0).below (by (repeat (first | (with_reducible exact Below.refl _ _) | (with_reducible refine Below.drewN ?_ _) | (with_reducible refine Below.drew ?_) | (with_reducible refine Below.allocS ?_ _) | ((with_reducible refine Below.setCell ?_ ?_ _); rotate_left; focus (first | omega | (simp; done) | (simp; omega))))))) ((ownsRow_rowAt o1).below (by (repeat (first | (with_reducible exact Below.refl _ _) | (with_reducible refine Below.drewN ?_ _) | (with_reducible refine Below.drew ?_) | (with_reducible refine Below.allocS ?_ _) | ((with_reducible refine Below.setCell ?_ ?_ _); rotate_left; focus (first | omega | (simp; done) | (simp; omega)))))))).mono ?_
  rintro e w4 ⟨vv00, vv01, rfl, ow_vv00, ow_vv01, ne_vv00_vv01, c4⟩
  obtain ⟨a_vv00, k_vv00, d_vv00, rfl⟩ := ownsRow_shape ow_vv00
  obtain ⟨a_vv01, k_vv01, d_vv01, rfl⟩ := ownsRow_shape ow_vv01
  have hkN := Held.below c4 (l := [(⟨w.heap.size, 0, none⟩, v0), (⟨w.heap.size, 1, none⟩, v1), (⟨w2.heap.size, 0, none⟩, .slice a_u00 k_u00 d_u00), (⟨w2.heap.size, 1, none⟩, .slice a_u01 k_u01 d_u01), (⟨w3.heap.size, 0, none⟩, .slice (some ⟨g0, 0, none⟩) n0 n0), (⟨w3.heap.size, 1, none⟩, .slice (some ⟨g1, 0, none⟩) n1 n1)]) (by simp [Held, go_sem, *])
  (try clear hk)
  have hk := hkN
  clear hkN
  simp only [Held, and_true] at hk
  have hBw4 : Below w.heap.size w w4 := by (repeat (first | assumption | (with_reducible exact Below.refl _ _) | (with_reducible refine Below.drewN ?_ _) | (with_reducible refine Below.drew ?_) | (with_reducible refine Below.allocS ?_ _) | ((with_reducible refine Below.setCell ?_ ?_ _); rotate_left; focus (first | omega | (simp; done) | (simp; omega))) | (with_reducible refine Below.step ?_ (by assumption))))
  have hzw4_0 : w.heap.size < w4.heap.size := by omega
  have hzw4_1 : w2.heap.size < w4.heap.size := by omega
  have hzw4_2 : w3.heap.size < w4.heap.size := by omega
  have Lvv00 := Lib.hid (ownsRow_lt ow_vv00)
  (try simp only [World.size_alloc, World.size_setCell, World.heap_drewN] at Lvv00)
  have Ovv00 := Lib.hid ow_vv00
  have Rvv00 := Lib.hid (ownsRow_rowAt ow_vv00)
  clear ow_vv00
  have Lvv01 := Lib.hid (ownsRow_lt ow_vv01)
  (try simp only [World.size_alloc, World.size_setCell, World.heap_drewN] at Lvv01)
  have Ovv01 := Lib.hid ow_vv01
  have Rvv01 := Lib.hid (ownsRow_rowAt ow_vv01)
  clear ow_vv01
  have : ¬ w.heap.size = w4.heap.size := by omega
  have : ¬ w2.heap.size = w4.heap.size := by omega
  have : ¬ w3.heap.size = w4.heap.size := by omega
  clear o0 o1
  have B4 : Below w3.heap.size w3 w4 := by
    refine Below.step ?_ c4
    (repeat (first | (with_reducible exact Below.refl _ _) | (with_reducible refine Below.drewN ?_ _) | (with_reducible refine Below.drew ?_) | (with_reducible refine Below.allocS ?_ _) | ((with_reducible refine Below.setCell ?_ ?_ _); rotate_left; focus (first | omega | (simp; done) | (simp; omega)))))
  replace Ru00 := Lib.hid (Ru00.out.below B4)
  replace Ru01 := Lib.hid (Ru01.out.below B4)
  replace P0 := Lib.hid (ownsRow_below P0.out B4)
  replace P1 := Lib.hid (ownsRow_below P1.out B4)
  go_wp2_with fail
  refine (eqClocks_any _ _ (cN B (n0)) _ _ (cN B (n1)) (cL B (l0)) (cL B (l0)) (cL B (l1.set (i2.toNat * n0 + j3.toNat) z4)) (cL B (l1.set (i2.toNat * n0 + j3.toNat) z4)) _ ?_ ?_ rfl ?_ ?_ rfl).mono ?_
  · refine RowAt.below Rvv00.out ?_
    (repeat (first | assumption | (with_reducible exact Below.refl _ _) | (with_reducible refine Below.drewN ?_ _) | (with_reducible refine Below.drew ?_) | (with_reducible refine Below.allocS ?_ _) | ((with_reducible refine Below.setCell ?_ ?_ _); rotate_left; focus (first | omega | (simp; done) | (simp; omega))) | (with_reducible refine Below.step ?_ (by assumption))))
  · refine RowAt.below Ru00.out ?_
    (repeat (first | assumption | (with_reducible exact Below.refl _ _) | (with_reducible refine Below.drewN ?_ _) | (with_reducible refine Below.drew ?_) | (with_reducible refine Below.allocS ?_ _) | ((with_reducible refine Below.setCell ?_ ?_ _); rotate_left; focus (first | omega | (simp; done) | (simp; omega))) | (with_reducible refine Below.step ?_ (by assumption))))
  · refine RowAt.below Rvv01.out ?_
    (repeat (first | assumption | (with_reducible exact Below.refl _ _) | (with_reducible refine Below.drewN ?_ _) | (with_reducible refine Below.drew ?_) | (with_reducible refine Below.allocS ?_ _) | ((with_reducible refine Below.setCell ?_ ?_ _); rotate_left; focus (first | omega | (simp; done) | (simp; omega))) | (with_reducible refine Below.step ?_ (by assumption))))
  · refine RowAt.below Ru01.out ?_
    (repeat (first | assumption | (with_reducible exact Below.refl _ _) | (with_reducible refine Below.drewN ?_ _) | (with_reducible refine Below.drew ?_) | (with_reducible refine Below.allocS ?_ _) | ((with_reducible refine Below.setCell ?_ ?_ _); rotate_left; focus (first | omega | (simp; done) | (simp; omega))) | (with_reducible refine Below.step ?_ (by assumption))))
  rintro e w5 ⟨rfl, c5x0⟩
  have hkN := Held.below c5x0 (l := [(⟨w.heap.size, 0, none⟩, v0), (⟨w.heap.size, 1, none⟩, v1), (⟨w2.heap.size, 0, none⟩, .slice a_u00 k_u00 d_u00), (⟨w2.heap.size, 1, none⟩, .slice a_u01 k_u01 d_u01), (⟨w3.heap.size, 0, none⟩, .slice (some ⟨g0, 0, none⟩) n0 n0), (⟨w3.heap.size, 1, none⟩, .slice (some ⟨g1, 0, none⟩) n1 n1), (⟨w4.heap.size, 0, none⟩, .slice a_vv00 k_vv00 d_vv00), (⟨w4.heap.size, 1, none⟩, .slice a_vv01 k_vv01 d_vv01)]) (by simp [Held, go_sem, *])
  (try clear hk)
  have hk := hkN
  clear hkN
  simp only [Held, and_true] at hk
  have hBw5 : Below w.heap.size w w5 := by (repeat (first | assumption | (with_reducible exact Below.refl _ _) | (with_reducible refine Below.drewN ?_ _) | (with_reducible refine Below.drew ?_) | (with_reducible refine Below.allocS ?_ _) | ((with_reducible refine Below.setCell ?_ ?_ _); rotate_left; focus (first | omega | (simp; done) | (simp; omega))) | (with_reducible refine Below.step ?_ (by assumption))))
  have hzw5_0 : w.heap.size < w5.heap.size := by omega
  have hzw5_1 : w2.heap.size < w5.heap.size := by omega
  have hzw5_2 : w3.heap.size < w5.heap.size := by omega
  have hzw5_3 : w4.heap.size < w5.heap.size := by omega
  have B5 : Below w4.heap.size w4 w5 := by
    refine Below.step ?_ c5x0
    (repeat (first | (with_reducible exact Below.refl _ _) | (with_reducible refine Below.drewN ?_ _) | (with_reducible refine Below.drew ?_) | (with_reducible refine Below.allocS ?_ _) | ((with_reducible refine Below.setCell ?_ ?_ _); rotate_left; focus (first | omega | (simp; done) | (simp; omega)))))
  replace Ru00 := Lib.hid (Ru00.out.below B5)
  replace Ru01 := Lib.hid (Ru01.out.below B5)
  replace Rvv00 := Lib.hid (Rvv00.out.below B5)
  replace Rvv01 := Lib.hid (Rvv01.out.below B5)
  replace Ovv00 := Lib.hid (ownsRow_below Ovv00.out B5)
  replace Ovv01 := Lib.hid (ownsRow_below Ovv01.out B5)
  replace P0 := Lib.hid (ownsRow_below P0.out B5)
  replace P1 := Lib.hid (ownsRow_below P1.out B5)
  go_wp2_with fail
  have R0 := Lib.hid (ownsRow_rowAt P0.out)
  have R1 := Lib.hid (ownsRow_rowAt P1.out)
  have hst : stableV [(2, 55, (fun v w => ∃ s0 s1, v = .agg #[s0, s1] ∧ RowAt w s0 2 n0 (fl l0) ∧ RowAt w s1 1 n1 (fl l1)))] := by
    intro q hq
    obtain rfl := List.mem_singleton.1 hq
    intro v w w' hb hh
    obtain ⟨s0, s1, rfl, r0, r1⟩ := hh; exact ⟨s0, s1, rfl, r0.below hb, r1.below hb⟩
  refine region_calmV w5 [(⟨w.heap.size, 0, none⟩, v0), (⟨w.heap.size, 1, none⟩, v1), (⟨w2.heap.size, 0, none⟩, .slice a_u00 k_u00 d_u00), (⟨w2.heap.size, 1, none⟩, .slice a_u01 k_u01 d_u01), (⟨w3.heap.size, 0, none⟩, .slice (some ⟨g0, 0, none⟩) n0 n0), (⟨w3.heap.size, 1, none⟩, .slice (some ⟨g1, 0, none⟩) n1 n1), (⟨w4.heap.size, 0, none⟩, .slice a_vv00 k_vv00 d_vv00), (⟨w4.heap.size, 1, none⟩, .slice a_vv01 k_vv01 d_vv01)] (fun f _ v => (f = 22 ∧ ∃ s0 s1, v = .agg #[s0, s1]) ∨ (f = 17 ∧ v = .bool true)) [(2, 55, (fun v w => ∃ s0 s1, v = .agg #[s0, s1] ∧ RowAt w s0 2 n0 (fl l0) ∧ RowAt w s1 1 n1 (fl l1)))] (by kernel_rfl) (by kernel_rfl) (by kernel_rfl) ⟨by simp [Held, go_sem, *], by (repeat (first | assumption | (with_reducible exact Below.refl _ _) | (with_reducible refine Below.drewN ?_ _) | (with_reducible refine Below.drew ?_) | (with_reducible refine Below.allocS ?_ _) | ((with_reducible refine Below.setCell ?_ ?_ _); rotate_left; focus (first | omega | (simp; done) | (simp; omega))) | (with_reducible refine Below.step ?_ (by assumption))))⟩ ?_
  repeat (first | (first | (refine calmV_plain hst rfl rfl ?_ (fun K hK w1 hC => ?_); (focus (intro _ _; simp [RVF]; done)); have hC' := hC.1; simp only [Held, and_true] at hC'; go_wp2_with (first | (refine wpList_fbin rfl rfl rfl rfl rfl (fun r n hr => ?_)) | (refine wpList_widen rfl rfl Try.underlying44 Try.underlying22 rfl (fun r n hr => ?_))); refine ⟨rfl, (by first | exact Below.refl _ _ | exact below_drewN _), hK _ ?_⟩; clear hC hC' hK K w1) | (refine calmV_check rfl rfl rfl ?_ ?_; (focus (intro _ _; simp [RVF]; done))) | (refine calmV_skip rfl ?_ ?_; (focus (intro _ _; simp [RVF]; done)); simp [Act.put])) | (refine calmV_call (f := 22) (args := _) hst rfl (by (intro w1; simp [execOp, resolve, invoke, go_sem]; with_reducible rfl)) (fun w1 hC hD => ?_) ?_; (focus (refine (toClocks_any v0 n0 v1 n1 l0 l1 _ ?_ ?_ (by omega) (by omega)).mono ?_; (focus (refine RowAt.below H0.out ?_; have hB9 := hC.2; (repeat (first | assumption | (with_reducible exact Below.refl _ _) | (with_reducible refine Below.drewN ?_ _) | (with_reducible refine Below.drew ?_) | (with_reducible refine Below.allocS ?_ _) | ((with_reducible refine Below.setCell ?_ ?_ _); rotate_left; focus (first | omega | (simp; done) | (simp; omega))) | (with_reducible refine Below.step ?_ (by assumption)))); done)); (focus (refine RowAt.below H1.out ?_; have hB9 := hC.2; (repeat (first | assumption | (with_reducible exact Below.refl _ _) | (with_reducible refine Below.drewN ?_ _) | (with_reducible refine Below.drew ?_) | (with_reducible refine Below.allocS ?_ _) | ((with_reducible refine Below.setCell ?_ ?_ _); rotate_left; focus (first | omega | (simp; done) | (simp; omega))) | (with_reducible refine Below.step ?_ (by assumption)))); done)); rintro e w2 ⟨g'0, g'1, rfl, o'0, o'1, o'ne0, hb2⟩; exact ⟨_, rfl, .inl ⟨rfl, _, _, rfl⟩, (by simp [RVF, Act.put, Act.eval]; exact ⟨_, _, ⟨rfl, rfl⟩, ownsRow_rowAt o'0, ownsRow_rowAt o'1⟩), hb2⟩)); (intro v hv; simp at hv; obtain ⟨s0, s1, rfl⟩ := hv)) | (refine calmV_call (f := 17) (args := _) hst rfl (by (intro w1; simp [execOp, resolve, invoke, go_sem]; with_reducible rfl)) (fun w1 hC hD => ?_) ?_; (focus (have hf := RVF_get (depV hD (ia := 2) (by kernel_rfl)) (List.mem_singleton.2 rfl); simp [Act.put, Act.eval] at hf; obtain ⟨t0, t1, ⟨rfl, rfl⟩, hf0, hf1⟩ := hf; refine (eqClocks_any _ _ n0 _ _ n1 l0 l0 l1 l1 _ ?_ ?_ rfl ?_ ?_ rfl).mono ?_; (focus (exact R0.out.below hC.2)); (focus (exact hf0)); (focus (exact R1.out.below hC.2)); (focus (exact hf1)); rintro e w2 ⟨rfl, hb2⟩; exact ⟨_, rfl, .inr ⟨rfl, rfl⟩, (by simp [RVF]), hb2⟩)); (intro v hv; simp at hv; subst hv)))
  refine calmV_nil ?_
  intro w6 hC hF
  have c6 := hC.2
  (try clear hk)
  have hk := hC.1
  simp only [Held, and_true] at hk
  have hBw6 : Below w.heap.size w w6 := by (repeat (first | assumption | (with_reducible exact Below.refl _ _) | (with_reducible refine Below.drewN ?_ _) | (with_reducible refine Below.drew ?_) | (with_reducible refine Below.allocS ?_ _) | ((with_reducible refine Below.setCell ?_ ?_ _); rotate_left; focus (first | omega | (simp; done) | (simp; omega))) | (with_reducible refine Below.step ?_ (by assumption))))
  clear hC hF hst R0 R1
  replace Ru00 := Lib.hid (Ru00.out.below c6)
  replace Ru01 := Lib.hid (Ru01.out.below c6)
  replace Rvv00 := Lib.hid (Rvv00.out.below c6)
  replace Rvv01 := Lib.hid (Rvv01.out.below c6)
  replace Ovv00 := Lib.hid (ownsRow_below Ovv00.out c6)
  replace Ovv01 := Lib.hid (ownsRow_below Ovv01.out c6)
  replace P0 := Lib.hid (ownsRow_below P0.out c6)
  replace P1 := Lib.hid (ownsRow_below P1.out c6)
  go_wp2_with fail
  refine (markClocks_any _ n0 _ _ _ n1 _ _ 1 _ P0.out (by omega) P1.out (by omega) ?_ (by omega)).mono ?_
  · intro i hi hj
    have e1 := own_some hi
    have e2 := own_some hj
    omega
  rintro e w7 ⟨rfl, _, _, K7⟩
  have r7 : ∀ i, some i ∈ [(Value.slice (some ⟨g0, 0, none⟩) n0 n0).ownBlock, (Value.slice (some ⟨g1, 0, none⟩) n1 n1).ownBlock] → w2.heap.size + 1 ≤ i ∧ i < w3.heap.size := range_two (fun i hi => by have e1 := own_some hi; omega) (fun i hi => by have e1 := own_some hi; omega)
  have hkN := Held_range K7 r7 (l := [(⟨w.heap.size, 0, none⟩, v0), (⟨w.heap.size, 1, none⟩, v1), (⟨w2.heap.size, 0, none⟩, .slice a_u00 k_u00 d_u00), (⟨w2.heap.size, 1, none⟩, .slice a_u01 k_u01 d_u01), (⟨w3.heap.size, 0, none⟩, .slice (some ⟨g0, 0, none⟩) n0 n0), (⟨w3.heap.size, 1, none⟩, .slice (some ⟨g1, 0, none⟩) n1 n1), (⟨w4.heap.size, 0, none⟩, .slice a_vv00 k_vv00 d_vv00), (⟨w4.heap.size, 1, none⟩, .slice a_vv01 k_vv01 d_vv01)]) (by simp only [List.mem_cons, List.not_mem_nil, or_false, forall_eq_or_imp, forall_eq]; omega) (by simp [Held, go_sem, *])
  (try clear hk)
  have hk := hkN
  clear hkN
  simp only [Held, and_true] at hk
  have C7 : Below w.heap.size w6 w7 := Below_range K7 r7 (by omega) hBw6.size
  have hBw7 : Below w.heap.size w w7 := hBw6.trans C7
  replace Ru00 := Lib.hid (RowAt_range K7 r7 (fun i hi => by have := Lu00.out i hi; omega) Ru00.out)
  replace Ru01 := Lib.hid (RowAt_range K7 r7 (fun i hi => by have := Lu01.out i hi; omega) Ru01.out)
  replace Rvv00 := Lib.hid (RowAt_range K7 r7 (fun i hi => by have := Lvv00.out i hi; omega) Rvv00.out)
  replace Ovv00 := Lib.hid (ownsRow_range K7 r7 (fun i hi => by have := Lvv00.out i hi; omega) Ovv00.out)
  replace Rvv01 := Lib.hid (RowAt_range K7 r7 (fun i hi => by have := Lvv01.out i hi; omega) Rvv01.out)
  replace Ovv01 := Lib.hid (ownsRow_range K7 r7 (fun i hi => by have := Lvv01.out i hi; omega) Ovv01.out)
  go_wp2_with fail
  refine (eqClocks_any _ _ (cN B (n0)) _ _ (cN B (n1)) (cL B (l0)) (cL B (l0)) (cL B (l1.set (i2.toNat * n0 + j3.toNat) z4)) (cL B (l1.set (i2.toNat * n0 + j3.toNat) z4)) _ ?_ ?_ rfl ?_ ?_ rfl).mono ?_
  · refine RowAt.below Rvv00.out ?_
    (repeat (first | assumption | (with_reducible exact Below.refl _ _) | (with_reducible refine Below.drewN ?_ _) | (with_reducible refine Below.drew ?_) | (with_reducible refine Below.allocS ?_ _) | ((with_reducible refine Below.setCell ?_ ?_ _); rotate_left; focus (first | omega | (simp; done) | (simp; omega))) | (with_reducible refine Below.step ?_ (by assumption))))
  · refine RowAt.below Ru00.out ?_
    (repeat (first | assumption | (with_reducible exact Below.refl _ _) | (with_reducible refine Below.drewN ?_ _) | (with_reducible refine Below.drew ?_) | (with_reducible refine Below.allocS ?_ _) | ((with_reducible refine Below.setCell ?_ ?_ _); rotate_left; focus (first | omega | (simp; done) | (simp; omega))) | (with_reducible refine Below.step ?_ (by assumption))))
  · refine RowAt.below Rvv01.out ?_
    (repeat (first | assumption | (with_reducible exact Below.refl _ _) | (with_reducible refine Below.drewN ?_ _) | (with_reducible refine Below.drew ?_) | (with_reducible refine Below.allocS ?_ _) | ((with_reducible refine Below.setCell ?_ ?_ _); rotate_left; focus (first | omega | (simp; done) | (simp; omega))) | (with_reducible refine Below.step ?_ (by assumption))))
  · refine RowAt.below Ru01.out ?_
    (repeat (first | assumption | (with_reducible exact Below.refl _ _) | (with_reducible refine Below.drewN ?_ _) | (with_reducible refine Below.drew ?_) | (with_reducible refine Below.allocS ?_ _) | ((with_reducible refine Below.setCell ?_ ?_ _); rotate_left; focus (first | omega | (simp; done) | (simp; omega))) | (with_reducible refine Below.step ?_ (by assumption))))
  rintro e w8 ⟨rfl, c8x0⟩
  have hkN := Held.below c8x0 (l := [(⟨w.heap.size, 0, none⟩, v0), (⟨w.heap.size, 1, none⟩, v1), (⟨w2.heap.size, 0, none⟩, .slice a_u00 k_u00 d_u00), (⟨w2.heap.size, 1, none⟩, .slice a_u01 k_u01 d_u01), (⟨w3.heap.size, 0, none⟩, .slice (some ⟨g0, 0, none⟩) n0 n0), (⟨w3.heap.size, 1, none⟩, .slice (some ⟨g1, 0, none⟩) n1 n1), (⟨w4.heap.size, 0, none⟩, .slice a_vv00 k_vv00 d_vv00), (⟨w4.heap.size, 1, none⟩, .slice a_vv01 k_vv01 d_vv01)]) (by simp [Held, go_sem, *])
  (try clear hk)
  have hk := hkN
  clear hkN
  simp only [Held, and_true] at hk
  have hBw8 : Below w.heap.size w w8 := by (repeat (first | assumption | (with_reducible exact Below.refl _ _) | (with_reducible refine Below.drewN ?_ _) | (with_reducible refine Below.drew ?_) | (with_reducible refine Below.allocS ?_ _) | ((with_reducible refine Below.setCell ?_ ?_ _); rotate_left; focus (first | omega | (simp; done) | (simp; omega))) | (with_reducible refine Below.step ?_ (by assumption))))
  have hzw8_0 : w.heap.size < w8.heap.size := by omega
  have hzw8_1 : w2.heap.size < w8.heap.size := by omega
  have hzw8_2 : w3.heap.size < w8.heap.size := by omega
  have hzw8_3 : w4.heap.size < w8.heap.size := by omega
  have B8 : Below w7.heap.size w7 w8 := by
    refine Below.step ?_ c8x0
    (repeat (first | (with_reducible exact Below.refl _ _) | (with_reducible refine Below.drewN ?_ _) | (with_reducible refine Below.drew ?_) | (with_reducible refine Below.allocS ?_ _) | ((with_reducible refine Below.setCell ?_ ?_ _); rotate_left; focus (first | omega | (simp; done) | (simp; omega)))))
  replace Ru00 := Lib.hid (Ru00.out.below B8)
  replace Ru01 := Lib.hid (Ru01.out.below B8)
  replace Rvv00 := Lib.hid (Rvv00.out.below B8)
  replace Rvv01 := Lib.hid (Rvv01.out.below B8)
  replace Ovv00 := Lib.hid (ownsRow_below Ovv00.out B8)
  replace Ovv01 := Lib.hid (ownsRow_below Ovv01.out B8)
  go_wp2_with fail
  go_wp2_with fail
  refine (markClocks_any _ _ _ _ _ _ _ _ (1) _ Ovv00.out (by omega) Ovv01.out (by omega) ne_vv00_vv01 (by omega)).mono ?_
  rintro e w9x0 ⟨rfl, ow0, ow1, K9⟩
  have r9 := range_two Lvv00.out Lvv01.out
  have hkN := Held_range K9 r9 (l := [(⟨w.heap.size, 0, none⟩, v0), (⟨w.heap.size, 1, none⟩, v1), (⟨w2.heap.size, 0, none⟩, .slice a_u00 k_u00 d_u00), (⟨w2.heap.size, 1, none⟩, .slice a_u01 k_u01 d_u01), (⟨w3.heap.size, 0, none⟩, .slice (some ⟨g0, 0, none⟩) n0 n0), (⟨w3.heap.size, 1, none⟩, .slice (some ⟨g1, 0, none⟩) n1 n1), (⟨w4.heap.size, 0, none⟩, .slice a_vv00 k_vv00 d_vv00), (⟨w4.heap.size, 1, none⟩, .slice a_vv01 k_vv01 d_vv01)]) (by simp only [List.mem_cons, List.not_mem_nil, or_false, forall_eq_or_imp, forall_eq]; omega) (by simp [Held, go_sem, *])
  (try clear hk)
  have hk := hkN
  clear hkN
  simp only [Held, and_true] at hk
  have C9 : Below w.heap.size w8 w9x0 := Below_range K9 r9 (by omega) (by have := hBw8.size; omega)
  have hBw9x0 : Below w.heap.size w w9x0 := hBw8.trans C9
  replace Ru00 := Lib.hid (RowAt_range K9 r9 (fun i hi => by have := Lu00.out i hi; omega) Ru00.out)
  replace Ru01 := Lib.hid (RowAt_range K9 r9 (fun i hi => by have := Lu01.out i hi; omega) Ru01.out)
  have Mvv00 := Lib.hid (ownsRow_rowAt ow0)
  clear Rvv00 ow0
  have Mvv01 := Lib.hid (ownsRow_rowAt ow1)
  clear Rvv01 ow1
  clear K9 r9 C9
  go_wp2_with fail
  refine (heldClocks_any _ _ (cN B (n0)) (cN B (n1)) (1) _ ?_ ?_ (by omega) (by omega) (by omega)).mono ?_
  · refine RowAt.below Mvv00.out ?_
    (repeat (first | assumption | (with_reducible exact Below.refl _ _) | (with_reducible refine Below.drewN ?_ _) | (with_reducible refine Below.drew ?_) | (with_reducible refine Below.allocS ?_ _) | ((with_reducible refine Below.setCell ?_ ?_ _); rotate_left; focus (first | omega | (simp; done) | (simp; omega))) | (with_reducible refine Below.step ?_ (by assumption))))
  · refine RowAt.below Mvv01.out ?_
    (repeat (first | assumption | (with_reducible exact Below.refl _ _) | (with_reducible refine Below.drewN ?_ _) | (with_reducible refine Below.drew ?_) | (with_reducible refine Below.allocS ?_ _) | ((with_reducible refine Below.setCell ?_ ?_ _); rotate_left; focus (first | omega | (simp; done) | (simp; omega))) | (with_reducible refine Below.step ?_ (by assumption))))
  rintro e w10x0 ⟨rfl, cw10x0⟩
  have hkN := Held.below cw10x0 (l := [(⟨w.heap.size, 0, none⟩, v0), (⟨w.heap.size, 1, none⟩, v1), (⟨w2.heap.size, 0, none⟩, .slice a_u00 k_u00 d_u00), (⟨w2.heap.size, 1, none⟩, .slice a_u01 k_u01 d_u01), (⟨w3.heap.size, 0, none⟩, .slice (some ⟨g0, 0, none⟩) n0 n0), (⟨w3.heap.size, 1, none⟩, .slice (some ⟨g1, 0, none⟩) n1 n1), (⟨w4.heap.size, 0, none⟩, .slice a_vv00 k_vv00 d_vv00), (⟨w4.heap.size, 1, none⟩, .slice a_vv01 k_vv01 d_vv01)]) (by simp [Held, go_sem, *])
  (try clear hk)
  have hk := hkN
  clear hkN
  simp only [Held, and_true] at hk
  have hBw10x0 : Below w.heap.size w w10x0 := by (repeat (first | assumption | (with_reducible exact Below.refl _ _) | (with_reducible refine Below.drewN ?_ _) | (with_reducible refine Below.drew ?_) | (with_reducible refine Below.allocS ?_ _) | ((with_reducible refine Below.setCell ?_ ?_ _); rotate_left; focus (first | omega | (simp; done) | (simp; omega))) | (with_reducible refine Below.step ?_ (by assumption))))
  have hzw10x0_0 : w.heap.size < w10x0.heap.size := by omega
  have hzw10x0_1 : w2.heap.size < w10x0.heap.size := by omega
  have hzw10x0_2 : w3.heap.size < w10x0.heap.size := by omega
  have hzw10x0_3 : w4.heap.size < w10x0.heap.size := by omega
  have B9 : Below w9x0.heap.size w9x0 w10x0 := by
    refine Below.step ?_ cw10x0
    (repeat (first | (with_reducible exact Below.refl _ _) | (with_reducible refine Below.drewN ?_ _) | (with_reducible refine Below.drew ?_) | (with_reducible refine Below.allocS ?_ _) | ((with_reducible refine Below.setCell ?_ ?_ _); rotate_left; focus (first | omega | (simp; done) | (simp; omega)))))
  replace Ru00 := Lib.hid (Ru00.out.below B9)
  replace Ru01 := Lib.hid (Ru01.out.below B9)
  replace Mvv00 := Lib.hid (Mvv00.out.below B9)
  replace Mvv01 := Lib.hid (Mvv01.out.below B9)
  clear B9
  go_wp2_with fail
  refine (toClocks_any v0 n0 v1 n1 l0 l1 _ ?_ ?_ (by omega) (by omega)).mono ?_
  · refine RowAt.below H0.out ?_
    (repeat (first | assumption | (with_reducible exact Below.refl _ _) | (with_reducible refine Below.drewN ?_ _) | (with_reducible refine Below.drew ?_) | (with_reducible refine Below.allocS ?_ _) | ((with_reducible refine Below.setCell ?_ ?_ _); rotate_left; focus (first | omega | (simp; done) | (simp; omega))) | (with_reducible refine Below.step ?_ (by assumption))))
  · refine RowAt.below H1.out ?_
    (repeat (first | assumption | (with_reducible exact Below.refl _ _) | (with_reducible refine Below.drewN ?_ _) | (with_reducible refine Below.drew ?_) | (with_reducible refine Below.allocS ?_ _) | ((with_reducible refine Below.setCell ?_ ?_ _); rotate_left; focus (first | omega | (simp; done) | (simp; omega))) | (with_reducible refine Below.step ?_ (by assumption))))
  rintro e w11 ⟨gz0, gz1, rfl, oz0, oz1, ozne0, c11⟩
  have hkN := Held.below c11 (l := [(⟨w.heap.size, 0, none⟩, v0), (⟨w.heap.size, 1, none⟩, v1), (⟨w2.heap.size, 0, none⟩, .slice a_u00 k_u00 d_u00), (⟨w2.heap.size, 1, none⟩, .slice a_u01 k_u01 d_u01), (⟨w3.heap.size, 0, none⟩, .slice (some ⟨g0, 0, none⟩) n0 n0), (⟨w3.heap.size, 1, none⟩, .slice (some ⟨g1, 0, none⟩) n1 n1), (⟨w4.heap.size, 0, none⟩, .slice a_vv00 k_vv00 d_vv00), (⟨w4.heap.size, 1, none⟩, .slice a_vv01 k_vv01 d_vv01)]) (by simp [Held, go_sem, *])
  (try clear hk)
  have hk := hkN
  clear hkN
  simp only [Held, and_true] at hk
  have hBw11 : Below w.heap.size w w11 := by (repeat (first | assumption | (with_reducible exact Below.refl _ _) | (with_reducible refine Below.drewN ?_ _) | (with_reducible refine Below.drew ?_) | (with_reducible refine Below.allocS ?_ _) | ((with_reducible refine Below.setCell ?_ ?_ _); rotate_left; focus (first | omega | (simp; done) | (simp; omega))) | (with_reducible refine Below.step ?_ (by assumption))))
  have hzw11_0 : w.heap.size < w11.heap.size := by omega
  have hzw11_1 : w2.heap.size < w11.heap.size := by omega
  have hzw11_2 : w3.heap.size < w11.heap.size := by omega
  have hzw11_3 : w4.heap.size < w11.heap.size := by omega
  have B11 : Below w10x0.heap.size w10x0 w11 := by
    refine Below.step ?_ c11
    (repeat (first | (with_reducible exact Below.refl _ _) | (with_reducible refine Below.drewN ?_ _) | (with_reducible refine Below.drew ?_) | (with_reducible refine Below.allocS ?_ _) | ((with_reducible refine Below.setCell ?_ ?_ _); rotate_left; focus (first | omega | (simp; done) | (simp; omega)))))
  replace Ru00 := Lib.hid (Ru00.out.below B11)
  replace Ru01 := Lib.hid (Ru01.out.below B11)
  replace Mvv00 := Lib.hid (Mvv00.out.below B11)
  replace Mvv01 := Lib.hid (Mvv01.out.below B11)
  go_wp2_with fail
  refine (implSetLink_lit HBB.out _ _ _ (ownsRow_rowAt oz0) (ownsRow_rowAt oz1)).mono ?_
  rintro e w12 ⟨h00, h01, rfl, ow_h00, ow_h01, ne_h00_h01, c12⟩
  obtain ⟨a_h00, k_h00, d_h00, rfl⟩ := ownsRow_shape ow_h00
  obtain ⟨a_h01, k_h01, d_h01, rfl⟩ := ownsRow_shape ow_h01
  have hkN := Held.below c12 (l := [(⟨w.heap.size, 0, none⟩, v0), (⟨w.heap.size, 1, none⟩, v1), (⟨w2.heap.size, 0, none⟩, .slice a_u00 k_u00 d_u00), (⟨w2.heap.size, 1, none⟩, .slice a_u01 k_u01 d_u01), (⟨w3.heap.size, 0, none⟩, .slice (some ⟨g0, 0, none⟩) n0 n0), (⟨w3.heap.size, 1, none⟩, .slice (some ⟨g1, 0, none⟩) n1 n1), (⟨w4.heap.size, 0, none⟩, .slice a_vv00 k_vv00 d_vv00), (⟨w4.heap.size, 1, none⟩, .slice a_vv01 k_vv01 d_vv01)]) (by simp [Held, go_sem, *])
  (try clear hk)
  have hk := hkN
  clear hkN
  simp only [Held, and_true] at hk
  have hBw12 : Below w.heap.size w w12 := by (repeat (first | assumption | (with_reducible exact Below.refl _ _) | (with_reducible refine Below.drewN ?_ _) | (with_reducible refine Below.drew ?_) | (with_reducible refine Below.allocS ?_ _) | ((with_reducible refine Below.setCell ?_ ?_ _); rotate_left; focus (first | omega | (simp; done) | (simp; omega))) | (with_reducible refine Below.step ?_ (by assumption))))
  have hzw12_0 : w.heap.size < w12.heap.size := by omega
  have hzw12_1 : w2.heap.size < w12.heap.size := by omega
  have hzw12_2 : w3.heap.size < w12.heap.size := by omega
  have hzw12_3 : w4.heap.size < w12.heap.size := by omega
  have Lh00 := Lib.hid (ownsRow_lt ow_h00)
  (try simp only [World.size_alloc, World.size_setCell, World.heap_drewN] at Lh00)
  have Oh00 := Lib.hid ow_h00
  have Rh00 := Lib.hid (ownsRow_rowAt ow_h00)
  clear ow_h00
  have Lh01 := Lib.hid (ownsRow_lt ow_h01)
  (try simp only [World.size_alloc, World.size_setCell, World.heap_drewN] at Lh01)
  have Oh01 := Lib.hid ow_h01
  have Rh01 := Lib.hid (ownsRow_rowAt ow_h01)
  clear ow_h01
  have : ¬ w.heap.size = w12.heap.size := by omega
  have : ¬ w2.heap.size = w12.heap.size := by omega
  have : ¬ w3.heap.size = w12.heap.size := by omega
  have : ¬ w4.heap.size = w12.heap.size := by omega
  have B12 : Below w11.heap.size w11 w12 := by
    refine Below.step ?_ c12
    (repeat (first | (with_reducible exact Below.refl _ _) | (with_reducible refine Below.drewN ?_ _) | (with_reducible refine Below.drew ?_) | (with_reducible refine Below.allocS ?_ _) | ((with_reducible refine Below.setCell ?_ ?_ _); rotate_left; focus (first | omega | (simp; done) | (simp; omega)))))
  replace Ru00 := Lib.hid (Ru00.out.below B12)
  replace Ru01 := Lib.hid (Ru01.out.below B12)
  replace Mvv00 := Lib.hid (Mvv00.out.below B12)
  replace Mvv01 := Lib.hid (Mvv01.out.below B12)
  go_wp2_with fail
  refine (eqClocks_any _ _ (cN B (n0)) _ _ (cN B (n1)) (cL B (l0)) (cL B (l0)) (cL B (l1.set (i2.toNat * n0 + j3.toNat) z4)) (cL B (l1.set (i2.toNat * n0 + j3.toNat) z4)) _ ?_ ?_ rfl ?_ ?_ rfl).mono ?_
  · refine RowAt.below Rh00.out ?_
    (repeat (first | assumption | (with_reducible exact Below.refl _ _) | (with_reducible refine Below.drewN ?_ _) | (with_reducible refine Below.drew ?_) | (with_reducible refine Below.allocS ?_ _) | ((with_reducible refine Below.setCell ?_ ?_ _); rotate_left; focus (first | omega | (simp; done) | (simp; omega))) | (with_reducible refine Below.step ?_ (by assumption))))
  · refine RowAt.below Ru00.out ?_
    (repeat (first | assumption | (with_reducible exact Below.refl _ _) | (with_reducible refine Below.drewN ?_ _) | (with_reducible refine Below.drew ?_) | (with_reducible refine Below.allocS ?_ _) | ((with_reducible refine Below.setCell ?_ ?_ _); rotate_left; focus (first | omega | (simp; done) | (simp; omega))) | (with_reducible refine Below.step ?_ (by assumption))))
  · refine RowAt.below Rh01.out ?_
    (repeat (first | assumption | (with_reducible exact Below.refl _ _) | (with_reducible refine Below.drewN ?_ _) | (with_reducible refine Below.drew ?_) | (with_reducible refine Below.allocS ?_ _) | ((with_reducible refine Below.setCell ?_ ?_ _); rotate_left; focus (first | omega | (simp; done) | (simp; omega))) | (with_reducible refine Below.step ?_ (by assumption))))
  · refine RowAt.below Ru01.out ?_
    (repeat (first | assumption | (with_reducible exact Below.refl _ _) | (with_reducible refine Below.drewN ?_ _) | (with_reducible refine Below.drew ?_) | (with_reducible refine Below.allocS ?_ _) | ((with_reducible refine Below.setCell ?_ ?_ _); rotate_left; focus (first | omega | (simp; done) | (simp; omega))) | (with_reducible refine Below.step ?_ (by assumption))))
  rintro e w13 ⟨rfl, c13x0⟩
  have hkN := Held.below c13x0 (l := [(⟨w.heap.size, 0, none⟩, v0), (⟨w.heap.size, 1, none⟩, v1), (⟨w2.heap.size, 0, none⟩, .slice a_u00 k_u00 d_u00), (⟨w2.heap.size, 1, none⟩, .slice a_u01 k_u01 d_u01), (⟨w3.heap.size, 0, none⟩, .slice (some ⟨g0, 0, none⟩) n0 n0), (⟨w3.heap.size, 1, none⟩, .slice (some ⟨g1, 0, none⟩) n1 n1), (⟨w4.heap.size, 0, none⟩, .slice a_vv00 k_vv00 d_vv00), (⟨w4.heap.size, 1, none⟩, .slice a_vv01 k_vv01 d_vv01), (⟨w12.heap.size, 0, none⟩, .slice a_h00 k_h00 d_h00), (⟨w12.heap.size, 1, none⟩, .slice a_h01 k_h01 d_h01)]) (by simp [Held, go_sem, *])
  (try clear hk)
  have hk := hkN
  clear hkN
  simp only [Held, and_true] at hk
  have hBw13 : Below w.heap.size w w13 := by (repeat (first | assumption | (with_reducible exact Below.refl _ _) | (with_reducible refine Below.drewN ?_ _) | (with_reducible refine Below.drew ?_) | (with_reducible refine Below.allocS ?_ _) | ((with_reducible refine Below.setCell ?_ ?_ _); rotate_left; focus (first | omega | (simp; done) | (simp; omega))) | (with_reducible refine Below.step ?_ (by assumption))))
  have hzw13_0 : w.heap.size < w13.heap.size := by omega
  have hzw13_1 : w2.heap.size < w13.heap.size := by omega
  have hzw13_2 : w3.heap.size < w13.heap.size := by omega
  have hzw13_3 : w4.heap.size < w13.heap.size := by omega
  have hzw13_4 : w12.heap.size < w13.heap.size := by omega
  have B13 : Below w12.heap.size w12 w13 := by
    refine Below.step ?_ c13x0
    (repeat (first | (with_reducible exact Below.refl _ _) | (with_reducible refine Below.drewN ?_ _) | (with_reducible refine Below.drew ?_) | (with_reducible refine Below.allocS ?_ _) | ((with_reducible refine Below.setCell ?_ ?_ _); rotate_left; focus (first | omega | (simp; done) | (simp; omega)))))
  replace Ru00 := Lib.hid (Ru00.out.below B13)
  replace Ru01 := Lib.hid (Ru01.out.below B13)
  replace Mvv00 := Lib.hid (Mvv00.out.below B13)
  replace Mvv01 := Lib.hid (Mvv01.out.below B13)
  go_wp2_with fail
  go_wp2_with fail
  refine (heldClocks_any _ _ (cN B (n0)) (cN B (n1)) (1) _ ?_ ?_ (by omega) (by omega) (by omega)).mono ?_
  · refine RowAt.below Mvv00.out ?_
    (repeat (first | assumption | (with_reducible exact Below.refl _ _) | (with_reducible refine Below.drewN ?_ _) | (with_reducible refine Below.drew ?_) | (with_reducible refine Below.allocS ?_ _) | ((with_reducible refine Below.setCell ?_ ?_ _); rotate_left; focus (first | omega | (simp; done) | (simp; omega))) | (with_reducible refine Below.step ?_ (by assumption))))
  · refine RowAt.below Mvv01.out ?_
    (repeat (first | assumption | (with_reducible exact Below.refl _ _) | (with_reducible refine Below.drewN ?_ _) | (with_reducible refine Below.drew ?_) | (with_reducible refine Below.allocS ?_ _) | ((with_reducible refine Below.setCell ?_ ?_ _); rotate_left; focus (first | omega | (simp; done) | (simp; omega))) | (with_reducible refine Below.step ?_ (by assumption))))
  rintro e w14x0 ⟨rfl, cw14x0⟩
  have hkN := Held.below cw14x0 (l := [(⟨w.heap.size, 0, none⟩, v0), (⟨w.heap.size, 1, none⟩, v1), (⟨w2.heap.size, 0, none⟩, .slice a_u00 k_u00 d_u00), (⟨w2.heap.size, 1, none⟩, .slice a_u01 k_u01 d_u01), (⟨w3.heap.size, 0, none⟩, .slice (some ⟨g0, 0, none⟩) n0 n0), (⟨w3.heap.size, 1, none⟩, .slice (some ⟨g1, 0, none⟩) n1 n1), (⟨w4.heap.size, 0, none⟩, .slice a_vv00 k_vv00 d_vv00), (⟨w4.heap.size, 1, none⟩, .slice a_vv01 k_vv01 d_vv01), (⟨w12.heap.size, 0, none⟩, .slice a_h00 k_h00 d_h00), (⟨w12.heap.size, 1, none⟩, .slice a_h01 k_h01 d_h01)]) (by simp [Held, go_sem, *])
  (try clear hk)
  have hk := hkN
  clear hkN
  simp only [Held, and_true] at hk
  have hBw14x0 : Below w.heap.size w w14x0 := by (repeat (first | assumption | (with_reducible exact Below.refl _ _) | (with_reducible refine Below.drewN ?_ _) | (with_reducible refine Below.drew ?_) | (with_reducible refine Below.allocS ?_ _) | ((with_reducible refine Below.setCell ?_ ?_ _); rotate_left; focus (first | omega | (simp; done) | (simp; omega))) | (with_reducible refine Below.step ?_ (by assumption))))
  have hzw14x0_0 : w.heap.size < w14x0.heap.size := by omega
  have hzw14x0_1 : w2.heap.size < w14x0.heap.size := by omega
  have hzw14x0_2 : w3.heap.size < w14x0.heap.size := by omega
  have hzw14x0_3 : w4.heap.size < w14x0.heap.size := by omega
  have hzw14x0_4 : w12.heap.size < w14x0.heap.size := by omega
  have B9 : Below w13.heap.size w13 w14x0 := by
    refine Below.step ?_ cw14x0
    (repeat (first | (with_reducible exact Below.refl _ _) | (with_reducible refine Below.drewN ?_ _) | (with_reducible refine Below.drew ?_) | (with_reducible refine Below.allocS ?_ _) | ((with_reducible refine Below.setCell ?_ ?_ _); rotate_left; focus (first | omega | (simp; done) | (simp; omega)))))
  replace Ru00 := Lib.hid (Ru00.out.below B9)
  replace Ru01 := Lib.hid (Ru01.out.below B9)
  replace Mvv00 := Lib.hid (Mvv00.out.below B9)
  replace Mvv01 := Lib.hid (Mvv01.out.below B9)
  clear B9
  go_wp2_with fail
  go_ret
  refine ⟨rfl, ?_⟩
  (repeat (first | assumption | (with_reducible exact Below.refl _ _) | (with_reducible refine Below.drewN ?_ _) | (with_reducible refine Below.drew ?_) | (with_reducible refine Below.allocS ?_ _) | ((with_reducible refine Below.setCell ?_ ?_ _); rotate_left; focus (first | omega | (simp; done) | (simp; omega))) | (with_reducible refine Below.step ?_ (by assumption))))

end Go.Proofs.Ytifdcoambehekaa
