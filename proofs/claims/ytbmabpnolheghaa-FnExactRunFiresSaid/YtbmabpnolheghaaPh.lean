/-
  The walk of the program's FireNext: the outer function.
-/
import Derived.Test.YtbmabpnolheghaaPg
set_option linter.unusedVariables false
set_option linter.unusedSimpArgs false
namespace Go.Proofs.Ytbmabpnolheghaa
open Go.RowKit

set_option maxRecDepth 100000 in
set_option maxHeartbeats 8000000 in
theorem implFireNext_any (v v' : Value) (n m : Nat) (l lk : List Nat) (J : Nat) (w : World) (h : RowAt w v 2 n (fl l)) (h' : RowAt w v' 1 m (fl lk)) : Calls Try.prog 56 #[.agg #[v, v'], .float .f32 J] w (GiveF (cN (fireB n l m lk J) n) (cL (fireB n l m lk J) (fireL l n J)) (cN (fireB n l m lk J) m) (cL (fireB n l m lk J) lk) (cN (fireB n l m lk J) (fireO l n J).length) (cZ (fireB n l m lk J) (fireO l n J)) (cT (fireB n l m lk J) (timeQ l n)) (fireB n l m lk J) w) := by
  have H := Lib.hid h
  have H' := Lib.hid h'
  clear h h'
  go_enter Try.func56, Try.ntmps56
  go_wp2_with fail
  obtain ⟨w0, hw0⟩ : ∃ w0, w0 = (((((w.alloc (.cells #[v, v'] 49)).alloc (.cells #[.float .f32 J] 23)).alloc (.cells #[.slice none 0 0, .slice none 0 0] 49)).alloc (.cells #[] 2)).alloc (.cells #[.slice (some ⟨w.heap.size + 1 + 1 + 1, 0, none⟩) 0 0] 80)).alloc (.cells #[.float .f32 0] 23) := ⟨_, rfl⟩
  rw [← hw0]
  have hB0 : Below w.heap.size w w0 := by rw [hw0]; (repeat (first | assumption | (with_reducible exact Below.refl _ _) | (with_reducible refine Below.drewN ?_ _) | (with_reducible refine Below.drew ?_) | (with_reducible refine Below.allocS ?_ _) | ((with_reducible refine Below.setCell ?_ ?_ _); rotate_left; focus (first | omega | (simp; done) | (simp; omega))) | (with_reducible refine Below.step ?_ (by assumption))))
  have hz0 : w0.heap.size = w.heap.size + 6 := by rw [hw0]; simp
  have hq0 : Held [(⟨w.heap.size + 1, 0, none⟩, .float .f32 J), (⟨w.heap.size + 1 + 1 + 1 + 1, 0, none⟩, .slice (some ⟨w.heap.size + 1 + 1 + 1, 0, none⟩) 0 0), (⟨w.heap.size + 1 + 1 + 1 + 1 + 1, 0, none⟩, .float .f32 0)] w0 := by rw [hw0]; simp [Held, go_sem]
  have hr0 : Held [(⟨w.heap.size + 1 + 1, 0, none⟩, .slice none 0 0), (⟨w.heap.size + 1 + 1, 1, none⟩, .slice none 0 0)] w0 := by rw [hw0]; simp [Held, go_sem]
  clear hw0
  refine (changedFire_any v v' n m l lk J _ _ _ _ _ w0 (RowAt.below H.out hB0) (RowAt.below H'.out hB0) hq0 (by omega)).mono ?_
  rintro e w4 ⟨u0, u1, rfl, ou0, ou1, hlist, kk⟩
  have hr4 := held_many kk hr0 (fun q9 hq9 hm => by
    simp only [List.mem_cons, List.not_mem_nil, or_false] at hm hq9
    rcases hq9 with rfl | rfl <;> (dsimp only at hm; rcases hm with h9 | h9 <;> (have h8 := Option.some.inj h9; omega)))
  have HR4 := Lib.hid hr4
  have hz4 := kk.size
  have hB4 : Below w.heap.size w w4 := hB0.trans (kk.toBelow (by omega) (fun r hr => by
    simp only [List.mem_cons, List.not_mem_nil, or_false] at hr
    rcases hr with h9 | h9 <;> (have h8 := Option.some.inj h9; omega)))
  have hz4' := hB4.size
  obtain ⟨a0, k0, d0, rfl⟩ := ownsRow_shape ou0
  obtain ⟨a1, k1, d1, rfl⟩ := ownsRow_shape ou1
  have OU0 := Lib.hid (ownsRow_base (base' := w.heap.size + 6) (by omega) ou0)
  have OU1 := Lib.hid (ownsRow_base (base' := w.heap.size + 6) (by omega) ou1)
  simp only [Held, and_true] at hr4
  clear ou0 ou1 kk hq0 hr0
  cases hb : fireB n l m lk J
  · rw [hb] at hlist
    clear hlist
    go_wp2_with fail
    refine bodyPost_ret (v := ?_) (by first | (simp [results, Try.results56, go_sem, *]; rfl) | (simp [results, Try.results56, go_sem, *]; done)) rfl ?_
    rw [hb]
    refine ⟨_, _, _, _, rfl, ownsRow_nil', ownsRow_nil', ownsRow_nil', (fun i hi => by cases hi), (fun i hi => by cases hi), (fun i hi => by cases hi), cn_null, ?_⟩
    (repeat (first | assumption | (with_reducible exact Below.refl _ _) | (with_reducible refine Below.drewN ?_ _) | (with_reducible refine Below.drew ?_) | (with_reducible refine Below.allocS ?_ _) | ((with_reducible refine Below.setCell ?_ ?_ _); rotate_left; focus (first | omega | (simp; done) | (simp; omega))) | (with_reducible refine Below.step ?_ (by assumption))))
  · obtain ⟨gl, cl, ht, ol⟩ := hlist hb
    have HT := Lib.hid ht
    have OL := Lib.hid (ownsRow_base (base' := w.heap.size + 6) (by omega) ol)
    rw [hb] at OU0 OU1
    simp only [Held, and_true] at ht
    clear ol hlist
    go_wp2_with fail
    obtain ⟨w5, hw5⟩ : ∃ w5, w5 = w4.alloc (.cells #[.slice a0 k0 d0, .slice a1 k1 d1] 49) := ⟨_, rfl⟩
    rw [← hw5]
    have hB5 : Below w4.heap.size w4 w5 := by rw [hw5]; (repeat (first | assumption | (with_reducible exact Below.refl _ _) | (with_reducible refine Below.drewN ?_ _) | (with_reducible refine Below.drew ?_) | (with_reducible refine Below.allocS ?_ _) | ((with_reducible refine Below.setCell ?_ ?_ _); rotate_left; focus (first | omega | (simp; done) | (simp; omega))) | (with_reducible refine Below.step ?_ (by assumption))))
    have hz5 : w5.heap.size = w4.heap.size + 1 := by rw [hw5]; simp
    have hc5 : Held [(⟨w4.heap.size, 0, none⟩, .slice a0 k0 d0), (⟨w4.heap.size, 1, none⟩, .slice a1 k1 d1)] w5 := by rw [hw5]; simp [Held, go_sem]
    have ht5 := Held.below hB5 HT.out
    have hr5 := Held.below hB5 HR4.out
    have hB5' : Below w.heap.size w w5 := hB4.trans (hB5.mono hz4')
    have P0 := Lib.hid (ownsRow_below OU0.out hB5)
    have P1 := Lib.hid (ownsRow_below OU1.out hB5)
    have P2 := Lib.hid (ownsRow_below OL.out hB5)
    clear hw5
    have hDD : ∀ w8 w9, (fun w9 => Held [(⟨w4.heap.size, 0, none⟩, .slice a0 k0 d0), (⟨w4.heap.size, 1, none⟩, .slice a1 k1 d1), (⟨w.heap.size + 1 + 1 + 1 + 1, 0, none⟩, (.slice (some ⟨gl, 0, none⟩) (firedF l n J).2.length cl)), (⟨w.heap.size + 1 + 1 + 1 + 1 + 1, 0, none⟩, .float .f32 (timeQ l n))] w9 ∧ (∃ x y, Held [(⟨w.heap.size + 1 + 1, 0, none⟩, x), (⟨w.heap.size + 1 + 1, 1, none⟩, y)] w9) ∧ Kept w5 w9 [some (w.heap.size + 1 + 1)]) w8 → Below w8.heap.size w8 w9 → (fun w9 => Held [(⟨w4.heap.size, 0, none⟩, .slice a0 k0 d0), (⟨w4.heap.size, 1, none⟩, .slice a1 k1 d1), (⟨w.heap.size + 1 + 1 + 1 + 1, 0, none⟩, (.slice (some ⟨gl, 0, none⟩) (firedF l n J).2.length cl)), (⟨w.heap.size + 1 + 1 + 1 + 1 + 1, 0, none⟩, .float .f32 (timeQ l n))] w9 ∧ (∃ x y, Held [(⟨w.heap.size + 1 + 1, 0, none⟩, x), (⟨w.heap.size + 1 + 1, 1, none⟩, y)] w9) ∧ Kept w5 w9 [some (w.heap.size + 1 + 1)]) w9 := fun w8 w9 h8 hb8 => ⟨Held.below hb8 h8.1, ⟨h8.2.1.choose, h8.2.1.choose_spec.choose, Held.below hb8 h8.2.1.choose_spec.choose_spec⟩, h8.2.2.below1 hb8⟩
    have hst : stableV [(3, 22, (fun _ w9 => Held [(⟨w.heap.size + 1 + 1, 0, none⟩, .slice a0 k0 d0), (⟨w.heap.size + 1 + 1, 1, none⟩, .slice a1 k1 d1)] w9))] := by
      intro q hq
      obtain rfl := List.mem_singleton.1 hq
      intro v w8 w9 hb8 hh
      exact Held.below hb8 hh
    have hall : Held [(⟨w4.heap.size, 0, none⟩, .slice a0 k0 d0), (⟨w4.heap.size, 1, none⟩, .slice a1 k1 d1), (⟨w.heap.size + 1 + 1 + 1 + 1, 0, none⟩, (.slice (some ⟨gl, 0, none⟩) (firedF l n J).2.length cl)), (⟨w.heap.size + 1 + 1 + 1 + 1 + 1, 0, none⟩, .float .f32 (timeQ l n))] w5 := ⟨hc5.1, hc5.2.1, ht5.1, ht5.2.1, trivial⟩
    refine region_calmD (fun w9 => Held [(⟨w4.heap.size, 0, none⟩, .slice a0 k0 d0), (⟨w4.heap.size, 1, none⟩, .slice a1 k1 d1), (⟨w.heap.size + 1 + 1 + 1 + 1, 0, none⟩, (.slice (some ⟨gl, 0, none⟩) (firedF l n J).2.length cl)), (⟨w.heap.size + 1 + 1 + 1 + 1 + 1, 0, none⟩, .float .f32 (timeQ l n))] w9 ∧ (∃ x y, Held [(⟨w.heap.size + 1 + 1, 0, none⟩, x), (⟨w.heap.size + 1 + 1, 1, none⟩, y)] w9) ∧ Kept w5 w9 [some (w.heap.size + 1 + 1)]) (fun _ _ _ => False) [(3, 22, (fun _ w9 => Held [(⟨w.heap.size + 1 + 1, 0, none⟩, .slice a0 k0 d0), (⟨w.heap.size + 1 + 1, 1, none⟩, .slice a1 k1 d1)] w9))] (by kernel_rfl) (by kernel_rfl) (by kernel_rfl) ⟨hall, ⟨.slice none 0 0, .slice none 0 0, hr5⟩, ((Kept.refl1 _ _).below1 (Below.refl _ _).drew)⟩ ?_
    repeat (first | (refine calmD_plain hst hDD rfl rfl ?_ (fun K hK w1 hC => ?_); (focus (intro _ _; simp [RVF]; done)); have hC' := hC.1; simp only [Held, and_true] at hC'; go_wp2_with fail; refine ⟨rfl, (by first | exact Below.refl _ _ | exact below_drewN _), hK _ ?_⟩; clear hC hC' hK K w1) | (refine calmD_check rfl rfl rfl ?_ ?_; (focus (intro _ _; simp [RVF]; done))))
    refine calmD_store rfl (fun w1 hC hDp => ?_) ?_
    · obtain ⟨hc1, ⟨x9, y9, hc2⟩, hc3⟩ := hC
      have HC1 := Lib.hid hc1
      simp only [Held, and_true] at hc1 hc2
      obtain ⟨w8, hw8⟩ : ∃ w8, w8 = (w1.setCell ⟨w.heap.size + 1 + 1, 0, none⟩ (.slice a0 k0 d0)).setCell ⟨w.heap.size + 1 + 1, 1, none⟩ (.slice a1 k1 d1) := ⟨_, rfl⟩
      have K8 : Kept w1 w8 [some (w.heap.size + 1 + 1)] := by rw [hw8]; exact (kept_one _ _ _ _).trans1 (kept_one _ _ _ _)
      have T8 : Held [(⟨w.heap.size + 1 + 1, 0, none⟩, .slice a0 k0 d0), (⟨w.heap.size + 1 + 1, 1, none⟩, .slice a1 k1 d1)] w8 := by rw [hw8]; simp [Held, go_sem, *]
      refine ⟨w8, by rw [hw8]; simp [execOp, go_sem, *], ⟨held_many K8 HC1.out (fun q9 hq9 hm => by
        have h9 := List.mem_singleton.1 hm
        simp only [List.mem_cons, List.not_mem_nil, or_false] at hq9
        rcases hq9 with rfl | rfl | rfl | rfl <;> (dsimp only at h9; have h8 := Option.some.inj h9; omega)), ⟨_, _, T8⟩, hc3.trans1 K8⟩, ⟨fun _ => T8, trivial⟩, ?_⟩
      intro j a' hj hR
      exact ⟨fun e9 => absurd e9.symm hj, trivial⟩
    repeat (first | (refine calmD_plain hst hDD rfl rfl ?_ (fun K hK w1 hC => ?_); (focus (intro _ _; simp [RVF]; done)); have hC' := hC.1; simp only [Held, and_true] at hC'; go_wp2_with fail; refine ⟨rfl, (by first | exact Below.refl _ _ | exact below_drewN _), hK _ ?_⟩; clear hC hC' hK K w1) | (refine calmD_check rfl rfl rfl ?_ ?_; (focus (intro _ _; simp [RVF]; done))))
    refine calmD_nil ?_
    intro w7 hC hF
    have T9 := RVF_get (hF 3 (by decide)) (List.mem_singleton.2 rfl)
    have hK7 := hC.2.2
    have hne7 : ∀ (r : Nat), w.heap.size + 6 ≤ r → some r ∉ [some (w.heap.size + 1 + 1)] := fun r hr hm => by have h9 := Option.some.inj (List.mem_singleton.1 hm); omega
    have Z0 : Hid (w7.ownsRow (w.heap.size + 6) 113 2 (.slice a0 k0 d0) _ _) := ownsRow_kept P0.out hK7 (fun r hr => hne7 r (ownsRow_lt P0.out r hr).1)
    have Z1 : Hid (w7.ownsRow (w.heap.size + 6) 23 1 (.slice a1 k1 d1) _ _) := ownsRow_kept P1.out hK7 (fun r hr => hne7 r (ownsRow_lt P1.out r hr).1)
    have Z2 : Hid (w7.ownsRow (w.heap.size + 6) 2 1 (.slice (some ⟨gl, 0, none⟩) (firedF l n J).2.length cl) (firedF l n J).2.length (il (fireO l n J))) := ownsRow_kept P2.out hK7 (fun r hr => hne7 r (ownsRow_lt P2.out r hr).1)
    have hB7 : Below w.heap.size w w7 := hB5'.trans (hK7.toBelow hB5'.size (fun r hr => by have h9 := Option.some.inj (List.mem_singleton.1 hr); omega))
    have n01 := ownsRow_ne Z0.out Z1.out tc_ne
    have n02 := ownsRow_ne Z0.out Z2.out ci_ne
    have n12 := ownsRow_ne Z1.out Z2.out fi_ne
    have hT9 : Held [(⟨w.heap.size + 1 + 1, 0, none⟩, .slice a0 k0 d0), (⟨w.heap.size + 1 + 1, 1, none⟩, .slice a1 k1 d1)] w7 := T9
    simp only [Held, and_true] at hT9
    have hlen : (firedF l n J).2.length = (fireO l n J).length := by have h9 := Z2.out.1; rw [il_length] at h9; omega
    have hparts : clocksB n l m lk = true := by
      unfold fireB at hb
      simp only [Bool.and_eq_true] at hb
      exact hb.1.1
    have htime : cn .f32 (timeQ l n) = timeQ l n := cn_of_not (some_not_nan (time_some (fun k hk => okClock_fin hparts hk)))
    have HTI := Lib.hid htime
    have HLEN := Lib.hid hlen
    clear hC hF hst hDD T9 hK7 htime hlen hc5 ht5 hr5 hall
    go_wp2_with fail
    refine bodyPost_ret (v := ?_) (by first | (simp [results, Try.results56, go_sem, *]; rfl) | (simp [results, Try.results56, go_sem, *]; done)) rfl ?_
    rw [hb]
    refine ⟨_, _, _, _, rfl, ?_, ?_, ?_, n01, n02, n12, HTI.out, hB7⟩
    · exact ownsRow_base (base := w.heap.size + 6) (by omega) Z0.out
    · exact ownsRow_base (base := w.heap.size + 6) (by omega) Z1.out
    · have h9 := Z2.out
      have h8 := ownsRow_base (base' := w.heap.size) (by omega) h9
      show World.ownsRow _ _ _ _ _ (fireO l n J).length _
      rw [← HLEN.out]
      exact h8

end Go.Proofs.Ytbmabpnolheghaa
