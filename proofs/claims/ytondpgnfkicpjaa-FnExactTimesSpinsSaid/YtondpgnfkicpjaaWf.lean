/-
  The walk of the program's product of two spins, which goes by signs; and of the law that holds it against the reference's.
-/
import Derived.Test.YtondpgnfkicpjaaWe
import Derived.Deep.RegionHeld3
import Derived.Deep.DeepCutAuto
import Derived.Test.YtondpgnfkicpjaaCm
set_option linter.unusedVariables false
set_option linter.unusedSimpArgs false
namespace Go.Proofs.Ytondpgnfkicpjaa
open Go.RowKit

theorem add_fneg (k : FloatKind) (x y : Nat) (hx : cn k x = x) (hy : y < width2 k) : fbin .add k x (fneg k y) = fbin .sub k x y := by
  rw [← add_neg k x y hy]
  unfold fneg
  conv => lhs; rw [← hx, fbin_cn]
theorem sgn_m (x a b : Nat) (hx : cn .f32 x = x) : fbin .add .f32 x (fbin .mul .f32 (cn .f32 3212836864) (mulC a b)) = fbin .sub .f32 x (mulC a b) := by
  have e : cn .f32 3212836864 = 3212836864 := by decide +kernel
  unfold mulC
  rw [e, negone_mul32 _ (fbin_lt ..)]
  exact add_fneg .f32 x _ hx (fbin_lt ..)
theorem sgn_p (x a b : Nat) : fbin .add .f32 x (fbin .mul .f32 (cn .f32 1065353216) (mulC a b)) = fbin .add .f32 x (mulC a b) := by
  have e : cn .f32 1065353216 = 1065353216 := by decide +kernel
  unfold mulC
  rw [e, one_mul32 _ (fbin_lt ..)]
  rw [cn_fbin]

def signedX (a0 a1 a2 a3 b0 b1 b2 b3 s0 s1 s2 : Nat) : Nat := fbin .add .f32 (fbin .add .f32 (fbin .add .f32 (mulC a0 b0) (fbin .mul .f32 (cn .f32 s0) (mulC a1 b1))) (fbin .mul .f32 (cn .f32 s1) (mulC a2 b2))) (fbin .mul .f32 (cn .f32 s2) (mulC a3 b3))

section
variable {P : Program} {ops : Array Oper} {Q : Exit → Act → World → Prop} {K : Act → World → Prop} {a : Act} {w : World} {o : Oper}
/-- '+', '-', '*', '/' on floats, at one operation. -/
theorem oper_fbin {op : BinOp} {t t' : TypeId} {x y : Operand} {k : FloatKind} {bx by' : Nat} (hop : o.op = Op.binOp op t x y t') (hx : a.eval x = .float k bx) (hy : a.eval y = .float k by')
    (ho : arithOp op = true) (hK : ∀ r n, Hid (cn k r = fbin op k (cn k bx) (cn k by')) → K (a.put o.dst (.float k r)) (w.drewN n)) : o.wp P a w K Q := by
  obtain ⟨r, n, hrun, hr⟩ := run_float_any (P := P) w op (by cases op <;> simp_all [arithOp]) t k bx by'
  unfold Oper.wp
  have hgd : eqGuard op t x y (.float k bx) (.float k by') = pure () := by cases op <;> simp_all [arithOp, eqGuard] <;> rfl
  simp [execOp, hop, hx, hy, hgd, hrun, Result.andThen]
  exact hK r n hr
theorem upon_fbin {op : BinOp} {t : TypeId} {k : FloatKind} {bx by' : Nat} (ho : arithOp op = true)
    (hK : ∀ r n, Hid (cn k r = fbin op k (cn k bx) (cn k by')) → K (a.put o.dst (.float k r)) (w.drewN n)) :
    o.upon P a K Q (((binOp op t (.float k bx) (.float k by')).run P w).andThen fun a w' => .ok (.value a) w') := by
  obtain ⟨r, n, hrun, hr⟩ := run_float_any (P := P) w op (by cases op <;> simp_all [arithOp]) t k bx by'
  rw [hrun]
  exact hK r n hr
end

set_option maxRecDepth 100000 in
set_option maxHeartbeats 4000000 in
theorem signed_any (a0 a1 a2 a3 b0 b1 b2 b3 s0 s1 s2 : Nat) (w : World) : Calls Try.prog 69 #[.agg #[.float .f32 a0, .float .f32 a1, .float .f32 a2, .float .f32 a3], .agg #[.float .f32 b0, .float .f32 b1, .float .f32 b2, .float .f32 b3], .agg #[.float .f32 s0, .float .f32 s1, .float .f32 s2]] w (BF .f32 (signedX a0 a1 a2 a3 b0 b1 b2 b3 s0 s1 s2) w) := by
  have i0 : ∀ w, (Instr.index 91 (.agg #[.float .f32 s0, .float .f32 s1, .float .f32 s2]) (.int .i64 0)).run Try.prog w = .ok (.float .f32 s0) w := fun _ => by kernel_rfl
  have i1 : ∀ w, (Instr.index 91 (.agg #[.float .f32 s0, .float .f32 s1, .float .f32 s2]) (.int .i64 1)).run Try.prog w = .ok (.float .f32 s1) w := fun _ => by kernel_rfl
  have i2 : ∀ w, (Instr.index 91 (.agg #[.float .f32 s0, .float .f32 s1, .float .f32 s2]) (.int .i64 2)).run Try.prog w = .ok (.float .f32 s2) w := fun _ => by kernel_rfl
  have w1 : IntKind.i64.wrap 1 = 1 := by kernel_rfl
  have w2 : IntKind.i64.wrap 2 = 2 := by kernel_rfl
  have w3 : IntKind.i64.wrap 3 = 3 := by kernel_rfl
  go_enter Try.func69, Try.ntmps69
  go_wp2_with (first | (refine wpList_fbin rfl rfl rfl rfl rfl (fun r n hr => ?_)))
  refine wp_loop_rounds 4 ?_
  rw [rounds_succ]
  go_wp2_with (first | (refine wpList_fbin rfl rfl rfl rfl rfl (fun r n hr => ?_)))
  refine wp_region_calm (InC [(⟨w.heap.size, 0, none⟩, .float .f32 a0), (⟨w.heap.size, 1, none⟩, .float .f32 a1), (⟨w.heap.size, 2, none⟩, .float .f32 a2), (⟨w.heap.size, 3, none⟩, .float .f32 a3), (⟨(w.heap.size + 1), 0, none⟩, .float .f32 b0), (⟨(w.heap.size + 1), 1, none⟩, .float .f32 b1), (⟨(w.heap.size + 1), 2, none⟩, .float .f32 b2), (⟨(w.heap.size + 1), 3, none⟩, .float .f32 b3)] w) (fun _ _ _ => False) (by kernel_rfl) (by kernel_rfl) (by (first | exact (InC.below (by assumption) (by (repeat (first | (with_reducible exact Below.refl _ _) | (with_reducible refine Below.drewN ?_ _) | (with_reducible refine Below.drew ?_) | (with_reducible refine Below.allocS ?_ _) | ((with_reducible refine Below.setCell ?_ ?_ _); rotate_left; focus (first | omega | (simp; done) | (simp; omega))) | (with_reducible refine Below.step ?_ (by assumption)))))) | exact ⟨by simp [Held, go_sem, *], by (repeat (first | (with_reducible exact Below.refl _ _) | (with_reducible refine Below.drewN ?_ _) | (with_reducible refine Below.drew ?_) | (with_reducible refine Below.allocS ?_ _) | ((with_reducible refine Below.setCell ?_ ?_ _); rotate_left; focus (first | omega | (simp; done) | (simp; omega))) | (with_reducible refine Below.step ?_ (by assumption))))⟩)) ?_
  generalize (fun _ : World => True) = Z0
  revert Z0
  repeat (refine calm_plain rfl rfl (fun K hK w1 hC => ?_); have hC' := hC.1; simp only [Held, and_true] at hC'; go_wp2_with (first | (refine wpList_fbin rfl rfl rfl rfl rfl (fun r n hr => ?_)) | (refine wpList_widen rfl rfl Try.underlying63 Try.underlying22 rfl (fun r n hr => ?_))); refine ⟨rfl, (by first | assumption | exact InC.draws (by assumption) _), hK _ ?_⟩; clear hC hC' hK K w1)
  refine fun _ => calm_nil ?_
  intro w' hC
  go_wp2_with (first | (refine wpList_fbin rfl rfl rfl rfl rfl (fun r n hr => ?_)))
  rw [rounds_succ]
  go_wp2_with (first | (refine wpList_fbin rfl rfl rfl rfl rfl (fun r n hr => ?_)))
  refine wp_region_calm (InC [(⟨w.heap.size, 0, none⟩, .float .f32 a0), (⟨w.heap.size, 1, none⟩, .float .f32 a1), (⟨w.heap.size, 2, none⟩, .float .f32 a2), (⟨w.heap.size, 3, none⟩, .float .f32 a3), (⟨(w.heap.size + 1), 0, none⟩, .float .f32 b0), (⟨(w.heap.size + 1), 1, none⟩, .float .f32 b1), (⟨(w.heap.size + 1), 2, none⟩, .float .f32 b2), (⟨(w.heap.size + 1), 3, none⟩, .float .f32 b3)] w) (fun _ _ _ => False) (by kernel_rfl) (by kernel_rfl) (by (first | exact (InC.below (by assumption) (by (repeat (first | (with_reducible exact Below.refl _ _) | (with_reducible refine Below.drewN ?_ _) | (with_reducible refine Below.drew ?_) | (with_reducible refine Below.allocS ?_ _) | ((with_reducible refine Below.setCell ?_ ?_ _); rotate_left; focus (first | omega | (simp; done) | (simp; omega))) | (with_reducible refine Below.step ?_ (by assumption)))))) | exact ⟨by simp [Held, go_sem, *], by (repeat (first | (with_reducible exact Below.refl _ _) | (with_reducible refine Below.drewN ?_ _) | (with_reducible refine Below.drew ?_) | (with_reducible refine Below.allocS ?_ _) | ((with_reducible refine Below.setCell ?_ ?_ _); rotate_left; focus (first | omega | (simp; done) | (simp; omega))) | (with_reducible refine Below.step ?_ (by assumption))))⟩)) ?_
  generalize (fun _ : World => True) = Z0
  revert Z0
  repeat (refine calm_plain rfl rfl (fun K hK w1 hC => ?_); have hC' := hC.1; simp only [Held, and_true] at hC'; go_wp2_with (first | (refine wpList_fbin rfl rfl rfl rfl rfl (fun r n hr => ?_)) | (refine wpList_widen rfl rfl Try.underlying63 Try.underlying22 rfl (fun r n hr => ?_))); refine ⟨rfl, (by first | assumption | exact InC.draws (by assumption) _), hK _ ?_⟩; clear hC hC' hK K w1)
  refine fun _ => calm_nil ?_
  intro w' hC
  go_wp2_with (first | (refine wpList_fbin rfl rfl rfl rfl rfl (fun r n hr => ?_)))
  rw [rounds_succ]
  go_wp2_with (first | (refine wpList_fbin rfl rfl rfl rfl rfl (fun r n hr => ?_)))
  refine wp_region_calm (InC [(⟨w.heap.size, 0, none⟩, .float .f32 a0), (⟨w.heap.size, 1, none⟩, .float .f32 a1), (⟨w.heap.size, 2, none⟩, .float .f32 a2), (⟨w.heap.size, 3, none⟩, .float .f32 a3), (⟨(w.heap.size + 1), 0, none⟩, .float .f32 b0), (⟨(w.heap.size + 1), 1, none⟩, .float .f32 b1), (⟨(w.heap.size + 1), 2, none⟩, .float .f32 b2), (⟨(w.heap.size + 1), 3, none⟩, .float .f32 b3)] w) (fun _ _ _ => False) (by kernel_rfl) (by kernel_rfl) (by (first | exact (InC.below (by assumption) (by (repeat (first | (with_reducible exact Below.refl _ _) | (with_reducible refine Below.drewN ?_ _) | (with_reducible refine Below.drew ?_) | (with_reducible refine Below.allocS ?_ _) | ((with_reducible refine Below.setCell ?_ ?_ _); rotate_left; focus (first | omega | (simp; done) | (simp; omega))) | (with_reducible refine Below.step ?_ (by assumption)))))) | exact ⟨by simp [Held, go_sem, *], by (repeat (first | (with_reducible exact Below.refl _ _) | (with_reducible refine Below.drewN ?_ _) | (with_reducible refine Below.drew ?_) | (with_reducible refine Below.allocS ?_ _) | ((with_reducible refine Below.setCell ?_ ?_ _); rotate_left; focus (first | omega | (simp; done) | (simp; omega))) | (with_reducible refine Below.step ?_ (by assumption))))⟩)) ?_
  generalize (fun _ : World => True) = Z0
  revert Z0
  repeat (refine calm_plain rfl rfl (fun K hK w1 hC => ?_); have hC' := hC.1; simp only [Held, and_true] at hC'; go_wp2_with (first | (refine wpList_fbin rfl rfl rfl rfl rfl (fun r n hr => ?_)) | (refine wpList_widen rfl rfl Try.underlying63 Try.underlying22 rfl (fun r n hr => ?_))); refine ⟨rfl, (by first | assumption | exact InC.draws (by assumption) _), hK _ ?_⟩; clear hC hC' hK K w1)
  refine fun _ => calm_nil ?_
  intro w' hC
  go_wp2_with (first | (refine wpList_fbin rfl rfl rfl rfl rfl (fun r n hr => ?_)))
  rw [rounds_succ]
  go_wp2_with (first | (refine wpList_fbin rfl rfl rfl rfl rfl (fun r n hr => ?_)))
  refine bodyPost_ret (v := ?v) ?h rfl ?p
  case h => simp [results, Try.results69, go_sem]; rfl
  case p =>
    refine ⟨_, rfl, ?_, ?_⟩
    · unfold signedX mulC
      simp only [Hid] at *
      simp only [*]
    · (have hB := hC.2; (repeat (first | assumption | (with_reducible exact Below.refl _ _) | (with_reducible refine Below.drewN ?_ _) | (with_reducible refine Below.drew ?_) | (with_reducible refine Below.allocS ?_ _) | ((with_reducible refine Below.setCell ?_ ?_ _); rotate_left; focus (first | omega | (simp; done) | (simp; omega))) | (with_reducible refine Below.step ?_ (by assumption)))))

theorem sgn_w (a0 a1 a2 a3 b0 b1 b2 b3 : Nat) : signedX a0 a1 a2 a3 b0 b1 b2 b3 3212836864 3212836864 3212836864 = timesW a0 a1 a2 a3 b0 b1 b2 b3 := by
  unfold signedX timesW
  rw [sgn_m _ _ _ (by first | rw [cn_fbin] | (unfold mulC; rw [cn_fbin])), sgn_m _ _ _ (by first | rw [cn_fbin] | (unfold mulC; rw [cn_fbin])), sgn_m _ _ _ (by first | rw [cn_fbin] | (unfold mulC; rw [cn_fbin]))]
theorem sgn_x (a0 a1 a2 a3 b0 b1 b2 b3 : Nat) : signedX a0 a1 a2 a3 b1 b0 b3 b2 1065353216 1065353216 3212836864 = timesX a0 a1 a2 a3 b0 b1 b2 b3 := by
  unfold signedX timesX
  rw [sgn_p, sgn_p, sgn_m _ _ _ (by first | rw [cn_fbin] | (unfold mulC; rw [cn_fbin]))]
theorem sgn_y (a0 a1 a2 a3 b0 b1 b2 b3 : Nat) : signedX a0 a1 a2 a3 b2 b3 b0 b1 3212836864 1065353216 1065353216 = timesY a0 a1 a2 a3 b0 b1 b2 b3 := by
  unfold signedX timesY
  rw [sgn_m _ _ _ (by first | rw [cn_fbin] | (unfold mulC; rw [cn_fbin])), sgn_p, sgn_p]
theorem sgn_z (a0 a1 a2 a3 b0 b1 b2 b3 : Nat) : signedX a0 a1 a2 a3 b3 b2 b1 b0 1065353216 3212836864 1065353216 = timesZ a0 a1 a2 a3 b0 b1 b2 b3 := by
  unfold signedX timesZ
  rw [sgn_p, sgn_m _ _ _ (by first | rw [cn_fbin] | (unfold mulC; rw [cn_fbin])), sgn_p]

set_option maxRecDepth 100000 in
set_option maxHeartbeats 4000000 in
theorem implTimesSpins_any (a0 a1 a2 a3 b0 b1 b2 b3 : Nat) (w : World) : Calls Try.prog 43 #[.agg #[.float .f32 a0, .float .f32 a1, .float .f32 a2, .float .f32 a3], .agg #[.float .f32 b0, .float .f32 b1, .float .f32 b2, .float .f32 b3]] w (BF4 (timesW a0 a1 a2 a3 b0 b1 b2 b3) (timesX a0 a1 a2 a3 b0 b1 b2 b3) (timesY a0 a1 a2 a3 b0 b1 b2 b3) (timesZ a0 a1 a2 a3 b0 b1 b2 b3) w) := by
  rw [← sgn_w, ← sgn_x, ← sgn_y, ← sgn_z]
  go_enter Try.func43, Try.ntmps43
  go_wp2_with fail
  simp only [List.append_eq, List.cons_append, List.nil_append]
  refine wp_region_calm_tail 81 (InC [(⟨w.heap.size, 0, none⟩, .float .f32 a0), (⟨w.heap.size, 1, none⟩, .float .f32 a1), (⟨w.heap.size, 2, none⟩, .float .f32 a2), (⟨w.heap.size, 3, none⟩, .float .f32 a3), (⟨(w.heap.size + 1), 0, none⟩, .float .f32 b0), (⟨(w.heap.size + 1), 1, none⟩, .float .f32 b1), (⟨(w.heap.size + 1), 2, none⟩, .float .f32 b2), (⟨(w.heap.size + 1), 3, none⟩, .float .f32 b3), (⟨(w.heap.size + 1 + 1), 0, none⟩, .float .f32 0), (⟨(w.heap.size + 1 + 1), 1, none⟩, .float .f32 0), (⟨(w.heap.size + 1 + 1), 2, none⟩, .float .f32 0), (⟨(w.heap.size + 1 + 1), 3, none⟩, .float .f32 0)] w) (fun f args v => ∃ r, v = .float .f32 r ∧ cn .f32 r = signedX (argF args 0 0) (argF args 0 1) (argF args 0 2) (argF args 0 3) (argF args 1 0) (argF args 1 1) (argF args 1 2) (argF args 1 3) (argF args 2 0) (argF args 2 1) (argF args 2 2)) (by kernel_rfl) (by kernel_rfl) ⟨by simp [Held, go_sem], by (repeat (first | (with_reducible exact Below.refl _ _) | (with_reducible refine Below.drewN ?_ _) | (with_reducible refine Below.drew ?_) | (with_reducible refine Below.allocS ?_ _) | ((with_reducible refine Below.setCell ?_ ?_ _); rotate_left; focus (first | omega | (simp; done) | (simp; omega))) | (with_reducible refine Below.step ?_ (by assumption))))⟩ ?_
  simp only [List.take_succ_cons, List.take_zero, List.drop_succ_cons, List.drop_zero]
  generalize (fun _ : World => True) = Z0
  revert Z0
  repeat (first
    | (refine calm_plain rfl rfl (fun K hK w1 hC => ?_); have hC' := hC.1; simp only [Held, and_true] at hC'; go_wp2_with (first | (refine wpList_fbin rfl rfl rfl rfl rfl (fun r n hr => ?_)) | (refine wpList_widen rfl rfl Try.underlying63 Try.underlying22 rfl (fun r n hr => ?_))); refine ⟨rfl, (by first | assumption | exact InC.draws (by assumption) _), hK _ ?_⟩; clear hC hC' hK K w1)
    | (refine calm_call (f := 69) (args := _) rfl (by (intro w1; simp [execOp, resolve, invoke, go_sem]; with_reducible rfl)) (fun w1 hC => ?_) ?_
       focus (refine (signed_any _ _ _ _ _ _ _ _ _ _ _ _).mono ?_; rintro e w2 ⟨r, he, hq, hb⟩; exact ⟨_, he, ⟨_, rfl, hq⟩, hC.below hb⟩)
       rintro v ⟨r, rfl, hq⟩
       have HQ := Lib.hid hq
       simp [argF] at HQ
       clear hq))
  refine fun _ => calm_nil ?_
  intro w' hC hZ
  have hC' := hC.1
  simp only [Held, and_true] at hC'
  go_wp2_with fail
  refine bodyPost_ret (v := ?v) ?h rfl ?p
  case h => simp [results, Try.results43, go_sem, *]; rfl
  case p =>
    refine ⟨_, _, _, _, rfl, ?_, ?_⟩
    · refine ⟨?_, ?_, ?_, ?_⟩ <;> exact Hid.out (by assumption)
    · (have hB := hC.2; (repeat (first | assumption | (with_reducible exact Below.refl _ _) | (with_reducible refine Below.drewN ?_ _) | (with_reducible refine Below.drew ?_) | (with_reducible refine Below.allocS ?_ _) | ((with_reducible refine Below.setCell ?_ ?_ _); rotate_left; focus (first | omega | (simp; done) | (simp; omega))) | (with_reducible refine Below.step ?_ (by assumption)))))

set_option maxRecDepth 100000 in
theorem specTimesSpins_any (a0 a1 a2 a3 b0 b1 b2 b3 : Nat) (w : World) : Calls Try.prog 42 #[.agg #[.float .f32 a0, .float .f32 a1, .float .f32 a2, .float .f32 a3], .agg #[.float .f32 b0, .float .f32 b1, .float .f32 b2, .float .f32 b3]] w (BF4 (timesW a0 a1 a2 a3 b0 b1 b2 b3) (timesX a0 a1 a2 a3 b0 b1 b2 b3) (timesY a0 a1 a2 a3 b0 b1 b2 b3) (timesZ a0 a1 a2 a3 b0 b1 b2 b3) w) := by
  go_enter Try.func42, Try.ntmps42
  go_wp2_with (first | (go_at_call 68; refine (l04Times_any _ _ _ _ _ _ _ _ _).mono ?_; rintro e w' ⟨r0, r1, r2, r3, rfl, HQ, hb⟩; have hk := Held.below hb (l := [(⟨w.heap.size, 0, none⟩, .float .f32 a0), (⟨w.heap.size, 1, none⟩, .float .f32 a1), (⟨w.heap.size, 2, none⟩, .float .f32 a2), (⟨w.heap.size, 3, none⟩, .float .f32 a3), (⟨(w.heap.size + 1), 0, none⟩, .float .f32 b0), (⟨(w.heap.size + 1), 1, none⟩, .float .f32 b1), (⟨(w.heap.size + 1), 2, none⟩, .float .f32 b2), (⟨(w.heap.size + 1), 3, none⟩, .float .f32 b3), (⟨(w.heap.size + 1 + 1), 0, none⟩, .float .f32 0), (⟨(w.heap.size + 1 + 1), 1, none⟩, .float .f32 0), (⟨(w.heap.size + 1 + 1), 2, none⟩, .float .f32 0), (⟨(w.heap.size + 1 + 1), 3, none⟩, .float .f32 0)]) (by simp [Held, go_sem, *]); simp only [Held, and_true] at hk))
  refine bodyPost_ret (v := ?v) ?h rfl ?p
  case h => simp [results, Try.results42, go_sem, *]; rfl
  case p =>
    refine ⟨_, _, _, _, rfl, HQ, ?_⟩
    (repeat (first | (with_reducible exact Below.refl _ _) | (with_reducible refine Below.drewN ?_ _) | (with_reducible refine Below.drew ?_) | (with_reducible refine Below.allocS ?_ _) | ((with_reducible refine Below.setCell ?_ ?_ _); rotate_left; focus (first | omega | (simp; done) | (simp; omega))) | (with_reducible refine Below.step ?_ (by assumption))))



end Go.Proofs.Ytondpgnfkicpjaa
