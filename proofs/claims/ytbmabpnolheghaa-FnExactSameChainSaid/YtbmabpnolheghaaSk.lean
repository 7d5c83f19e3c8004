/-
  The walk of the reference's SameChain.
-/
import Derived.Test.YtbmabpnolheghaaSj
set_option linter.unusedVariables false
set_option linter.unusedSimpArgs false
namespace Go.Proofs.Ytbmabpnolheghaa
open Go.RowKit

theorem RowAt_unique {w : World} {v : Value} {c n m : Nat} {xs ys : List Value} (h : RowAt w v c n xs) (k : RowAt w v c m ys) : n = m ∧ xs = ys := by
  obtain ⟨h1, _, a, cap, rfl, h3⟩ := h
  obtain ⟨k1, _, a', cap', e, k3⟩ := k
  cases e
  refine ⟨rfl, ?_⟩
  rcases h3 with h0 | ⟨b, o, rfl, _, hc⟩
  · rw [h0, Nat.zero_mul] at h1 k1
    rw [List.eq_nil_of_length_eq_zero h1, List.eq_nil_of_length_eq_zero k1]
  rcases k3 with h0 | ⟨b', o', e, _, kc⟩
  · rw [h0, Nat.zero_mul] at h1 k1
    rw [List.eq_nil_of_length_eq_zero h1, List.eq_nil_of_length_eq_zero k1]
  cases e
  refine List.ext_getElem (by omega) fun i hi hj => ?_
  have e1 := (hc i _ (List.getElem?_eq_getElem hi)).1
  have e2 := (kc i _ (List.getElem?_eq_getElem hj)).1
  exact Option.some.inj (e1.symm.trans e2)
theorem fl_inj : ∀ {l m : List Nat}, fl l = fl m → l = m
  | [], [], _ => rfl
  | [], _ :: _, h => by cases h
  | _ :: _, [], h => by cases h
  | x :: l, y :: m, h => by
    have h1 : Value.float .f32 x :: fl l = Value.float .f32 y :: fl m := h
    injection h1 with h2 h3
    injection h2 with _ h4
    rw [h4, fl_inj h3]
def RodB (xs : List Value) : Prop := ∀ (j : Nat) (x : Nat), xs[j]? = some (Value.float FloatKind.f32 x) → x < 4294967296

set_option maxRecDepth 100000 in
set_option maxHeartbeats 4000000 in
theorem l03Same_any (v0 : Value) (n0 : Nat) (l0 : List Nat) (v1 : Value) (n1 : Nat) (l1 : List Nat) (v2 : Value) (n2 : Nat) (l2 : List Nat) (v3 : Value) (n3 : Nat) (l3 : List Value) (u0 : Value) (m0 : Nat) (k0 : List Nat) (u1 : Value) (m1 : Nat) (k1 : List Nat) (u2 : Value) (m2 : Nat) (k2 : List Nat) (u3 : Value) (m3 : Nat) (k3 : List Value) (p p' : Nat) (w : World) (h0 : RowAt w v0 3 n0 (fl l0)) (h1 : RowAt w v1 3 n1 (fl l1)) (h2 : RowAt w v2 1 n2 (fl l2)) (h3 : RowAt w v3 3 n3 l3) (g0 : RowAt w u0 3 m0 (fl k0)) (g1 : RowAt w u1 3 m1 (fl k1)) (g2 : RowAt w u2 1 m2 (fl k2)) (g3 : RowAt w u3 3 m3 k3) (hR : RodL l3) (gR : RodL k3) (hb0 : ∀ x ∈ l0, x < 4294967296) (gb0 : ∀ x ∈ k0, x < 4294967296) (hb1 : ∀ x ∈ l1, x < 4294967296) (gb1 : ∀ x ∈ k1, x < 4294967296) (hb2 : ∀ x ∈ l2, x < 4294967296) (gb2 : ∀ x ∈ k2, x < 4294967296) (hb3 : RodB l3) (gb3 : RodB k3) (hp : Held [(⟨p, 0, none⟩, v0), (⟨p, 1, none⟩, v1), (⟨p, 2, none⟩, v2), (⟨p, 3, none⟩, v3), (⟨p', 0, none⟩, u0), (⟨p', 1, none⟩, u1), (⟨p', 2, none⟩, u2), (⟨p', 3, none⟩, u3)] w) : Calls Try.prog 87 #[.pointer (some ⟨p, 0, none⟩), .pointer (some ⟨p', 0, none⟩)] w (BB (chainSame n0 l0 n1 l1 n2 l2 n3 l3 m0 k0 m1 k1 m2 k2 m3 k3) w) := by
  obtain ⟨e1, e2, ao, cap, rfl, e3⟩ := h3
  obtain ⟨f1, f2, ao', cap', rfl, f3⟩ := g3
  have H3 := Lib.hid e3
  have G3 := Lib.hid f3
  have hn3 : n3 ≤ 9223372036854775807 := e2
  have hm3 : m3 ≤ 9223372036854775807 := f2
  clear e3 f3 e2 f2
  have H0 := Lib.hid h0
  have G0 := Lib.hid g0
  have HB0 := Lib.hid hb0
  have GB0 := Lib.hid gb0
  have H1 := Lib.hid h1
  have G1 := Lib.hid g1
  have HB1 := Lib.hid hb1
  have GB1 := Lib.hid gb1
  have H2 := Lib.hid h2
  have G2 := Lib.hid g2
  have HB2 := Lib.hid hb2
  have GB2 := Lib.hid gb2
  have HB3 := Lib.hid hb3
  have GB3 := Lib.hid gb3
  have HR := Lib.hid hR
  have GR := Lib.hid gR
  have HP := Lib.hid hp
  simp only [Held, and_true] at hp
  clear h0 h1 h2 g0 g1 g2 hb0 hb1 hb2 hb3 gb0 gb1 gb2 gb3 hR gR
  have HQ : Hid (chainSame n0 l0 n1 l1 n2 l2 n3 l3 m0 k0 m1 k1 m2 k2 m3 k3 = (((rowsSame (vecSame l0 k0) n0 m0 && rowsSame (vecSame l1 k1) n1 m1) && rowsSame (numSame l2 k2) n2 m2) && rowsSame (rodSame l3 k3) n3 m3)) := rfl
  obtain ⟨t, hu⟩ : ∃ t, rowsSame (vecSame l0 k0) n0 m0 = t := ⟨_, rfl⟩
  have T0 := Lib.hid hu
  clear hu
  cases t
  case false =>
    go_enter Try.func87, Try.ntmps87
    go_wp2_with fail
    have hst : stableV [] := by intro q hq; cases hq
    refine region_calmV w [(⟨p, 0, none⟩, v0), (⟨p, 1, none⟩, v1), (⟨p, 2, none⟩, v2), (⟨p, 3, none⟩, .slice ao n3 cap), (⟨p', 0, none⟩, u0), (⟨p', 1, none⟩, u1), (⟨p', 2, none⟩, u2), (⟨p', 3, none⟩, .slice ao' m3 cap')] (fun _ _ v => v = .bool false) [] (by kernel_rfl) (by kernel_rfl) (by kernel_rfl) ⟨by simp [Held, go_sem, *], by (repeat (first | assumption | (with_reducible exact Below.refl _ _) | (with_reducible refine Below.drewN ?_ _) | (with_reducible refine Below.drew ?_) | (with_reducible refine Below.allocS ?_ _) | ((with_reducible refine Below.setCell ?_ ?_ _); rotate_left; focus (first | omega | (simp; done) | (simp; omega))) | (with_reducible refine Below.step ?_ (by assumption))))⟩ ?_
    repeat (first | (refine calmV_plain hst rfl rfl ?_ (fun K hK w1 hC => ?_); (focus (intro _ _; simp [RVF]; done)); have hC' := hC.1; simp only [Held, and_true] at hC'; go_wp2_with (first | (refine wpList_fbin rfl rfl rfl rfl rfl (fun r n hr => ?_)) | (refine wpList_widen rfl rfl Try.underlying85 Try.underlying23 rfl (fun r n hr => ?_))); refine ⟨rfl, (by first | exact Below.refl _ _ | exact below_drewN _), hK _ ?_⟩; clear hC hC' hK K w1) | (refine calmV_check rfl rfl rfl ?_ ?_; (focus (intro _ _; simp [RVF]; done))) | (refine calmV_skip rfl ?_ ?_; (focus (intro _ _; simp [RVF]; done)); simp [Act.put]))
    refine calmV_call (f := 135) (args := _) hst rfl (by (intro w1; simp [execOp, resolve, invoke, go_sem]; with_reducible rfl)) (fun w1 hC hD => ?_) ?_
    · refine (l03Vectors_any v0 u0 n0 m0 l0 k0 _ (H0.out.below hC.2) (G0.out.below hC.2) HB0.out GB0.out).mono ?_
      rintro e w2 ⟨rfl, hb2⟩
      rw [T0.out]
      exact ⟨_, rfl, rfl, (by simp [RVF]), hb2⟩
    rintro v rfl
    repeat (first | (refine calmV_plain hst rfl rfl ?_ (fun K hK w1 hC => ?_); (focus (intro _ _; simp [RVF]; done)); have hC' := hC.1; simp only [Held, and_true] at hC'; go_wp2_with (first | (refine wpList_fbin rfl rfl rfl rfl rfl (fun r n hr => ?_)) | (refine wpList_widen rfl rfl Try.underlying85 Try.underlying23 rfl (fun r n hr => ?_))); refine ⟨rfl, (by first | exact Below.refl _ _ | exact below_drewN _), hK _ ?_⟩; clear hC hC' hK K w1) | (refine calmV_check rfl rfl rfl ?_ ?_; (focus (intro _ _; simp [RVF]; done))) | (refine calmV_skip rfl ?_ ?_; (focus (intro _ _; simp [RVF]; done)); simp [Act.put]))
    refine calmV_nil ?_
    intro w' hC hF
    have hC' := hC.1
    simp only [Held, and_true] at hC'
    go_wp2_with fail
    go_ret
    refine ⟨ret_bool (by rw [HQ.out, T0.out]; simp), ?_⟩
    have hB := hC.2
    (repeat (first | assumption | (with_reducible exact Below.refl _ _) | (with_reducible refine Below.drewN ?_ _) | (with_reducible refine Below.drew ?_) | (with_reducible refine Below.allocS ?_ _) | ((with_reducible refine Below.setCell ?_ ?_ _); rotate_left; focus (first | omega | (simp; done) | (simp; omega))) | (with_reducible refine Below.step ?_ (by assumption))))
  obtain ⟨t, hu⟩ : ∃ t, rowsSame (vecSame l1 k1) n1 m1 = t := ⟨_, rfl⟩
  have T1 := Lib.hid hu
  clear hu
  cases t
  case false =>
    have hne : ¬ (v0 = v1 ∧ u0 = u1) := by
      rintro ⟨rfl, rfl⟩
      obtain ⟨a1, a2⟩ := RowAt_unique H0.out H1.out
      obtain ⟨b1, b2⟩ := RowAt_unique G0.out G1.out
      have a3 := fl_inj a2
      have b3 := fl_inj b2
      subst a1 b1 a3 b3
      have := T0.out.symm.trans T1.out
      cases this
    go_enter Try.func87, Try.ntmps87
    go_wp2_with fail
    have hst : stableV [] := by intro q hq; cases hq
    refine region_calmV w [(⟨p, 0, none⟩, v0), (⟨p, 1, none⟩, v1), (⟨p, 2, none⟩, v2), (⟨p, 3, none⟩, .slice ao n3 cap), (⟨p', 0, none⟩, u0), (⟨p', 1, none⟩, u1), (⟨p', 2, none⟩, u2), (⟨p', 3, none⟩, .slice ao' m3 cap')] (fun _ a v => (a = #[v0, u0] ∧ v = .bool true) ∨ (a = #[v1, u1] ∧ v = .bool false)) [] (by kernel_rfl) (by kernel_rfl) (by kernel_rfl) ⟨by simp [Held, go_sem, *], by (repeat (first | assumption | (with_reducible exact Below.refl _ _) | (with_reducible refine Below.drewN ?_ _) | (with_reducible refine Below.drew ?_) | (with_reducible refine Below.allocS ?_ _) | ((with_reducible refine Below.setCell ?_ ?_ _); rotate_left; focus (first | omega | (simp; done) | (simp; omega))) | (with_reducible refine Below.step ?_ (by assumption))))⟩ ?_
    repeat (first | (refine calmV_plain hst rfl rfl ?_ (fun K hK w1 hC => ?_); (focus (intro _ _; simp [RVF]; done)); have hC' := hC.1; simp only [Held, and_true] at hC'; go_wp2_with (first | (refine wpList_fbin rfl rfl rfl rfl rfl (fun r n hr => ?_)) | (refine wpList_widen rfl rfl Try.underlying85 Try.underlying23 rfl (fun r n hr => ?_))); refine ⟨rfl, (by first | exact Below.refl _ _ | exact below_drewN _), hK _ ?_⟩; clear hC hC' hK K w1) | (refine calmV_check rfl rfl rfl ?_ ?_; (focus (intro _ _; simp [RVF]; done))) | (refine calmV_skip rfl ?_ ?_; (focus (intro _ _; simp [RVF]; done)); simp [Act.put]))
    refine calmV_call (f := 135) (args := _) hst rfl (by (intro w1; simp [execOp, resolve, invoke, go_sem]; with_reducible rfl)) (fun w1 hC hD => ?_) ?_
    · refine (l03Vectors_any v0 u0 n0 m0 l0 k0 _ (H0.out.below hC.2) (G0.out.below hC.2) HB0.out GB0.out).mono ?_
      rintro e w2 ⟨rfl, hb2⟩
      rw [T0.out]
      exact ⟨_, rfl, .inl ⟨rfl, rfl⟩, (by simp [RVF]), hb2⟩
    rintro v (⟨hh, rfl⟩ | ⟨hh, rfl⟩)
    rotate_left
    · exact absurd (by simpa using hh) hne
    repeat (first | (refine calmV_plain hst rfl rfl ?_ (fun K hK w1 hC => ?_); (focus (intro _ _; simp [RVF]; done)); have hC' := hC.1; simp only [Held, and_true] at hC'; go_wp2_with (first | (refine wpList_fbin rfl rfl rfl rfl rfl (fun r n hr => ?_)) | (refine wpList_widen rfl rfl Try.underlying85 Try.underlying23 rfl (fun r n hr => ?_))); refine ⟨rfl, (by first | exact Below.refl _ _ | exact below_drewN _), hK _ ?_⟩; clear hC hC' hK K w1) | (refine calmV_check rfl rfl rfl ?_ ?_; (focus (intro _ _; simp [RVF]; done))) | (refine calmV_skip rfl ?_ ?_; (focus (intro _ _; simp [RVF]; done)); simp [Act.put]))
    refine calmV_call (f := 135) (args := _) hst rfl (by (intro w1; simp [execOp, resolve, invoke, go_sem]; with_reducible rfl)) (fun w1 hC hD => ?_) ?_
    · refine (l03Vectors_any v1 u1 n1 m1 l1 k1 _ (H1.out.below hC.2) (G1.out.below hC.2) HB1.out GB1.out).mono ?_
      rintro e w2 ⟨rfl, hb2⟩
      rw [T1.out]
      exact ⟨_, rfl, .inr ⟨rfl, rfl⟩, (by simp [RVF]), hb2⟩
    rintro v (⟨hh, rfl⟩ | ⟨hh, rfl⟩)
    · exact absurd (by simpa [eq_comm] using hh) hne
    repeat (first | (refine calmV_plain hst rfl rfl ?_ (fun K hK w1 hC => ?_); (focus (intro _ _; simp [RVF]; done)); have hC' := hC.1; simp only [Held, and_true] at hC'; go_wp2_with (first | (refine wpList_fbin rfl rfl rfl rfl rfl (fun r n hr => ?_)) | (refine wpList_widen rfl rfl Try.underlying85 Try.underlying23 rfl (fun r n hr => ?_))); refine ⟨rfl, (by first | exact Below.refl _ _ | exact below_drewN _), hK _ ?_⟩; clear hC hC' hK K w1) | (refine calmV_check rfl rfl rfl ?_ ?_; (focus (intro _ _; simp [RVF]; done))) | (refine calmV_skip rfl ?_ ?_; (focus (intro _ _; simp [RVF]; done)); simp [Act.put]))
    refine calmV_nil ?_
    intro w' hC hF
    have hC' := hC.1
    simp only [Held, and_true] at hC'
    go_wp2_with fail
    go_ret
    refine ⟨ret_bool (by rw [HQ.out, T0.out, T1.out]; simp), ?_⟩
    have hB := hC.2
    (repeat (first | assumption | (with_reducible exact Below.refl _ _) | (with_reducible refine Below.drewN ?_ _) | (with_reducible refine Below.drew ?_) | (with_reducible refine Below.allocS ?_ _) | ((with_reducible refine Below.setCell ?_ ?_ _); rotate_left; focus (first | omega | (simp; done) | (simp; omega))) | (with_reducible refine Below.step ?_ (by assumption))))
  obtain ⟨t, hu⟩ : ∃ t, rowsSame (numSame l2 k2) n2 m2 = t := ⟨_, rfl⟩
  have T2 := Lib.hid hu
  clear hu
  cases t
  case false =>
    go_enter Try.func87, Try.ntmps87
    go_wp2_with fail
    have hst : stableV [] := by intro q hq; cases hq
    refine region_calmV w [(⟨p, 0, none⟩, v0), (⟨p, 1, none⟩, v1), (⟨p, 2, none⟩, v2), (⟨p, 3, none⟩, .slice ao n3 cap), (⟨p', 0, none⟩, u0), (⟨p', 1, none⟩, u1), (⟨p', 2, none⟩, u2), (⟨p', 3, none⟩, .slice ao' m3 cap')] (fun f _ v => (f = 135 ∧ v = .bool true) ∨ (f = 133 ∧ v = .bool false)) [] (by kernel_rfl) (by kernel_rfl) (by kernel_rfl) ⟨by simp [Held, go_sem, *], by (repeat (first | assumption | (with_reducible exact Below.refl _ _) | (with_reducible refine Below.drewN ?_ _) | (with_reducible refine Below.drew ?_) | (with_reducible refine Below.allocS ?_ _) | ((with_reducible refine Below.setCell ?_ ?_ _); rotate_left; focus (first | omega | (simp; done) | (simp; omega))) | (with_reducible refine Below.step ?_ (by assumption))))⟩ ?_
    repeat (first | (refine calmV_plain hst rfl rfl ?_ (fun K hK w1 hC => ?_); (focus (intro _ _; simp [RVF]; done)); have hC' := hC.1; simp only [Held, and_true] at hC'; go_wp2_with (first | (refine wpList_fbin rfl rfl rfl rfl rfl (fun r n hr => ?_)) | (refine wpList_widen rfl rfl Try.underlying85 Try.underlying23 rfl (fun r n hr => ?_))); refine ⟨rfl, (by first | exact Below.refl _ _ | exact below_drewN _), hK _ ?_⟩; clear hC hC' hK K w1) | (refine calmV_check rfl rfl rfl ?_ ?_; (focus (intro _ _; simp [RVF]; done))) | (refine calmV_skip rfl ?_ ?_; (focus (intro _ _; simp [RVF]; done)); simp [Act.put]))
    refine calmV_call (f := 135) (args := _) hst rfl (by (intro w1; simp [execOp, resolve, invoke, go_sem]; with_reducible rfl)) (fun w1 hC hD => ?_) ?_
    · refine (l03Vectors_any v0 u0 n0 m0 l0 k0 _ (H0.out.below hC.2) (G0.out.below hC.2) HB0.out GB0.out).mono ?_
      rintro e w2 ⟨rfl, hb2⟩
      rw [T0.out]
      exact ⟨_, rfl, .inl ⟨rfl, rfl⟩, (by simp [RVF]), hb2⟩
    rintro v (⟨hh, rfl⟩ | ⟨hh, rfl⟩)
    rotate_left
    · exact absurd hh (by decide)
    repeat (first | (refine calmV_plain hst rfl rfl ?_ (fun K hK w1 hC => ?_); (focus (intro _ _; simp [RVF]; done)); have hC' := hC.1; simp only [Held, and_true] at hC'; go_wp2_with (first | (refine wpList_fbin rfl rfl rfl rfl rfl (fun r n hr => ?_)) | (refine wpList_widen rfl rfl Try.underlying85 Try.underlying23 rfl (fun r n hr => ?_))); refine ⟨rfl, (by first | exact Below.refl _ _ | exact below_drewN _), hK _ ?_⟩; clear hC hC' hK K w1) | (refine calmV_check rfl rfl rfl ?_ ?_; (focus (intro _ _; simp [RVF]; done))) | (refine calmV_skip rfl ?_ ?_; (focus (intro _ _; simp [RVF]; done)); simp [Act.put]))
    refine calmV_call (f := 135) (args := _) hst rfl (by (intro w1; simp [execOp, resolve, invoke, go_sem]; with_reducible rfl)) (fun w1 hC hD => ?_) ?_
    · refine (l03Vectors_any v1 u1 n1 m1 l1 k1 _ (H1.out.below hC.2) (G1.out.below hC.2) HB1.out GB1.out).mono ?_
      rintro e w2 ⟨rfl, hb2⟩
      rw [T1.out]
      exact ⟨_, rfl, .inl ⟨rfl, rfl⟩, (by simp [RVF]), hb2⟩
    rintro v (⟨hh, rfl⟩ | ⟨hh, rfl⟩)
    rotate_left
    · exact absurd hh (by decide)
    repeat (first | (refine calmV_plain hst rfl rfl ?_ (fun K hK w1 hC => ?_); (focus (intro _ _; simp [RVF]; done)); have hC' := hC.1; simp only [Held, and_true] at hC'; go_wp2_with (first | (refine wpList_fbin rfl rfl rfl rfl rfl (fun r n hr => ?_)) | (refine wpList_widen rfl rfl Try.underlying85 Try.underlying23 rfl (fun r n hr => ?_))); refine ⟨rfl, (by first | exact Below.refl _ _ | exact below_drewN _), hK _ ?_⟩; clear hC hC' hK K w1) | (refine calmV_check rfl rfl rfl ?_ ?_; (focus (intro _ _; simp [RVF]; done))) | (refine calmV_skip rfl ?_ ?_; (focus (intro _ _; simp [RVF]; done)); simp [Act.put]))
    refine calmV_call (f := 133) (args := _) hst rfl (by (intro w1; simp [execOp, resolve, invoke, go_sem]; with_reducible rfl)) (fun w1 hC hD => ?_) ?_
    · refine (l01SameAll_any v2 u2 n2 m2 l2 k2 _ (H2.out.below hC.2) (G2.out.below hC.2) HB2.out GB2.out).mono ?_
      rintro e w2 ⟨n9, rfl, rfl⟩
      rw [T2.out]
      exact ⟨_, rfl, .inr ⟨rfl, rfl⟩, (by simp [RVF]), below_drewN _⟩
    rintro v (⟨hh, rfl⟩ | ⟨hh, rfl⟩)
    · exact absurd hh (by decide)
    repeat (first | (refine calmV_plain hst rfl rfl ?_ (fun K hK w1 hC => ?_); (focus (intro _ _; simp [RVF]; done)); have hC' := hC.1; simp only [Held, and_true] at hC'; go_wp2_with (first | (refine wpList_fbin rfl rfl rfl rfl rfl (fun r n hr => ?_)) | (refine wpList_widen rfl rfl Try.underlying85 Try.underlying23 rfl (fun r n hr => ?_))); refine ⟨rfl, (by first | exact Below.refl _ _ | exact below_drewN _), hK _ ?_⟩; clear hC hC' hK K w1) | (refine calmV_check rfl rfl rfl ?_ ?_; (focus (intro _ _; simp [RVF]; done))) | (refine calmV_skip rfl ?_ ?_; (focus (intro _ _; simp [RVF]; done)); simp [Act.put]))
    refine calmV_nil ?_
    intro w' hC hF
    have hC' := hC.1
    simp only [Held, and_true] at hC'
    go_wp2_with fail
    go_ret
    refine ⟨ret_bool (by rw [HQ.out, T0.out, T1.out, T2.out]; simp), ?_⟩
    have hB := hC.2
    (repeat (first | assumption | (with_reducible exact Below.refl _ _) | (with_reducible refine Below.drewN ?_ _) | (with_reducible refine Below.drew ?_) | (with_reducible refine Below.allocS ?_ _) | ((with_reducible refine Below.setCell ?_ ?_ _); rotate_left; focus (first | omega | (simp; done) | (simp; omega))) | (with_reducible refine Below.step ?_ (by assumption))))
  by_cases he : n3 = m3
  case neg =>
    have d1 : ((n3 : Int) != (m3 : Int)) = true := by simp; omega
    have HE := Lib.hid he
    clear he
    go_enter Try.func87, Try.ntmps87
    go_wp2_with fail
    have hst : stableV [] := by intro q hq; cases hq
    refine region_calmV w [(⟨p, 0, none⟩, v0), (⟨p, 1, none⟩, v1), (⟨p, 2, none⟩, v2), (⟨p, 3, none⟩, .slice ao n3 cap), (⟨p', 0, none⟩, u0), (⟨p', 1, none⟩, u1), (⟨p', 2, none⟩, u2), (⟨p', 3, none⟩, .slice ao' m3 cap')] (fun _ _ v => v = .bool true) [] (by kernel_rfl) (by kernel_rfl) (by kernel_rfl) ⟨by simp [Held, go_sem, *], by (repeat (first | assumption | (with_reducible exact Below.refl _ _) | (with_reducible refine Below.drewN ?_ _) | (with_reducible refine Below.drew ?_) | (with_reducible refine Below.allocS ?_ _) | ((with_reducible refine Below.setCell ?_ ?_ _); rotate_left; focus (first | omega | (simp; done) | (simp; omega))) | (with_reducible refine Below.step ?_ (by assumption))))⟩ ?_
    repeat (first | (refine calmV_plain hst rfl rfl ?_ (fun K hK w1 hC => ?_); (focus (intro _ _; simp [RVF]; done)); have hC' := hC.1; simp only [Held, and_true] at hC'; go_wp2_with (first | (refine wpList_fbin rfl rfl rfl rfl rfl (fun r n hr => ?_)) | (refine wpList_widen rfl rfl Try.underlying85 Try.underlying23 rfl (fun r n hr => ?_))); refine ⟨rfl, (by first | exact Below.refl _ _ | exact below_drewN _), hK _ ?_⟩; clear hC hC' hK K w1) | (refine calmV_check rfl rfl rfl ?_ ?_; (focus (intro _ _; simp [RVF]; done))) | (refine calmV_skip rfl ?_ ?_; (focus (intro _ _; simp [RVF]; done)); simp [Act.put]))
    refine calmV_call (f := 135) (args := _) hst rfl (by (intro w1; simp [execOp, resolve, invoke, go_sem]; with_reducible rfl)) (fun w1 hC hD => ?_) ?_
    · refine (l03Vectors_any v0 u0 n0 m0 l0 k0 _ (H0.out.below hC.2) (G0.out.below hC.2) HB0.out GB0.out).mono ?_
      rintro e w2 ⟨rfl, hb2⟩
      rw [T0.out]
      exact ⟨_, rfl, rfl, (by simp [RVF]), hb2⟩
    rintro v rfl
    repeat (first | (refine calmV_plain hst rfl rfl ?_ (fun K hK w1 hC => ?_); (focus (intro _ _; simp [RVF]; done)); have hC' := hC.1; simp only [Held, and_true] at hC'; go_wp2_with (first | (refine wpList_fbin rfl rfl rfl rfl rfl (fun r n hr => ?_)) | (refine wpList_widen rfl rfl Try.underlying85 Try.underlying23 rfl (fun r n hr => ?_))); refine ⟨rfl, (by first | exact Below.refl _ _ | exact below_drewN _), hK _ ?_⟩; clear hC hC' hK K w1) | (refine calmV_check rfl rfl rfl ?_ ?_; (focus (intro _ _; simp [RVF]; done))) | (refine calmV_skip rfl ?_ ?_; (focus (intro _ _; simp [RVF]; done)); simp [Act.put]))
    refine calmV_call (f := 135) (args := _) hst rfl (by (intro w1; simp [execOp, resolve, invoke, go_sem]; with_reducible rfl)) (fun w1 hC hD => ?_) ?_
    · refine (l03Vectors_any v1 u1 n1 m1 l1 k1 _ (H1.out.below hC.2) (G1.out.below hC.2) HB1.out GB1.out).mono ?_
      rintro e w2 ⟨rfl, hb2⟩
      rw [T1.out]
      exact ⟨_, rfl, rfl, (by simp [RVF]), hb2⟩
    rintro v rfl
    repeat (first | (refine calmV_plain hst rfl rfl ?_ (fun K hK w1 hC => ?_); (focus (intro _ _; simp [RVF]; done)); have hC' := hC.1; simp only [Held, and_true] at hC'; go_wp2_with (first | (refine wpList_fbin rfl rfl rfl rfl rfl (fun r n hr => ?_)) | (refine wpList_widen rfl rfl Try.underlying85 Try.underlying23 rfl (fun r n hr => ?_))); refine ⟨rfl, (by first | exact Below.refl _ _ | exact below_drewN _), hK _ ?_⟩; clear hC hC' hK K w1) | (refine calmV_check rfl rfl rfl ?_ ?_; (focus (intro _ _; simp [RVF]; done))) | (refine calmV_skip rfl ?_ ?_; (focus (intro _ _; simp [RVF]; done)); simp [Act.put]))
    refine calmV_call (f := 133) (args := _) hst rfl (by (intro w1; simp [execOp, resolve, invoke, go_sem]; with_reducible rfl)) (fun w1 hC hD => ?_) ?_
    · refine (l01SameAll_any v2 u2 n2 m2 l2 k2 _ (H2.out.below hC.2) (G2.out.below hC.2) HB2.out GB2.out).mono ?_
      rintro e w2 ⟨n9, rfl, rfl⟩
      rw [T2.out]
      exact ⟨_, rfl, rfl, (by simp [RVF]), below_drewN _⟩
    rintro v rfl
    repeat (first | (refine calmV_plain hst rfl rfl ?_ (fun K hK w1 hC => ?_); (focus (intro _ _; simp [RVF]; done)); have hC' := hC.1; simp only [Held, and_true] at hC'; go_wp2_with (first | (refine wpList_fbin rfl rfl rfl rfl rfl (fun r n hr => ?_)) | (refine wpList_widen rfl rfl Try.underlying85 Try.underlying23 rfl (fun r n hr => ?_))); refine ⟨rfl, (by first | exact Below.refl _ _ | exact below_drewN _), hK _ ?_⟩; clear hC hC' hK K w1) | (refine calmV_check rfl rfl rfl ?_ ?_; (focus (intro _ _; simp [RVF]; done))) | (refine calmV_skip rfl ?_ ?_; (focus (intro _ _; simp [RVF]; done)); simp [Act.put]))
    refine calmV_op (Tv := fun v => v = .int .i64 (n3 : Int)) hst rfl (fun w1 hC => ⟨_, w1, ?_, rfl, ?_, Below.refl _ _⟩) ?_
    (focus (simp [execOp, go_sem]; done)); (focus (simp [RVF]; done))
    rintro v rfl
    repeat (first | (refine calmV_plain hst rfl rfl ?_ (fun K hK w1 hC => ?_); (focus (intro _ _; simp [RVF]; done)); have hC' := hC.1; simp only [Held, and_true] at hC'; go_wp2_with (first | (refine wpList_fbin rfl rfl rfl rfl rfl (fun r n hr => ?_)) | (refine wpList_widen rfl rfl Try.underlying85 Try.underlying23 rfl (fun r n hr => ?_))); refine ⟨rfl, (by first | exact Below.refl _ _ | exact below_drewN _), hK _ ?_⟩; clear hC hC' hK K w1) | (refine calmV_check rfl rfl rfl ?_ ?_; (focus (intro _ _; simp [RVF]; done))) | (refine calmV_skip rfl ?_ ?_; (focus (intro _ _; simp [RVF]; done)); simp [Act.put]))
    refine calmV_op (Tv := fun v => v = .int .i64 (m3 : Int)) hst rfl (fun w1 hC => ⟨_, w1, ?_, rfl, ?_, Below.refl _ _⟩) ?_
    (focus (simp [execOp, go_sem]; done)); (focus (simp [RVF]; done))
    rintro v rfl
    repeat (first | (refine calmV_plain hst rfl rfl ?_ (fun K hK w1 hC => ?_); (focus (intro _ _; simp [RVF]; done)); have hC' := hC.1; simp only [Held, and_true] at hC'; go_wp2_with (first | (refine wpList_fbin rfl rfl rfl rfl rfl (fun r n hr => ?_)) | (refine wpList_widen rfl rfl Try.underlying85 Try.underlying23 rfl (fun r n hr => ?_))); refine ⟨rfl, (by first | exact Below.refl _ _ | exact below_drewN _), hK _ ?_⟩; clear hC hC' hK K w1) | (refine calmV_check rfl rfl rfl ?_ ?_; (focus (intro _ _; simp [RVF]; done))) | (refine calmV_skip rfl ?_ ?_; (focus (intro _ _; simp [RVF]; done)); simp [Act.put]))
    refine calmV_nil ?_
    intro w' hC hF
    have hC' := hC.1
    simp only [Held, and_true] at hC'
    go_wp2_with fail
    go_ret
    refine ⟨ret_bool (by rw [HQ.out]; unfold rowsSame; simp [HE.out]), ?_⟩
    have hB := hC.2
    (repeat (first | assumption | (with_reducible exact Below.refl _ _) | (with_reducible refine Below.drewN ?_ _) | (with_reducible refine Below.drew ?_) | (with_reducible refine Below.allocS ?_ _) | ((with_reducible refine Below.setCell ?_ ?_ _); rotate_left; focus (first | omega | (simp; done) | (simp; omega))) | (with_reducible refine Below.step ?_ (by assumption))))
  subst he
  clear hm3
  have d1 : ((n3 : Int) != (n3 : Int)) = false := by simp
  have hpl : p < w.heap.size := World.block_lt_of_cell? w ⟨p, 0, none⟩ (show w.cell? ⟨p, 0, none⟩ = some v0 by simp [hp])
  have hpl' : p' < w.heap.size := World.block_lt_of_cell? w ⟨p', 0, none⟩ (show w.cell? ⟨p', 0, none⟩ = some u0 by simp [hp])
  go_enter Try.func87, Try.ntmps87
  go_wp2_with fail
  have hst : stableV [] := by intro q hq; cases hq
  refine region_calmV w [(⟨p, 0, none⟩, v0), (⟨p, 1, none⟩, v1), (⟨p, 2, none⟩, v2), (⟨p, 3, none⟩, .slice ao n3 cap), (⟨p', 0, none⟩, u0), (⟨p', 1, none⟩, u1), (⟨p', 2, none⟩, u2), (⟨p', 3, none⟩, .slice ao' n3 cap')] (fun _ _ v => v = .bool true) [] (by kernel_rfl) (by kernel_rfl) (by kernel_rfl) ⟨by simp [Held, go_sem, *], by (repeat (first | assumption | (with_reducible exact Below.refl _ _) | (with_reducible refine Below.drewN ?_ _) | (with_reducible refine Below.drew ?_) | (with_reducible refine Below.allocS ?_ _) | ((with_reducible refine Below.setCell ?_ ?_ _); rotate_left; focus (first | omega | (simp; done) | (simp; omega))) | (with_reducible refine Below.step ?_ (by assumption))))⟩ ?_
  repeat (first | (refine calmV_plain hst rfl rfl ?_ (fun K hK w1 hC => ?_); (focus (intro _ _; simp [RVF]; done)); have hC' := hC.1; simp only [Held, and_true] at hC'; go_wp2_with (first | (refine wpList_fbin rfl rfl rfl rfl rfl (fun r n hr => ?_)) | (refine wpList_widen rfl rfl Try.underlying85 Try.underlying23 rfl (fun r n hr => ?_))); refine ⟨rfl, (by first | exact Below.refl _ _ | exact below_drewN _), hK _ ?_⟩; clear hC hC' hK K w1) | (refine calmV_check rfl rfl rfl ?_ ?_; (focus (intro _ _; simp [RVF]; done))) | (refine calmV_skip rfl ?_ ?_; (focus (intro _ _; simp [RVF]; done)); simp [Act.put]))
  refine calmV_call (f := 135) (args := _) hst rfl (by (intro w1; simp [execOp, resolve, invoke, go_sem]; with_reducible rfl)) (fun w1 hC hD => ?_) ?_
  · refine (l03Vectors_any v0 u0 n0 m0 l0 k0 _ (H0.out.below hC.2) (G0.out.below hC.2) HB0.out GB0.out).mono ?_
    rintro e w2 ⟨rfl, hb2⟩
    rw [T0.out]
    exact ⟨_, rfl, rfl, (by simp [RVF]), hb2⟩
  rintro v rfl
  repeat (first | (refine calmV_plain hst rfl rfl ?_ (fun K hK w1 hC => ?_); (focus (intro _ _; simp [RVF]; done)); have hC' := hC.1; simp only [Held, and_true] at hC'; go_wp2_with (first | (refine wpList_fbin rfl rfl rfl rfl rfl (fun r n hr => ?_)) | (refine wpList_widen rfl rfl Try.underlying85 Try.underlying23 rfl (fun r n hr => ?_))); refine ⟨rfl, (by first | exact Below.refl _ _ | exact below_drewN _), hK _ ?_⟩; clear hC hC' hK K w1) | (refine calmV_check rfl rfl rfl ?_ ?_; (focus (intro _ _; simp [RVF]; done))) | (refine calmV_skip rfl ?_ ?_; (focus (intro _ _; simp [RVF]; done)); simp [Act.put]))
  refine calmV_call (f := 135) (args := _) hst rfl (by (intro w1; simp [execOp, resolve, invoke, go_sem]; with_reducible rfl)) (fun w1 hC hD => ?_) ?_
  · refine (l03Vectors_any v1 u1 n1 m1 l1 k1 _ (H1.out.below hC.2) (G1.out.below hC.2) HB1.out GB1.out).mono ?_
    rintro e w2 ⟨rfl, hb2⟩
    rw [T1.out]
    exact ⟨_, rfl, rfl, (by simp [RVF]), hb2⟩
  rintro v rfl
  repeat (first | (refine calmV_plain hst rfl rfl ?_ (fun K hK w1 hC => ?_); (focus (intro _ _; simp [RVF]; done)); have hC' := hC.1; simp only [Held, and_true] at hC'; go_wp2_with (first | (refine wpList_fbin rfl rfl rfl rfl rfl (fun r n hr => ?_)) | (refine wpList_widen rfl rfl Try.underlying85 Try.underlying23 rfl (fun r n hr => ?_))); refine ⟨rfl, (by first | exact Below.refl _ _ | exact below_drewN _), hK _ ?_⟩; clear hC hC' hK K w1) | (refine calmV_check rfl rfl rfl ?_ ?_; (focus (intro _ _; simp [RVF]; done))) | (refine calmV_skip rfl ?_ ?_; (focus (intro _ _; simp [RVF]; done)); simp [Act.put]))
  refine calmV_call (f := 133) (args := _) hst rfl (by (intro w1; simp [execOp, resolve, invoke, go_sem]; with_reducible rfl)) (fun w1 hC hD => ?_) ?_
  · refine (l01SameAll_any v2 u2 n2 m2 l2 k2 _ (H2.out.below hC.2) (G2.out.below hC.2) HB2.out GB2.out).mono ?_
    rintro e w2 ⟨n9, rfl, rfl⟩
    rw [T2.out]
    exact ⟨_, rfl, rfl, (by simp [RVF]), below_drewN _⟩
  rintro v rfl
  repeat (first | (refine calmV_plain hst rfl rfl ?_ (fun K hK w1 hC => ?_); (focus (intro _ _; simp [RVF]; done)); have hC' := hC.1; simp only [Held, and_true] at hC'; go_wp2_with (first | (refine wpList_fbin rfl rfl rfl rfl rfl (fun r n hr => ?_)) | (refine wpList_widen rfl rfl Try.underlying85 Try.underlying23 rfl (fun r n hr => ?_))); refine ⟨rfl, (by first | exact Below.refl _ _ | exact below_drewN _), hK _ ?_⟩; clear hC hC' hK K w1) | (refine calmV_check rfl rfl rfl ?_ ?_; (focus (intro _ _; simp [RVF]; done))) | (refine calmV_skip rfl ?_ ?_; (focus (intro _ _; simp [RVF]; done)); simp [Act.put]))
  refine calmV_op (Tv := fun v => v = .int .i64 (n3 : Int)) hst rfl (fun w1 hC => ⟨_, w1, ?_, rfl, ?_, Below.refl _ _⟩) ?_
  (focus (simp [execOp, go_sem]; done)); (focus (simp [RVF]; done))
  rintro v rfl
  repeat (first | (refine calmV_plain hst rfl rfl ?_ (fun K hK w1 hC => ?_); (focus (intro _ _; simp [RVF]; done)); have hC' := hC.1; simp only [Held, and_true] at hC'; go_wp2_with (first | (refine wpList_fbin rfl rfl rfl rfl rfl (fun r n hr => ?_)) | (refine wpList_widen rfl rfl Try.underlying85 Try.underlying23 rfl (fun r n hr => ?_))); refine ⟨rfl, (by first | exact Below.refl _ _ | exact below_drewN _), hK _ ?_⟩; clear hC hC' hK K w1) | (refine calmV_check rfl rfl rfl ?_ ?_; (focus (intro _ _; simp [RVF]; done))) | (refine calmV_skip rfl ?_ ?_; (focus (intro _ _; simp [RVF]; done)); simp [Act.put]))
  refine calmV_op (Tv := fun v => v = .int .i64 (n3 : Int)) hst rfl (fun w1 hC => ⟨_, w1, ?_, rfl, ?_, Below.refl _ _⟩) ?_
  (focus (simp [execOp, go_sem]; done)); (focus (simp [RVF]; done))
  rintro v rfl
  repeat (first | (refine calmV_plain hst rfl rfl ?_ (fun K hK w1 hC => ?_); (focus (intro _ _; simp [RVF]; done)); have hC' := hC.1; simp only [Held, and_true] at hC'; go_wp2_with (first | (refine wpList_fbin rfl rfl rfl rfl rfl (fun r n hr => ?_)) | (refine wpList_widen rfl rfl Try.underlying85 Try.underlying23 rfl (fun r n hr => ?_))); refine ⟨rfl, (by first | exact Below.refl _ _ | exact below_drewN _), hK _ ?_⟩; clear hC hC' hK K w1) | (refine calmV_check rfl rfl rfl ?_ ?_; (focus (intro _ _; simp [RVF]; done))) | (refine calmV_skip rfl ?_ ?_; (focus (intro _ _; simp [RVF]; done)); simp [Act.put]))
  refine calmV_nil ?_
  intro w' hC hF
  have hC' := hC.1
  simp only [Held, and_true] at hC'
  have hBw := hC.2
  have hbx : Held [(⟨p, 0, none⟩, v0), (⟨p, 1, none⟩, v1), (⟨p, 2, none⟩, v2), (⟨p, 3, none⟩, .slice ao n3 cap), (⟨p', 0, none⟩, u0), (⟨p', 1, none⟩, u1), (⟨p', 2, none⟩, u2), (⟨p', 3, none⟩, .slice ao' n3 cap')] w' := hC.1
  clear hC hF hst
  go_wp2_with fail
  go_loopw [60] (fun i wr => ∃ k : Nat, k ≤ n3 ∧ i = .int .i64 (k : Int) ∧ (∀ j, j < k → rodSame l3 k3 j = true) ∧ Below w.heap.size w wr ∧ Held [(⟨p, 0, none⟩, v0), (⟨p, 1, none⟩, v1), (⟨p, 2, none⟩, v2), (⟨p, 3, none⟩, .slice ao n3 cap), (⟨p', 0, none⟩, u0), (⟨p', 1, none⟩, u1), (⟨p', 2, none⟩, u2), (⟨p', 3, none⟩, .slice ao' n3 cap')] wr) (fun i _ => n3 - (intOf i).toNat)
  case atStart => exact ⟨0, Nat.zero_le _, rfl, fun j hj => absurd hj (Nat.not_lt_zero _), hBw, hbx⟩
  case round =>
    clear hC' hbx
    obtain ⟨k, hk, rfl, hall, hbel, hbx⟩ := hrel
    have HA := Lib.hid hall
    have HBX := Lib.hid hbx
    simp only [Held, and_true] at hbx
    clear hall
    have hplw : p < wr.heap.size := Nat.lt_of_lt_of_le hpl hbel.size
    have hplw' : p' < wr.heap.size := Nat.lt_of_lt_of_le hpl' hbel.size
    by_cases hlt : k < n3
    · have hlt' : k < n3 := hlt
      obtain ⟨b, o, rfl, hbl, hcell⟩ := H3.out.resolve_left (by omega)
      obtain ⟨a, c, x, e0x, e1x, e2x⟩ := HR.out k (by omega)
      have fx0 : wr.cell? ⟨b, o + k * 3, none⟩ = some (.int .i64 a) := by rw [hbel.cell (p := ⟨b, o + k * 3, none⟩) hbl]; exact (hcell (k * 3) _ e0x).1
      have fx1 : wr.cell? ⟨b, o + k * 3 + 1, none⟩ = some (.int .i64 c) := by rw [hbel.cell (p := ⟨b, o + k * 3 + 1, none⟩) hbl]; exact (hcell (k * 3 + 1) _ e1x).1
      have fx2 : wr.cell? ⟨b, o + k * 3 + 2, none⟩ = some (.float .f32 x) := by rw [hbel.cell (p := ⟨b, o + k * 3 + 2, none⟩) hbl]; exact (hcell (k * 3 + 2) _ e2x).1
      clear hcell
      have hblw : b < wr.heap.size := Nat.lt_of_lt_of_le hbl hbel.size
      have bitx : x < 4294967296 := HB3.out _ _ e2x
      obtain ⟨b', o', rfl, gbl, hcell⟩ := G3.out.resolve_left (by omega)
      obtain ⟨a', c', y, e0y, e1y, e2y⟩ := GR.out k (by omega)
      have fy0 : wr.cell? ⟨b', o' + k * 3, none⟩ = some (.int .i64 a') := by rw [hbel.cell (p := ⟨b', o' + k * 3, none⟩) gbl]; exact (hcell (k * 3) _ e0y).1
      have fy1 : wr.cell? ⟨b', o' + k * 3 + 1, none⟩ = some (.int .i64 c') := by rw [hbel.cell (p := ⟨b', o' + k * 3 + 1, none⟩) gbl]; exact (hcell (k * 3 + 1) _ e1y).1
      have fy2 : wr.cell? ⟨b', o' + k * 3 + 2, none⟩ = some (.float .f32 y) := by rw [hbel.cell (p := ⟨b', o' + k * 3 + 2, none⟩) gbl]; exact (hcell (k * 3 + 2) _ e2y).1
      clear hcell
      have gblw : b' < wr.heap.size := Nat.lt_of_lt_of_le gbl hbel.size
      have bity : y < 4294967296 := GB3.out _ _ e2y
      have HOK : Hid (rodSame l3 k3 k = (((a == a') && (c == c')) && sameB x y)) := by show _ = _; unfold rodSame; rw [iAt_of e0x, iAt_of e0y, iAt_of e1x, iAt_of e1y, fAt_of e2x, fAt_of e2y]
      clear e0x e1x e2x e0y e1y e2y
      cases s0 : (a == a')
      · have r0 : (a != a') = true := by simp [bne, s0]
        go_wp2_with (first | (go_at_call 65; refine (l01Same_lit (by assumption) (by assumption) (by assumption)).mono ?_; rintro e w' ⟨n9, rfl, rfl⟩))
        go_ret
        refine ⟨ret_bool ?_, ?_⟩
        · rw [HQ.out, show rowsSame (rodSame l3 k3) n3 n3 = false from (by unfold rowsSame; rw [upto_false hlt (by rw [HOK.out]; simp [s0]), Bool.and_false]), Bool.and_false]
        · (repeat (first | assumption | (with_reducible exact Below.refl _ _) | (with_reducible refine Below.drewN ?_ _) | (with_reducible refine Below.drew ?_) | (with_reducible refine Below.allocS ?_ _) | ((with_reducible refine Below.setCell ?_ ?_ _); rotate_left; focus (first | omega | (simp; done) | (simp; omega))) | (with_reducible refine Below.step ?_ (by assumption))))
      have r0 : (a != a') = false := by simp [bne, s0]
      cases s1 : (c == c')
      · have r1 : (c != c') = true := by simp [bne, s1]
        go_wp2_with (first | (go_at_call 65; refine (l01Same_lit (by assumption) (by assumption) (by assumption)).mono ?_; rintro e w' ⟨n9, rfl, rfl⟩))
        go_ret
        refine ⟨ret_bool ?_, ?_⟩
        · rw [HQ.out, show rowsSame (rodSame l3 k3) n3 n3 = false from (by unfold rowsSame; rw [upto_false hlt (by rw [HOK.out]; simp [s0, s1]), Bool.and_false]), Bool.and_false]
        · (repeat (first | assumption | (with_reducible exact Below.refl _ _) | (with_reducible refine Below.drewN ?_ _) | (with_reducible refine Below.drew ?_) | (with_reducible refine Below.allocS ?_ _) | ((with_reducible refine Below.setCell ?_ ?_ _); rotate_left; focus (first | omega | (simp; done) | (simp; omega))) | (with_reducible refine Below.step ?_ (by assumption))))
      have r1 : (c != c') = false := by simp [bne, s1]
      cases s2 : sameB x y
      · have r2 := s2
        go_wp2_with (first | (go_at_call 65; refine (l01Same_lit (by assumption) (by assumption) (by assumption)).mono ?_; rintro e w' ⟨n9, rfl, rfl⟩))
        go_ret
        refine ⟨ret_bool ?_, ?_⟩
        · rw [HQ.out, show rowsSame (rodSame l3 k3) n3 n3 = false from (by unfold rowsSame; rw [upto_false hlt (by rw [HOK.out]; simp [s0, s1, s2]), Bool.and_false]), Bool.and_false]
        · (repeat (first | assumption | (with_reducible exact Below.refl _ _) | (with_reducible refine Below.drewN ?_ _) | (with_reducible refine Below.drew ?_) | (with_reducible refine Below.allocS ?_ _) | ((with_reducible refine Below.setCell ?_ ?_ _); rotate_left; focus (first | omega | (simp; done) | (simp; omega))) | (with_reducible refine Below.step ?_ (by assumption))))
      · go_wp2_with (first | (go_at_call 65; refine (l01Same_lit (by assumption) (by assumption) (by assumption)).mono ?_; rintro e w' ⟨n9, rfl, rfl⟩))
        go_roundw
        case rel => exact ⟨k + 1, hlt, by go_num, all_step HA.out (by rw [HOK.out, s0, s1, s2]; rfl), by (repeat (first | assumption | (with_reducible exact Below.refl _ _) | (with_reducible refine Below.drewN ?_ _) | (with_reducible refine Below.drew ?_) | (with_reducible refine Below.allocS ?_ _) | ((with_reducible refine Below.setCell ?_ ?_ _); rotate_left; focus (first | omega | (simp; done) | (simp; omega))) | (with_reducible refine Below.step ?_ (by assumption)))), by simp [Held, go_sem, *]⟩
        case measure => simp [intOf]; omega
    · obtain rfl : k = n3 := by omega
      go_wp2_with fail
      go_ret
      exact ⟨ret_bool (by rw [HQ.out, T0.out, T1.out, T2.out, show rowsSame (rodSame l3 k3) k k = true from (by unfold rowsSame; rw [upto_true HA.out]; simp)]; rfl), hbel⟩

set_option maxRecDepth 100000 in
set_option maxHeartbeats 4000000 in
theorem specSameChain_any (v0 : Value) (n0 : Nat) (l0 : List Nat) (v1 : Value) (n1 : Nat) (l1 : List Nat) (v2 : Value) (n2 : Nat) (l2 : List Nat) (v3 : Value) (n3 : Nat) (l3 : List Value) (u0 : Value) (m0 : Nat) (k0 : List Nat) (u1 : Value) (m1 : Nat) (k1 : List Nat) (u2 : Value) (m2 : Nat) (k2 : List Nat) (u3 : Value) (m3 : Nat) (k3 : List Value) (w : World) (h0 : RowAt w v0 3 n0 (fl l0)) (h1 : RowAt w v1 3 n1 (fl l1)) (h2 : RowAt w v2 1 n2 (fl l2)) (h3 : RowAt w v3 3 n3 l3) (g0 : RowAt w u0 3 m0 (fl k0)) (g1 : RowAt w u1 3 m1 (fl k1)) (g2 : RowAt w u2 1 m2 (fl k2)) (g3 : RowAt w u3 3 m3 k3) (hR : RodL l3) (gR : RodL k3) (hb0 : ∀ x ∈ l0, x < 4294967296) (gb0 : ∀ x ∈ k0, x < 4294967296) (hb1 : ∀ x ∈ l1, x < 4294967296) (gb1 : ∀ x ∈ k1, x < 4294967296) (hb2 : ∀ x ∈ l2, x < 4294967296) (gb2 : ∀ x ∈ k2, x < 4294967296) (hb3 : RodB l3) (gb3 : RodB k3)  : Calls Try.prog 34 #[.agg #[v0, v1, v2, v3], .agg #[u0, u1, u2, u3]] w (BB (chainSame n0 l0 n1 l1 n2 l2 n3 l3 m0 k0 m1 k1 m2 k2 m3 k3) w) := by
  have H0 := Lib.hid h0
  have G0 := Lib.hid g0
  have H1 := Lib.hid h1
  have G1 := Lib.hid g1
  have H2 := Lib.hid h2
  have G2 := Lib.hid g2
  have H3 := Lib.hid h3
  have G3 := Lib.hid g3
  clear h0 h1 h2 h3 g0 g1 g2 g3
  go_enter Try.func34, Try.ntmps34
  go_wp2_with fail
  refine (l03Same_any v0 n0 l0 v1 n1 l1 v2 n2 l2 v3 n3 l3 u0 m0 k0 u1 m1 k1 u2 m2 k2 u3 m3 k3 _ _ _ ?_ ?_ ?_ ?_ ?_ ?_ ?_ ?_ hR gR hb0 gb0 hb1 gb1 hb2 gb2 hb3 gb3 ?_).mono ?_
  · refine RowAt.below H0.out ?_
    (repeat (first | assumption | (with_reducible exact Below.refl _ _) | (with_reducible refine Below.drewN ?_ _) | (with_reducible refine Below.drew ?_) | (with_reducible refine Below.allocS ?_ _) | ((with_reducible refine Below.setCell ?_ ?_ _); rotate_left; focus (first | omega | (simp; done) | (simp; omega))) | (with_reducible refine Below.step ?_ (by assumption))))
  · refine RowAt.below H1.out ?_
    (repeat (first | assumption | (with_reducible exact Below.refl _ _) | (with_reducible refine Below.drewN ?_ _) | (with_reducible refine Below.drew ?_) | (with_reducible refine Below.allocS ?_ _) | ((with_reducible refine Below.setCell ?_ ?_ _); rotate_left; focus (first | omega | (simp; done) | (simp; omega))) | (with_reducible refine Below.step ?_ (by assumption))))
  · refine RowAt.below H2.out ?_
    (repeat (first | assumption | (with_reducible exact Below.refl _ _) | (with_reducible refine Below.drewN ?_ _) | (with_reducible refine Below.drew ?_) | (with_reducible refine Below.allocS ?_ _) | ((with_reducible refine Below.setCell ?_ ?_ _); rotate_left; focus (first | omega | (simp; done) | (simp; omega))) | (with_reducible refine Below.step ?_ (by assumption))))
  · refine RowAt.below H3.out ?_
    (repeat (first | assumption | (with_reducible exact Below.refl _ _) | (with_reducible refine Below.drewN ?_ _) | (with_reducible refine Below.drew ?_) | (with_reducible refine Below.allocS ?_ _) | ((with_reducible refine Below.setCell ?_ ?_ _); rotate_left; focus (first | omega | (simp; done) | (simp; omega))) | (with_reducible refine Below.step ?_ (by assumption))))
  · refine RowAt.below G0.out ?_
    (repeat (first | assumption | (with_reducible exact Below.refl _ _) | (with_reducible refine Below.drewN ?_ _) | (with_reducible refine Below.drew ?_) | (with_reducible refine Below.allocS ?_ _) | ((with_reducible refine Below.setCell ?_ ?_ _); rotate_left; focus (first | omega | (simp; done) | (simp; omega))) | (with_reducible refine Below.step ?_ (by assumption))))
  · refine RowAt.below G1.out ?_
    (repeat (first | assumption | (with_reducible exact Below.refl _ _) | (with_reducible refine Below.drewN ?_ _) | (with_reducible refine Below.drew ?_) | (with_reducible refine Below.allocS ?_ _) | ((with_reducible refine Below.setCell ?_ ?_ _); rotate_left; focus (first | omega | (simp; done) | (simp; omega))) | (with_reducible refine Below.step ?_ (by assumption))))
  · refine RowAt.below G2.out ?_
    (repeat (first | assumption | (with_reducible exact Below.refl _ _) | (with_reducible refine Below.drewN ?_ _) | (with_reducible refine Below.drew ?_) | (with_reducible refine Below.allocS ?_ _) | ((with_reducible refine Below.setCell ?_ ?_ _); rotate_left; focus (first | omega | (simp; done) | (simp; omega))) | (with_reducible refine Below.step ?_ (by assumption))))
  · refine RowAt.below G3.out ?_
    (repeat (first | assumption | (with_reducible exact Below.refl _ _) | (with_reducible refine Below.drewN ?_ _) | (with_reducible refine Below.drew ?_) | (with_reducible refine Below.allocS ?_ _) | ((with_reducible refine Below.setCell ?_ ?_ _); rotate_left; focus (first | omega | (simp; done) | (simp; omega))) | (with_reducible refine Below.step ?_ (by assumption))))
  · simp [Held, go_sem]
  rintro e w1 ⟨rfl, hb⟩
  go_wp2_with fail
  go_ret
  refine ⟨rfl, ?_⟩
  (repeat (first | assumption | (with_reducible exact Below.refl _ _) | (with_reducible refine Below.drewN ?_ _) | (with_reducible refine Below.drew ?_) | (with_reducible refine Below.allocS ?_ _) | ((with_reducible refine Below.setCell ?_ ?_ _); rotate_left; focus (first | omega | (simp; done) | (simp; omega))) | (with_reducible refine Below.step ?_ (by assumption))))
end Go.Proofs.Ytbmabpnolheghaa
