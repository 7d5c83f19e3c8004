/-
  The walks of rows of balls that are apart, and the law IsApart.
-/
import Derived.Test.YtbmabpnolheghaaSd
set_option linter.unusedVariables false
set_option linter.unusedSimpArgs false
namespace Go.Proofs.Ytbmabpnolheghaa
open Go.RowKit

/-- Ball number 'k' is no faster than the next one. -/
def okFast (l : List Nat) (k : Nat) : Bool := !gtF .f32 (l.getD (k * 3 + 1) 0) (l.getD ((k + 1) * 3 + 1) 0)
def apartB (n : Nat) (l : List Nat) (z : Nat) : Bool := upto (okFast l) (n - 1) && rowB n l z

set_option maxRecDepth 100000 in
set_option maxHeartbeats 4000000 in
theorem specIsApart_any (v : Value) (n : Nat) (l : List Nat) (z : Nat) (w : World) (h : RowAt w v 3 n (fl l)) : Calls Try.prog 21 #[.agg #[v, .float .f32 z]] w (BB (apartB n l z) w) := by
  have H := Lib.hid h
  obtain ⟨h1, h2, ao, cap, rfl, h3⟩ := h
  have H3 := Lib.hid h3
  rw [fl_length] at h1
  have h2' : n ≤ 9223372036854775807 := h2
  clear h3
  cases hB : rowB n l z
  · go_enter Try.func21, Try.ntmps21
    go_wp2_with (first | (go_at_call 58; refine (l06Is_any (.slice ao n cap) n l z _ _ ?_ ?_).mono ?_; (focus (refine RowAt.below H.out ?_; (repeat (first | assumption | (with_reducible exact Below.refl _ _) | (with_reducible refine Below.drewN ?_ _) | (with_reducible refine Below.drew ?_) | (with_reducible refine Below.allocS ?_ _) | ((with_reducible refine Below.setCell ?_ ?_ _); rotate_left; focus (first | omega | (simp; done) | (simp; omega))) | (with_reducible refine Below.step ?_ (by assumption)))); done)); (focus (simp [Held, go_sem]; done)); rintro e w1 ⟨rfl, hb⟩))
    go_ret
    refine ⟨ret_bool ?_, ?_⟩
    · unfold apartB
      rw [hB, Bool.and_false]
    · (repeat (first | assumption | (with_reducible exact Below.refl _ _) | (with_reducible refine Below.drewN ?_ _) | (with_reducible refine Below.drew ?_) | (with_reducible refine Below.allocS ?_ _) | ((with_reducible refine Below.setCell ?_ ?_ _); rotate_left; focus (first | omega | (simp; done) | (simp; omega))) | (with_reducible refine Below.step ?_ (by assumption))))
  have hn : 2 ≤ n := by
    unfold rowB inR at hB
    simp at hB
    omega
  have hBB := Lib.hid hB
  clear hB
  go_enter Try.func21, Try.ntmps21
  go_wp2_with (first | (go_at_call 58; refine (l06Is_any (.slice ao n cap) n l z _ _ ?_ ?_).mono ?_; (focus (refine RowAt.below H.out ?_; (repeat (first | assumption | (with_reducible exact Below.refl _ _) | (with_reducible refine Below.drewN ?_ _) | (with_reducible refine Below.drew ?_) | (with_reducible refine Below.allocS ?_ _) | ((with_reducible refine Below.setCell ?_ ?_ _); rotate_left; focus (first | omega | (simp; done) | (simp; omega))) | (with_reducible refine Below.step ?_ (by assumption)))); done)); (focus (simp [Held, go_sem]; done)); rintro e w1 ⟨rfl, hb⟩; rw [hBB.out]))
  have hk := Held.below hb (l := [(⟨w.heap.size, 0, none⟩, .slice ao n cap), (⟨w.heap.size, 1, none⟩, .float .f32 z)]) (by simp [Held, go_sem, *])
  simp only [Held, and_true] at hk
  go_wp2_with fail
  go_loopw [3] (fun i wr => ∃ k : Nat, (k = 0 ∨ k < n) ∧ i = .int .i64 ((k : Int)) ∧ (∀ j, j < k → okFast l j = true) ∧ Below w.heap.size w wr ∧ Held [(⟨w.heap.size, 0, none⟩, .slice ao n cap), (⟨w.heap.size, 1, none⟩, .float .f32 z)] wr) (fun i _ => n + 1 - (intOf i).toNat)
  case atStart => exact ⟨0, .inl rfl, rfl, fun j hj => absurd hj (Nat.not_lt_zero _), by (repeat (first | assumption | (with_reducible exact Below.refl _ _) | (with_reducible refine Below.drewN ?_ _) | (with_reducible refine Below.drew ?_) | (with_reducible refine Below.allocS ?_ _) | ((with_reducible refine Below.setCell ?_ ?_ _); rotate_left; focus (first | omega | (simp; done) | (simp; omega))) | (with_reducible refine Below.step ?_ (by assumption)))), by simp [Held, go_sem, *]⟩
  case round =>
    obtain ⟨k, hk, rfl, hall, hbel, hbx⟩ := hrel
    have HA := Lib.hid hall
    have HBX := Lib.hid hbx
    simp only [Held, and_true] at hbx
    clear hall
    by_cases hlt : k + 1 < n
    · have d0 : decide ((k : Int) + 1 < (n : Int)) = true := decide_eq_true (by omega)
      obtain ⟨b, o, rfl, hbl, hcell⟩ := H3.out.resolve_left (by omega)
      have hcw : ∀ j x, (fl l)[j]? = some (.float .f32 x) → wr.cell? ⟨b, o + j, none⟩ = some (.float .f32 x) ∧ wr.frozen? ⟨b, o + j, none⟩ = false := fun j x hx => by
        rw [hbel.cell (p := ⟨b, o + j, none⟩) hbl, hbel.frozen (p := ⟨b, o + j, none⟩) hbl]; exact hcell j _ hx
      have HC := Lib.hid hcw
      clear hcw hcell
      have hbw : b < wr.heap.size := Nat.lt_of_lt_of_le hbl hbel.size
      have hbw2 : ¬ b = wr.heap.size := by omega
      have hbw3 : ¬ b = w.heap.size := by omega
      obtain ⟨x0, hx0⟩ : ∃ x, Hid (l.getD (k * 3 + 1) 0 = x) := ⟨_, rfl⟩
      obtain ⟨x1, hx1⟩ : ∃ x, Hid (l.getD ((k + 1) * 3 + 1) 0 = x) := ⟨_, rfl⟩
      have f0 := HC.out (k * 3 + 1) x0 (by rw [← hx0.out]; exact fl_get (by omega))
      have f1 := HC.out ((k + 1) * 3 + 1) x1 (by rw [← hx1.out]; exact fl_get (by omega))
      simp only [← Nat.add_assoc] at f0 f1
      have HOK : Hid (okFast l k = !gtF .f32 x0 x1) := by show _ = _; unfold okFast; rw [hx0.out, hx1.out]
      cases hl : gtF .f32 x0 x1
      · go_wp2_with fail
        refine region_calmA wr (wr.heap.size) [(⟨w.heap.size, 0, none⟩, .slice (some ⟨b, o, none⟩) n cap), (⟨w.heap.size, 1, none⟩, .float .f32 z), (⟨b, o + k * 3 + 1, none⟩, .float .f32 x0), (⟨b, o + (k + 1) * 3 + 1, none⟩, .float .f32 x1)] (fun _ _ _ => False) [] (by kernel_rfl) (by kernel_rfl) (by kernel_rfl) ⟨⟨by simp [Held, go_sem, *], by (repeat (first | assumption | (with_reducible exact Below.refl _ _) | (with_reducible refine Below.drewN ?_ _) | (with_reducible refine Below.drew ?_) | (with_reducible refine Below.allocS ?_ _) | ((with_reducible refine Below.setCell ?_ ?_ _); rotate_left; focus (first | omega | (simp; done) | (simp; omega))) | (with_reducible refine Below.step ?_ (by assumption))))⟩, by (first | (simp; done) | (simp; omega) | omega)⟩ ?_
        repeat (first | (first | (refine calmA_plain rfl rfl ?_ (fun K hK w1 hC => ?_); (focus (intro _ _; simp [RA]; done)); have hC' := hC.1.1; simp only [Held, and_true] at hC'; go_wp2_with (first | (refine wpList_fbin rfl rfl rfl rfl rfl (fun r n hr => ?_)) | (refine wpList_widen rfl rfl Try.underlying85 Try.underlying23 rfl (fun r n hr => ?_))); refine ⟨rfl, (by first | exact Below.refl _ _ | exact below_drewN _), hK _ ?_⟩; clear hC hC' hK K w1) | (refine calmA_check rfl rfl rfl ?_ ?_; (focus (intro _ _; simp [RA]; done)))))
        refine calmA_nil ?_
        intro w' hC hF
        have hC' := hC.1.1
        simp only [Held, and_true] at hC'
        have hB3 : Below w.heap.size w w' := by (have hB := hC.1.2; (repeat (first | assumption | (with_reducible exact Below.refl _ _) | (with_reducible refine Below.drewN ?_ _) | (with_reducible refine Below.drew ?_) | (with_reducible refine Below.allocS ?_ _) | ((with_reducible refine Below.setCell ?_ ?_ _); rotate_left; focus (first | omega | (simp; done) | (simp; omega))) | (with_reducible refine Below.step ?_ (by assumption)))))
        have hbx3 : Held [(⟨w.heap.size, 0, none⟩, .slice (some ⟨b, o, none⟩) n cap), (⟨w.heap.size, 1, none⟩, .float .f32 z)] w' := by simp [Held, *]
        go_wp2_with fail
        go_roundw
        case rel => exact ⟨k + 1, .inr hlt, by go_num, all_step HA.out (by rw [HOK.out, hl]; rfl), hB3, hbx3⟩
        case measure => simp [intOf]; omega
      · go_wp2_with fail
        refine region_calmA wr (wr.heap.size) [(⟨w.heap.size, 0, none⟩, .slice (some ⟨b, o, none⟩) n cap), (⟨w.heap.size, 1, none⟩, .float .f32 z), (⟨b, o + k * 3 + 1, none⟩, .float .f32 x0), (⟨b, o + (k + 1) * 3 + 1, none⟩, .float .f32 x1)] (fun _ _ _ => False) [] (by kernel_rfl) (by kernel_rfl) (by kernel_rfl) ⟨⟨by simp [Held, go_sem, *], by (repeat (first | assumption | (with_reducible exact Below.refl _ _) | (with_reducible refine Below.drewN ?_ _) | (with_reducible refine Below.drew ?_) | (with_reducible refine Below.allocS ?_ _) | ((with_reducible refine Below.setCell ?_ ?_ _); rotate_left; focus (first | omega | (simp; done) | (simp; omega))) | (with_reducible refine Below.step ?_ (by assumption))))⟩, by (first | (simp; done) | (simp; omega) | omega)⟩ ?_
        repeat (first | (first | (refine calmA_plain rfl rfl ?_ (fun K hK w1 hC => ?_); (focus (intro _ _; simp [RA]; done)); have hC' := hC.1.1; simp only [Held, and_true] at hC'; go_wp2_with (first | (refine wpList_fbin rfl rfl rfl rfl rfl (fun r n hr => ?_)) | (refine wpList_widen rfl rfl Try.underlying85 Try.underlying23 rfl (fun r n hr => ?_))); refine ⟨rfl, (by first | exact Below.refl _ _ | exact below_drewN _), hK _ ?_⟩; clear hC hC' hK K w1) | (refine calmA_check rfl rfl rfl ?_ ?_; (focus (intro _ _; simp [RA]; done)))))
        refine calmA_nil ?_
        intro w' hC hF
        have hC' := hC.1.1
        simp only [Held, and_true] at hC'
        go_wp2_with fail
        go_ret
        refine ⟨ret_bool ?_, ?_⟩
        · unfold apartB
          rw [upto_false (k := k) (by omega) (by rw [HOK.out, hl]; rfl)]
          rfl
        · (have hB := hC.1.2; (repeat (first | assumption | (with_reducible exact Below.refl _ _) | (with_reducible refine Below.drewN ?_ _) | (with_reducible refine Below.drew ?_) | (with_reducible refine Below.allocS ?_ _) | ((with_reducible refine Below.setCell ?_ ?_ _); rotate_left; focus (first | omega | (simp; done) | (simp; omega))) | (with_reducible refine Below.step ?_ (by assumption)))))
    · have d0 : decide ((k : Int) + 1 < (n : Int)) = false := decide_eq_false (by omega)
      go_wp2_with fail
      go_ret
      refine ⟨ret_bool ?_, ?_⟩
      · unfold apartB
        rw [upto_true (fun j hj => HA.out j (by omega)), hBB.out]
        rfl
      · (repeat (first | assumption | (with_reducible exact Below.refl _ _) | (with_reducible refine Below.drewN ?_ _) | (with_reducible refine Below.drew ?_) | (with_reducible refine Below.allocS ?_ _) | ((with_reducible refine Below.setCell ?_ ?_ _); rotate_left; focus (first | omega | (simp; done) | (simp; omega))) | (with_reducible refine Below.step ?_ (by assumption))))

set_option maxRecDepth 100000 in
set_option maxHeartbeats 4000000 in
theorem implIsApart_any (v : Value) (n : Nat) (l : List Nat) (z : Nat) (w : World) (h : RowAt w v 3 n (fl l)) : Calls Try.prog 22 #[.agg #[v, .float .f32 z]] w (BB (apartB n l z) w) := by
  have H := Lib.hid h
  obtain ⟨h1, h2, ao, cap, rfl, h3⟩ := h
  have H3 := Lib.hid h3
  rw [fl_length] at h1
  have h2' : n ≤ 9223372036854775807 := h2
  clear h3
  go_enter Try.func22, Try.ntmps22
  go_wp2
  go_loopw [3] (fun i wr => ∃ k : Nat, (k = 0 ∨ k < n) ∧ i = .int .i64 ((k : Int) + 1) ∧ (∀ j, j < k → okFast l j = true) ∧ Below w.heap.size w wr ∧ Held [(⟨w.heap.size, 0, none⟩, .slice ao n cap), (⟨w.heap.size, 1, none⟩, .float .f32 z)] wr) (fun i _ => n + 1 - (intOf i).toNat)
  case atStart => exact ⟨0, .inl rfl, rfl, fun j hj => absurd hj (Nat.not_lt_zero _), by (repeat (first | assumption | (with_reducible exact Below.refl _ _) | (with_reducible refine Below.drewN ?_ _) | (with_reducible refine Below.drew ?_) | (with_reducible refine Below.allocS ?_ _) | ((with_reducible refine Below.setCell ?_ ?_ _); rotate_left; focus (first | omega | (simp; done) | (simp; omega))) | (with_reducible refine Below.step ?_ (by assumption)))), by simp [Held, go_sem, *]⟩
  case round =>
    obtain ⟨k, hk, rfl, hall, hbel, hbx⟩ := hrel
    have HA := Lib.hid hall
    have HBX := Lib.hid hbx
    simp only [Held, and_true] at hbx
    clear hall
    by_cases hlt : k + 1 < n
    · have d0 : decide ((k : Int) + 1 < (n : Int)) = true := decide_eq_true (by omega)
      obtain ⟨b, o, rfl, hbl, hcell⟩ := H3.out.resolve_left (by omega)
      have hcw : ∀ j x, (fl l)[j]? = some (.float .f32 x) → wr.cell? ⟨b, o + j, none⟩ = some (.float .f32 x) ∧ wr.frozen? ⟨b, o + j, none⟩ = false := fun j x hx => by
        rw [hbel.cell (p := ⟨b, o + j, none⟩) hbl, hbel.frozen (p := ⟨b, o + j, none⟩) hbl]; exact hcell j _ hx
      have HC := Lib.hid hcw
      clear hcw hcell
      have hbw : b < wr.heap.size := Nat.lt_of_lt_of_le hbl hbel.size
      have hbw2 : ¬ b = wr.heap.size := by omega
      have hbw3 : ¬ b = w.heap.size := by omega
      obtain ⟨x0, hx0⟩ : ∃ x, Hid (l.getD (k * 3 + 1) 0 = x) := ⟨_, rfl⟩
      obtain ⟨x1, hx1⟩ : ∃ x, Hid (l.getD ((k + 1) * 3 + 1) 0 = x) := ⟨_, rfl⟩
      have f0 := HC.out (k * 3 + 1) x0 (by rw [← hx0.out]; exact fl_get (by omega))
      have f1 := HC.out ((k + 1) * 3 + 1) x1 (by rw [← hx1.out]; exact fl_get (by omega))
      simp only [← Nat.add_assoc] at f0 f1
      have HOK : Hid (okFast l k = !gtF .f32 x0 x1) := by show _ = _; unfold okFast; rw [hx0.out, hx1.out]
      cases hl : gtF .f32 x0 x1
      · go_wp2_with fail
        refine region_calmA wr (wr.heap.size) [(⟨w.heap.size, 0, none⟩, .slice (some ⟨b, o, none⟩) n cap), (⟨w.heap.size, 1, none⟩, .float .f32 z), (⟨b, o + k * 3 + 1, none⟩, .float .f32 x0), (⟨b, o + (k + 1) * 3 + 1, none⟩, .float .f32 x1)] (fun _ _ _ => False) [] (by kernel_rfl) (by kernel_rfl) (by kernel_rfl) ⟨⟨by simp [Held, go_sem, *], by (repeat (first | assumption | (with_reducible exact Below.refl _ _) | (with_reducible refine Below.drewN ?_ _) | (with_reducible refine Below.drew ?_) | (with_reducible refine Below.allocS ?_ _) | ((with_reducible refine Below.setCell ?_ ?_ _); rotate_left; focus (first | omega | (simp; done) | (simp; omega))) | (with_reducible refine Below.step ?_ (by assumption))))⟩, by (first | (simp; done) | (simp; omega) | omega)⟩ ?_
        repeat (first | (first | (refine calmA_plain rfl rfl ?_ (fun K hK w1 hC => ?_); (focus (intro _ _; simp [RA]; done)); have hC' := hC.1.1; simp only [Held, and_true] at hC'; go_wp2_with (first | (refine wpList_fbin rfl rfl rfl rfl rfl (fun r n hr => ?_)) | (refine wpList_widen rfl rfl Try.underlying85 Try.underlying23 rfl (fun r n hr => ?_))); refine ⟨rfl, (by first | exact Below.refl _ _ | exact below_drewN _), hK _ ?_⟩; clear hC hC' hK K w1) | (refine calmA_check rfl rfl rfl ?_ ?_; (focus (intro _ _; simp [RA]; done)))))
        refine calmA_nil ?_
        intro w' hC hF
        have hC' := hC.1.1
        simp only [Held, and_true] at hC'
        have hB3 : Below w.heap.size w w' := by (have hB := hC.1.2; (repeat (first | assumption | (with_reducible exact Below.refl _ _) | (with_reducible refine Below.drewN ?_ _) | (with_reducible refine Below.drew ?_) | (with_reducible refine Below.allocS ?_ _) | ((with_reducible refine Below.setCell ?_ ?_ _); rotate_left; focus (first | omega | (simp; done) | (simp; omega))) | (with_reducible refine Below.step ?_ (by assumption)))))
        have hbx3 : Held [(⟨w.heap.size, 0, none⟩, .slice (some ⟨b, o, none⟩) n cap), (⟨w.heap.size, 1, none⟩, .float .f32 z)] w' := by simp [Held, *]
        go_wp2_with fail
        go_roundw
        case rel => exact ⟨k + 1, .inr hlt, by go_num, all_step HA.out (by rw [HOK.out, hl]; rfl), hB3, hbx3⟩
        case measure => simp [intOf]; omega
      · go_wp2_with fail
        refine region_calmA wr (wr.heap.size) [(⟨w.heap.size, 0, none⟩, .slice (some ⟨b, o, none⟩) n cap), (⟨w.heap.size, 1, none⟩, .float .f32 z), (⟨b, o + k * 3 + 1, none⟩, .float .f32 x0), (⟨b, o + (k + 1) * 3 + 1, none⟩, .float .f32 x1)] (fun _ _ _ => False) [] (by kernel_rfl) (by kernel_rfl) (by kernel_rfl) ⟨⟨by simp [Held, go_sem, *], by (repeat (first | assumption | (with_reducible exact Below.refl _ _) | (with_reducible refine Below.drewN ?_ _) | (with_reducible refine Below.drew ?_) | (with_reducible refine Below.allocS ?_ _) | ((with_reducible refine Below.setCell ?_ ?_ _); rotate_left; focus (first | omega | (simp; done) | (simp; omega))) | (with_reducible refine Below.step ?_ (by assumption))))⟩, by (first | (simp; done) | (simp; omega) | omega)⟩ ?_
        repeat (first | (first | (refine calmA_plain rfl rfl ?_ (fun K hK w1 hC => ?_); (focus (intro _ _; simp [RA]; done)); have hC' := hC.1.1; simp only [Held, and_true] at hC'; go_wp2_with (first | (refine wpList_fbin rfl rfl rfl rfl rfl (fun r n hr => ?_)) | (refine wpList_widen rfl rfl Try.underlying85 Try.underlying23 rfl (fun r n hr => ?_))); refine ⟨rfl, (by first | exact Below.refl _ _ | exact below_drewN _), hK _ ?_⟩; clear hC hC' hK K w1) | (refine calmA_check rfl rfl rfl ?_ ?_; (focus (intro _ _; simp [RA]; done)))))
        refine calmA_nil ?_
        intro w' hC hF
        have hC' := hC.1.1
        simp only [Held, and_true] at hC'
        go_wp2_with fail
        go_ret
        refine ⟨ret_bool ?_, ?_⟩
        · unfold apartB
          rw [upto_false (k := k) (by omega) (by rw [HOK.out, hl]; rfl)]
          rfl
        · (have hB := hC.1.2; (repeat (first | assumption | (with_reducible exact Below.refl _ _) | (with_reducible refine Below.drewN ?_ _) | (with_reducible refine Below.drew ?_) | (with_reducible refine Below.allocS ?_ _) | ((with_reducible refine Below.setCell ?_ ?_ _); rotate_left; focus (first | omega | (simp; done) | (simp; omega))) | (with_reducible refine Below.step ?_ (by assumption)))))
    · have d0 : decide ((k : Int) + 1 < (n : Int)) = false := decide_eq_false (by omega)
      go_wp2_with (first | (go_at_call 17; refine (implValidRow_any (.slice ao n cap) n l z _ ?_).mono ?_; (focus (refine RowAt.below H.out ?_; (repeat (first | assumption | (with_reducible exact Below.refl _ _) | (with_reducible refine Below.drewN ?_ _) | (with_reducible refine Below.drew ?_) | (with_reducible refine Below.allocS ?_ _) | ((with_reducible refine Below.setCell ?_ ?_ _); rotate_left; focus (first | omega | (simp; done) | (simp; omega))) | (with_reducible refine Below.step ?_ (by assumption)))); done)); rintro e w1 ⟨rfl, hb⟩))
      go_ret
      refine ⟨ret_bool ?_, ?_⟩
      · unfold apartB
        rw [upto_true (fun j hj => HA.out j (by omega))]
        rfl
      · (repeat (first | assumption | (with_reducible exact Below.refl _ _) | (with_reducible refine Below.drewN ?_ _) | (with_reducible refine Below.drew ?_) | (with_reducible refine Below.allocS ?_ _) | ((with_reducible refine Below.setCell ?_ ?_ _); rotate_left; focus (first | omega | (simp; done) | (simp; omega))) | (with_reducible refine Below.step ?_ (by assumption))))

set_option maxRecDepth 100000 in
set_option maxHeartbeats 8000000 in
theorem lawIsApart_walk (v0 : Value) (n0 : Nat) (l0 : List Nat) (z1 : Nat) (w : World) (h0 : RowAt w v0 3 n0 (fl l0)) (hb0 : ∀ x ∈ l0, x < 4294967296) (hb1 : z1 < 4294967296) : Calls Try.prog 5 #[.agg #[v0, .float .f32 z1]] w fun e w' => e = .returned (.bool true) ∧ Below w.heap.size w w' := by
  have H0 := Lib.hid h0
  have HB0 := Lib.hid hb0
  clear hb0
  have HB1 := Lib.hid hb1
  clear hb1
  clear h0
  go_enter Try.func5, Try.ntmps5
  go_wp2_with fail
  refine (szRow_any v0 n0 (fl l0) z1 (1048576) _ ?_ (by omega)).mono ?_
  · refine RowAt.below H0.out ?_
    (repeat (first | assumption | (with_reducible exact Below.refl _ _) | (with_reducible refine Below.drewN ?_ _) | (with_reducible refine Below.drew ?_) | (with_reducible refine Below.allocS ?_ _) | ((with_reducible refine Below.setCell ?_ ?_ _); rotate_left; focus (first | omega | (simp; done) | (simp; omega))) | (with_reducible refine Below.step ?_ (by assumption))))
  rintro e ws0 ⟨rfl, hcs0⟩
  have hk := Held.below hcs0 (l := [(⟨w.heap.size, 0, none⟩, v0), (⟨w.heap.size, 1, none⟩, .float .f32 z1)]) (by simp [Held, go_sem, *])
  simp only [Held, and_true] at hk
  have hBs0 : Below w.heap.size w ws0 := by (repeat (first | assumption | (with_reducible exact Below.refl _ _) | (with_reducible refine Below.drewN ?_ _) | (with_reducible refine Below.drew ?_) | (with_reducible refine Below.allocS ?_ _) | ((with_reducible refine Below.setCell ?_ ?_ _); rotate_left; focus (first | omega | (simp; done) | (simp; omega))) | (with_reducible refine Below.step ?_ (by assumption))))
  clear hcs0
  by_cases hs0 : n0 ≤ 1048576
  case neg =>
    rw [if_neg hs0]
    go_wp2_with fail
    go_ret
    refine ⟨rfl, ?_⟩
    (repeat (first | assumption | (with_reducible exact Below.refl _ _) | (with_reducible refine Below.drewN ?_ _) | (with_reducible refine Below.drew ?_) | (with_reducible refine Below.allocS ?_ _) | ((with_reducible refine Below.setCell ?_ ?_ _); rotate_left; focus (first | omega | (simp; done) | (simp; omega))) | (with_reducible refine Below.step ?_ (by assumption))))
  rw [if_pos hs0]
  go_wp2_with fail
  refine (toRow_any v0 n0 l0 z1 _ ?_ (by omega)).mono ?_
  · refine RowAt.below H0.out ?_
    (repeat (first | assumption | (with_reducible exact Below.refl _ _) | (with_reducible refine Below.drewN ?_ _) | (with_reducible refine Below.drew ?_) | (with_reducible refine Below.allocS ?_ _) | ((with_reducible refine Below.setCell ?_ ?_ _); rotate_left; focus (first | omega | (simp; done) | (simp; omega))) | (with_reducible refine Below.step ?_ (by assumption))))
  rintro e w1 ⟨g0, rfl, o0, c1⟩
  have hk := Held.below c1 (l := [(⟨w.heap.size, 0, none⟩, v0), (⟨w.heap.size, 1, none⟩, .float .f32 z1)]) (by simp [Held, go_sem, *])
  simp only [Held, and_true] at hk
  have hBw1 : Below w.heap.size w w1 := by (repeat (first | assumption | (with_reducible exact Below.refl _ _) | (with_reducible refine Below.drewN ?_ _) | (with_reducible refine Below.drew ?_) | (with_reducible refine Below.allocS ?_ _) | ((with_reducible refine Below.setCell ?_ ?_ _); rotate_left; focus (first | omega | (simp; done) | (simp; omega))) | (with_reducible refine Below.step ?_ (by assumption))))
  go_wp2_with fail
  refine (specIsApart_any _ n0 l0 z1 _ (ownsRow_rowAt o0)).mono ?_
  rintro e w2 ⟨rfl, c2⟩
  have hk := Held.below c2 (l := [(⟨w.heap.size, 0, none⟩, v0), (⟨w.heap.size, 1, none⟩, .float .f32 z1)]) (by simp [Held, go_sem, *])
  simp only [Held, and_true] at hk
  have hBw2 : Below w.heap.size w w2 := by (repeat (first | assumption | (with_reducible exact Below.refl _ _) | (with_reducible refine Below.drewN ?_ _) | (with_reducible refine Below.drew ?_) | (with_reducible refine Below.allocS ?_ _) | ((with_reducible refine Below.setCell ?_ ?_ _); rotate_left; focus (first | omega | (simp; done) | (simp; omega))) | (with_reducible refine Below.step ?_ (by assumption))))
  clear o0
  go_wp2_with fail
  refine (toRow_any v0 n0 l0 z1 _ ?_ (by omega)).mono ?_
  · refine RowAt.below H0.out ?_
    (repeat (first | assumption | (with_reducible exact Below.refl _ _) | (with_reducible refine Below.drewN ?_ _) | (with_reducible refine Below.drew ?_) | (with_reducible refine Below.allocS ?_ _) | ((with_reducible refine Below.setCell ?_ ?_ _); rotate_left; focus (first | omega | (simp; done) | (simp; omega))) | (with_reducible refine Below.step ?_ (by assumption))))
  rintro e w3 ⟨g0, rfl, o0, c3⟩
  have hk := Held.below c3 (l := [(⟨w.heap.size, 0, none⟩, v0), (⟨w.heap.size, 1, none⟩, .float .f32 z1)]) (by simp [Held, go_sem, *])
  simp only [Held, and_true] at hk
  have hBw3 : Below w.heap.size w w3 := by (repeat (first | assumption | (with_reducible exact Below.refl _ _) | (with_reducible refine Below.drewN ?_ _) | (with_reducible refine Below.drew ?_) | (with_reducible refine Below.allocS ?_ _) | ((with_reducible refine Below.setCell ?_ ?_ _); rotate_left; focus (first | omega | (simp; done) | (simp; omega))) | (with_reducible refine Below.step ?_ (by assumption))))
  have hb3 : ¬ w.heap.size = w3.heap.size := by omega
  go_wp2_with fail
  refine (implIsApart_any _ n0 l0 z1 _ ((ownsRow_rowAt o0).below (by (repeat (first | (with_reducible exact Below.refl _ _) | (with_reducible refine Below.drewN ?_ _) | (with_reducible refine Below.drew ?_) | (with_reducible refine Below.allocS ?_ _) | ((with_reducible refine Below.setCell ?_ ?_ _); rotate_left; focus (first | omega | (simp; done) | (simp; omega)))))))).mono ?_
  rintro e w4 ⟨rfl, c4⟩
  have hk := Held.below c4 (l := [(⟨w.heap.size, 0, none⟩, v0), (⟨w.heap.size, 1, none⟩, .float .f32 z1), (⟨w3.heap.size, 0, none⟩, .slice (some ⟨g0, 0, none⟩) n0 n0), (⟨w3.heap.size, 1, none⟩, .float .f32 z1)]) (by simp [Held, go_sem, *])
  simp only [Held, and_true] at hk
  have hBw4 : Below w.heap.size w w4 := by (repeat (first | assumption | (with_reducible exact Below.refl _ _) | (with_reducible refine Below.drewN ?_ _) | (with_reducible refine Below.drew ?_) | (with_reducible refine Below.allocS ?_ _) | ((with_reducible refine Below.setCell ?_ ?_ _); rotate_left; focus (first | omega | (simp; done) | (simp; omega))) | (with_reducible refine Below.step ?_ (by assumption))))
  have q4 : Below w3.heap.size w3 w4 := by
    refine Below.step ?_ c4
    (repeat (first | (with_reducible exact Below.refl _ _) | (with_reducible refine Below.drewN ?_ _) | (with_reducible refine Below.drew ?_) | (with_reducible refine Below.allocS ?_ _) | ((with_reducible refine Below.setCell ?_ ?_ _); rotate_left; focus (first | omega | (simp; done) | (simp; omega)))))
  have R0 := Lib.hid ((ownsRow_rowAt o0).below q4)
  clear o0
  go_wp2_with fail
  have hst : stableV [(2, 24, (fun v w => ∃ s0, v = .agg #[s0, .float .f32 z1] ∧ RowAt w s0 3 n0 (fl l0)))] := by
    intro q hq
    obtain rfl := List.mem_singleton.1 hq
    intro v w w' hb hh
    obtain ⟨s0, rfl, r0⟩ := hh; exact ⟨s0, rfl, r0.below hb⟩
  refine region_calmV w4 [(⟨w.heap.size, 0, none⟩, v0), (⟨w.heap.size, 1, none⟩, .float .f32 z1), (⟨w3.heap.size, 0, none⟩, .slice (some ⟨g0, 0, none⟩) n0 n0), (⟨w3.heap.size, 1, none⟩, .float .f32 z1)] (fun f _ v => (f = 16 ∧ ∃ s0, v = .agg #[s0, .float .f32 z1]) ∨ (f = 18 ∧ v = .bool true)) [(2, 24, (fun v w => ∃ s0, v = .agg #[s0, .float .f32 z1] ∧ RowAt w s0 3 n0 (fl l0)))] (by kernel_rfl) (by kernel_rfl) (by kernel_rfl) ⟨by simp [Held, go_sem, *], by (repeat (first | assumption | (with_reducible exact Below.refl _ _) | (with_reducible refine Below.drewN ?_ _) | (with_reducible refine Below.drew ?_) | (with_reducible refine Below.allocS ?_ _) | ((with_reducible refine Below.setCell ?_ ?_ _); rotate_left; focus (first | omega | (simp; done) | (simp; omega))) | (with_reducible refine Below.step ?_ (by assumption))))⟩ ?_
  repeat (first | (first | (refine calmV_plain hst rfl rfl ?_ (fun K hK w1 hC => ?_); (focus (intro _ _; simp [RVF]; done)); have hC' := hC.1; simp only [Held, and_true] at hC'; go_wp2_with (first | (refine wpList_fbin rfl rfl rfl rfl rfl (fun r n hr => ?_)) | (refine wpList_widen rfl rfl Try.underlying85 Try.underlying23 rfl (fun r n hr => ?_))); refine ⟨rfl, (by first | exact Below.refl _ _ | exact below_drewN _), hK _ ?_⟩; clear hC hC' hK K w1) | (refine calmV_check rfl rfl rfl ?_ ?_; (focus (intro _ _; simp [RVF]; done))) | (refine calmV_skip rfl ?_ ?_; (focus (intro _ _; simp [RVF]; done)); simp [Act.put])) | (refine calmV_call (f := 16) (args := _) hst rfl (by (intro w1; simp [execOp, resolve, invoke, go_sem]; with_reducible rfl)) (fun w1 hC hD => ?_) ?_; (focus (refine (toRow_any v0 n0 l0 z1 _ ?_ (by omega)).mono ?_; (focus (refine RowAt.below H0.out ?_; have hB9 := hC.2; (repeat (first | assumption | (with_reducible exact Below.refl _ _) | (with_reducible refine Below.drewN ?_ _) | (with_reducible refine Below.drew ?_) | (with_reducible refine Below.allocS ?_ _) | ((with_reducible refine Below.setCell ?_ ?_ _); rotate_left; focus (first | omega | (simp; done) | (simp; omega))) | (with_reducible refine Below.step ?_ (by assumption)))); done)); rintro e w2 ⟨g'0, rfl, o'0, hb2⟩; exact ⟨_, rfl, .inl ⟨rfl, _, rfl⟩, (by simp [RVF, Act.put, Act.eval]; exact ownsRow_rowAt o'0), hb2⟩)); (intro v hv; simp at hv; obtain ⟨s0, rfl⟩ := hv)) | (refine calmV_call (f := 18) (args := _) hst rfl (by (intro w1; simp [execOp, resolve, invoke, go_sem]; with_reducible rfl)) (fun w1 hC hD => ?_) ?_; (focus (have hf := RVF_get (depV hD (ia := 2) (by kernel_rfl)) (List.mem_singleton.2 rfl); simp [Act.put, Act.eval] at hf; refine (eqRow_any _ _ n0 l0 l0 z1 z1 _ ?_ ?_ rfl rfl).mono ?_; (focus (exact R0.out.below hC.2)); (focus (exact hf)); rintro e w2 ⟨rfl, hb2⟩; exact ⟨_, rfl, .inr ⟨rfl, rfl⟩, (by simp [RVF]), hb2⟩)); (intro v hv; simp at hv; subst hv)))
  refine calmV_nil ?_
  intro w' hC hF
  have hC' := hC.1
  simp only [Held, and_true] at hC'
  go_wp2_with fail
  go_ret
  refine ⟨rfl, ?_⟩
  have hB := hC.2
  (repeat (first | assumption | (with_reducible exact Below.refl _ _) | (with_reducible refine Below.drewN ?_ _) | (with_reducible refine Below.drew ?_) | (with_reducible refine Below.allocS ?_ _) | ((with_reducible refine Below.setCell ?_ ?_ _); rotate_left; focus (first | omega | (simp; done) | (simp; omega))) | (with_reducible refine Below.step ?_ (by assumption))))

end Go.Proofs.Ytbmabpnolheghaa
