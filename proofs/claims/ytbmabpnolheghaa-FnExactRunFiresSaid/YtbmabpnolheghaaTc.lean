/-
  The walks of clocks' pulls.
-/
import Derived.Test.YtbmabpnolheghaaTb
import Derived.Test.YtbmabpnolheghaaTa
import Derived.Test.YtbmabpnolheghaaWp
import Derived.Test.YtbmabpnolheghaaCz
set_option linter.unusedVariables false
set_option linter.unusedSimpArgs false
namespace Go.Proofs.Ytbmabpnolheghaa
open Go.RowKit

/-- From the least to the greatest. -/
def inZ (n lo hi : Int) : Bool := decide (lo ≤ n) && decide (n ≤ hi)
/-- What the first 'k' clocks pull at clock 'i'. -/
def pullS (n : Nat) (l lk : List Nat) (i : Nat) : Nat → Nat
  | 0 => 0
  | k + 1 => fbin .add .f32 (pullS n l lk i k) (fbin .mul .f32 (cn .f32 (lk.getD (i * n + k) 0)) (sineQ (fbin .sub .f32 (cn .f32 (l.getD (k * 2) 0)) (cn .f32 (l.getD (i * 2) 0)))))
theorem cn_pullS (n : Nat) (l lk : List Nat) (i : Nat) : ∀ k, cn .f32 (pullS n l lk i k) = pullS n l lk i k
  | 0 => cn_zero
  | k + 1 => cn_fbin ..
theorem sq_bound {i n : Nat} (hi : i < n) : i * n + n ≤ n * n := by
  have h : (i + 1) * n ≤ n * n := Nat.mul_le_mul_right _ hi
  rw [Nat.add_mul, Nat.one_mul] at h
  exact h
theorem sq_small {n : Nat} (h : n ≤ 12) : n * n ≤ 144 := Nat.mul_le_mul h h

theorem l00InZ_any (n lo hi : Int) (w : World) : Calls Try.prog 101 #[.int .i64 n, .int .i64 lo, .int .i64 hi] w fun e w' => e = .returned (.bool (inZ n lo hi)) ∧ w' = w := by
  cases h1 : decide (lo ≤ n) <;> cases h2 : decide (n ≤ hi)
  all_goals
    go_enter Try.func101, Try.ntmps101
    go_wp2
    go_ret
    exact ⟨ret_bool (by unfold inZ; rw [h1, h2]; rfl), rfl⟩

theorem inZ_any (n lo hi : Int) (w : World) : Calls Try.prog 62 #[.int .i64 n, .int .i64 lo, .int .i64 hi] w fun e w' => e = .returned (.bool (inZ n lo hi)) ∧ w' = w := by
  cases h1 : decide (lo ≤ n) <;> cases h2 : decide (n ≤ hi)
  all_goals
    go_enter Try.func62, Try.ntmps62
    go_wp2
    go_ret
    exact ⟨ret_bool (by unfold inZ; rw [h1, h2]; rfl), rfl⟩

theorem many_any (v v' : Value) (n m : Nat) (l : List Value) (p : Nat) (w : World) (h : RowAt w v 2 n l) (hp : Held [(⟨p, 0, none⟩, v), (⟨p, 1, none⟩, v')] w) : Calls Try.prog 158 #[.pointer (some ⟨p, 0, none⟩)] w fun e w' => e = .returned (.int .i64 (n : Int)) ∧ w' = w := by
  obtain ⟨h1, h2, ao, cap, rfl, h3⟩ := h
  have h2' : n ≤ 9223372036854775807 := h2
  clear h3
  simp only [Held, and_true] at hp
  go_enter Try.func158, Try.ntmps158
  go_wp2
  go_ret
  exact ⟨rfl, rfl⟩



set_option maxRecDepth 100000 in
set_option maxHeartbeats 8000000 in
theorem l05Pull_any (v v' : Value) (n m : Nat) (l lk : List Nat) (p i : Nat) (w : World) (h : RowAt w v 2 n (fl l)) (h' : RowAt w v' 1 m (fl lk)) (hp : Held [(⟨p, 0, none⟩, v), (⟨p, 1, none⟩, v')] w) (hi : i < n) (hn : n ≤ 12) (hm : m = n * n) : Calls Try.prog 144 #[.pointer (some ⟨p, 0, none⟩), .int .i64 (i : Int)] w (BF .f32 (pullS n l lk i n) w) := by
  have HR := Lib.hid h
  have HR' := Lib.hid h'
  have hsq := sq_small hn
  have hib := sq_bound hi
  have hn0 : 0 < n := by omega
  have hm0 : ¬ m = 0 := by have := Nat.mul_pos hn0 hn0; omega
  obtain ⟨h1, h2, ao, cap, rfl, h3⟩ := h
  obtain ⟨b, o, rfl, hbl, hcell⟩ := h3.resolve_left (by omega)
  obtain ⟨g1, g2, ao', cap', rfl, g3⟩ := h'
  obtain ⟨b', o', rfl, hbl', hcell'⟩ := g3.resolve_left hm0
  clear h3 g3
  rw [fl_length] at h1 g1
  have HC := Lib.hid hcell
  have HC' := Lib.hid hcell'
  clear hcell hcell'
  obtain ⟨q, hq⟩ : ∃ q, q = i * n := ⟨_, rfl⟩
  have hqi : (i : Int) * (n : Int) = (q : Int) := by rw [hq]; exact (Int.natCast_mul i n).symm
  have hqn : q + n ≤ m := by omega
  have hm144 : m ≤ 144 := by omega
  have HQ : Hid (q = i * n) := hq
  have HM : Hid (m = n * n) := hm
  have HL : Hid (l.length = n * 2) := h1
  have HL' : Hid (lk.length = m) := by show _ = _; omega
  clear hq hm hib hsq hm0 h1 g1
  have HP := Lib.hid hp
  simp only [Held, and_true] at hp
  go_enter Try.func144, Try.ntmps144
  go_wp2_with fail
  go_loopw [7, 6] (fun jv sv wr => ∃ k : Nat, k ≤ n ∧ jv = .int .i64 (k : Int) ∧ ∃ s, sv = .float .f32 s ∧ cn .f32 s = pullS n l lk i k ∧ Below w.heap.size w wr) (fun jv _ _ => n - (intOf jv).toNat)
  case atStart => exact ⟨0, Nat.zero_le _, rfl, 0, rfl, cn_zero, by (repeat (first | assumption | (with_reducible exact Below.refl _ _) | (with_reducible refine Below.drewN ?_ _) | (with_reducible refine Below.drew ?_) | (with_reducible refine Below.allocS ?_ _) | ((with_reducible refine Below.setCell ?_ ?_ _); rotate_left; focus (first | omega | (simp; done) | (simp; omega))) | (with_reducible refine Below.step ?_ (by assumption))))⟩
  case round =>
    obtain ⟨k, hk, rfl, s, rfl, hs, hB⟩ := hrel
    have HS := Lib.hid hs
    clear hs
    have hk2 := Held.below hB HP.out
    simp only [Held, and_true] at hk2
    by_cases hlt : k < n
    · have d1 : decide ((k : Int) < (n : Int)) = true := decide_eq_true (by omega)
      obtain ⟨x0, hx0⟩ : ∃ x, Hid (l.getD (k * 2) 0 = x) := ⟨_, rfl⟩
      obtain ⟨x0', hx0'⟩ : ∃ x, Hid (l.getD (k * 2 + 1) 0 = x) := ⟨_, rfl⟩
      obtain ⟨x1, hx1⟩ : ∃ x, Hid (l.getD (i * 2) 0 = x) := ⟨_, rfl⟩
      obtain ⟨y, hy⟩ : ∃ x, Hid (lk.getD (q + k) 0 = x) := ⟨_, rfl⟩
      have f0 := HC.out (k * 2) (.float .f32 x0) (by rw [← hx0.out]; exact fl_get (by rw [HL.out]; omega))
      have f0' := HC.out (k * 2 + 1) (.float .f32 x0') (by rw [← hx0'.out]; exact fl_get (by rw [HL.out]; omega))
      have f1 := HC.out (i * 2) (.float .f32 x1) (by rw [← hx1.out]; exact fl_get (by rw [HL.out]; omega))
      have f2 := HC'.out (q + k) (.float .f32 y) (by rw [← hy.out]; exact fl_get (by rw [HL'.out]; omega))
      simp only [← Nat.add_assoc] at f0'
      have hc := Held.below hB (l := [(⟨b, o + k * 2, none⟩, .float .f32 x0), (⟨b, o + k * 2 + 1, none⟩, .float .f32 x0'), (⟨b, o + i * 2, none⟩, .float .f32 x1), (⟨b', o' + (q + k), none⟩, .float .f32 y)]) ⟨⟨hbl, f0⟩, ⟨hbl, f0'⟩, ⟨hbl, f1⟩, ⟨hbl', f2⟩, trivial⟩
      have HCE := Lib.hid hc
      simp only [Held, and_true] at hc
      clear f0 f0' f1 f2
      go_wp2_with fail
      refine region_calmA wr (wr.heap.size) [(⟨p, 0, none⟩, .slice (some ⟨b, o, none⟩) n cap), (⟨p, 1, none⟩, .slice (some ⟨b', o', none⟩) m cap'), (⟨b, o + k * 2, none⟩, .float .f32 x0), (⟨b, o + i * 2, none⟩, .float .f32 x1), (⟨b', o' + (q + k), none⟩, .float .f32 y)] (fun f args v => ∃ r, v = .float .f32 r ∧ cn .f32 r = sineQ (cn .f32 (argF args 0 0))) [] (by kernel_rfl) (by kernel_rfl) (by kernel_rfl) ⟨⟨by simp [Held, go_sem, *], by (repeat (first | (with_reducible exact Below.refl _ _) | (with_reducible refine Below.drewN ?_ _) | (with_reducible refine Below.drew ?_) | (with_reducible refine Below.allocS ?_ _) | ((with_reducible refine Below.setCell ?_ ?_ _); rotate_left; focus (first | omega | (simp; done) | (simp; omega))) | (with_reducible refine Below.step ?_ (by assumption))))⟩, by (first | (simp; done) | (simp; omega) | omega)⟩ ?_
      repeat (first | (first | (refine calmA_plain rfl rfl ?_ (fun K hK w1 hC => ?_); (focus (intro _ _; simp [RA]; done)); have hC' := hC.1.1; simp only [Held, and_true] at hC'; go_wp2_with (first | (refine wpList_fbin rfl rfl rfl rfl rfl (fun r n9 hr => ?_)) | (refine wpList_widen rfl rfl Try.underlying85 Try.underlying23 rfl (fun r n9 hr => ?_))); refine ⟨rfl, (by first | exact Below.refl _ _ | exact below_drewN _), hK _ ?_⟩; clear hC hC' hK K w1) | (refine calmA_check rfl rfl rfl ?_ ?_; (focus (intro _ _; simp [RA]; done)))) | (refine calmA_call (f := 146) (args := _) rfl ?_ (by (intro w1; simp [execOp, resolve, invoke, go_sem]; with_reducible rfl)) (fun w1 hC => ?_) ?_; (focus (intro _ _; simp [RA]; done)); (focus (refine (l01Sine_any _ _).mono ?_; rintro e w2 ⟨r, n9, rfl, hq, rfl⟩; exact ⟨_, rfl, ⟨r, rfl, by simp [argF]; exact hq⟩, below_drewN _⟩)); rintro v hv; simp [argF] at hv; obtain ⟨r, rfl, hq⟩ := hv; have HQ2 := Lib.hid hq; clear hq))
      refine calmA_nil ?_
      intro w' hC hF
      have hC' := hC.1.1
      simp only [Held, and_true] at hC'
      have hBw : Below w.heap.size w w' := by (have hB := hC.1.2; (repeat (first | assumption | (with_reducible exact Below.refl _ _) | (with_reducible refine Below.drewN ?_ _) | (with_reducible refine Below.drew ?_) | (with_reducible refine Below.allocS ?_ _) | ((with_reducible refine Below.setCell ?_ ?_ _); rotate_left; focus (first | omega | (simp; done) | (simp; omega))) | (with_reducible refine Below.step ?_ (by assumption)))))
      clear hC hF
      go_wp2_with fail
      go_roundw
      case rel =>
        refine ⟨k + 1, hlt, by go_num, _, rfl, ?_, by (repeat (first | assumption | (with_reducible exact Below.refl _ _) | (with_reducible refine Below.drewN ?_ _) | (with_reducible refine Below.drew ?_) | (with_reducible refine Below.allocS ?_ _) | ((with_reducible refine Below.setCell ?_ ?_ _); rotate_left; focus (first | omega | (simp; done) | (simp; omega))) | (with_reducible refine Below.step ?_ (by assumption))))⟩
        show _ = fbin .add .f32 (pullS n l lk i k) (fbin .mul .f32 (cn .f32 (lk.getD (i * n + k) 0)) (sineQ (fbin .sub .f32 (cn .f32 (l.getD (k * 2) 0)) (cn .f32 (l.getD (i * 2) 0)))))
        rw [← HQ.out, hx0.out, hx1.out, hy.out]
        simp only [Hid] at *
        simp only [*]
      case measure => simp [intOf]; omega
    · obtain rfl : k = n := by omega
      have d1 : decide ((k : Int) < (k : Int)) = false := decide_eq_false (by omega)
      go_wp2_with fail
      go_ret
      exact ⟨_, rfl, HS.out, by (repeat (first | assumption | (with_reducible exact Below.refl _ _) | (with_reducible refine Below.drewN ?_ _) | (with_reducible refine Below.drew ?_) | (with_reducible refine Below.allocS ?_ _) | ((with_reducible refine Below.setCell ?_ ?_ _); rotate_left; focus (first | omega | (simp; done) | (simp; omega))) | (with_reducible refine Below.step ?_ (by assumption))))⟩

set_option maxRecDepth 100000 in
set_option maxHeartbeats 8000000 in
theorem pullC_any (v v' : Value) (n m : Nat) (l lk : List Nat) (p i : Nat) (w : World) (h : RowAt w v 2 n (fl l)) (h' : RowAt w v' 1 m (fl lk)) (hp : Held [(⟨p, 0, none⟩, v), (⟨p, 1, none⟩, v')] w) (hi : i < n) (hn : n ≤ 12) (hm : m = n * n) : Calls Try.prog 171 #[.pointer (some ⟨p, 0, none⟩), .int .i64 (i : Int)] w (BF .f32 (pullS n l lk i n) w) := by
  have HR := Lib.hid h
  have HR' := Lib.hid h'
  have hsq := sq_small hn
  have hib := sq_bound hi
  have hn0 : 0 < n := by omega
  have hm0 : ¬ m = 0 := by have := Nat.mul_pos hn0 hn0; omega
  obtain ⟨h1, h2, ao, cap, rfl, h3⟩ := h
  obtain ⟨b, o, rfl, hbl, hcell⟩ := h3.resolve_left (by omega)
  obtain ⟨g1, g2, ao', cap', rfl, g3⟩ := h'
  obtain ⟨b', o', rfl, hbl', hcell'⟩ := g3.resolve_left hm0
  clear h3 g3
  rw [fl_length] at h1 g1
  have HC := Lib.hid hcell
  have HC' := Lib.hid hcell'
  clear hcell hcell'
  obtain ⟨q, hq⟩ : ∃ q, q = i * n := ⟨_, rfl⟩
  have hqi : (i : Int) * (n : Int) = (q : Int) := by rw [hq]; exact (Int.natCast_mul i n).symm
  have hqn : q + n ≤ m := by omega
  have hm144 : m ≤ 144 := by omega
  have HQ : Hid (q = i * n) := hq
  have HM : Hid (m = n * n) := hm
  have HL : Hid (l.length = n * 2) := h1
  have HL' : Hid (lk.length = m) := by show _ = _; omega
  clear hq hm hib hsq hm0 h1 g1
  have HP := Lib.hid hp
  simp only [Held, and_true] at hp
  go_enter Try.func171, Try.ntmps171
  go_wp2_with fail
  go_loopw [13, 5] (fun jv sv wr => ∃ k : Nat, k ≤ n ∧ jv = .int .i64 (k : Int) ∧ ∃ s, sv = .float .f32 s ∧ cn .f32 s = pullS n l lk i k ∧ Below w.heap.size w wr) (fun jv _ _ => n - (intOf jv).toNat)
  case atStart => exact ⟨0, Nat.zero_le _, rfl, 0, rfl, cn_zero, by (repeat (first | assumption | (with_reducible exact Below.refl _ _) | (with_reducible refine Below.drewN ?_ _) | (with_reducible refine Below.drew ?_) | (with_reducible refine Below.allocS ?_ _) | ((with_reducible refine Below.setCell ?_ ?_ _); rotate_left; focus (first | omega | (simp; done) | (simp; omega))) | (with_reducible refine Below.step ?_ (by assumption))))⟩
  case round =>
    obtain ⟨k, hk, rfl, s, rfl, hs, hB⟩ := hrel
    have HS := Lib.hid hs
    clear hs
    have hk2 := Held.below hB HP.out
    simp only [Held, and_true] at hk2
    by_cases hlt : k < n
    · have d1 : decide ((k : Int) < (n : Int)) = true := decide_eq_true (by omega)
      obtain ⟨x0, hx0⟩ : ∃ x, Hid (l.getD (k * 2) 0 = x) := ⟨_, rfl⟩
      obtain ⟨x0', hx0'⟩ : ∃ x, Hid (l.getD (k * 2 + 1) 0 = x) := ⟨_, rfl⟩
      obtain ⟨x1, hx1⟩ : ∃ x, Hid (l.getD (i * 2) 0 = x) := ⟨_, rfl⟩
      obtain ⟨y, hy⟩ : ∃ x, Hid (lk.getD (q + k) 0 = x) := ⟨_, rfl⟩
      have f0 := HC.out (k * 2) (.float .f32 x0) (by rw [← hx0.out]; exact fl_get (by rw [HL.out]; omega))
      have f0' := HC.out (k * 2 + 1) (.float .f32 x0') (by rw [← hx0'.out]; exact fl_get (by rw [HL.out]; omega))
      have f1 := HC.out (i * 2) (.float .f32 x1) (by rw [← hx1.out]; exact fl_get (by rw [HL.out]; omega))
      have f2 := HC'.out (q + k) (.float .f32 y) (by rw [← hy.out]; exact fl_get (by rw [HL'.out]; omega))
      simp only [← Nat.add_assoc] at f0'
      have hc := Held.below hB (l := [(⟨b, o + k * 2, none⟩, .float .f32 x0), (⟨b, o + k * 2 + 1, none⟩, .float .f32 x0'), (⟨b, o + i * 2, none⟩, .float .f32 x1), (⟨b', o' + (q + k), none⟩, .float .f32 y)]) ⟨⟨hbl, f0⟩, ⟨hbl, f0'⟩, ⟨hbl, f1⟩, ⟨hbl', f2⟩, trivial⟩
      have HCE := Lib.hid hc
      simp only [Held, and_true] at hc
      clear f0 f0' f1 f2
      go_wp2_with fail
      refine region_calmA wr (wr.heap.size + 1) [(⟨p, 0, none⟩, .slice (some ⟨b, o, none⟩) n cap), (⟨p, 1, none⟩, .slice (some ⟨b', o', none⟩) m cap'), (⟨b, o + i * 2, none⟩, .float .f32 x1), (⟨b', o' + (q + k), none⟩, .float .f32 y), (⟨wr.heap.size, 0, none⟩, .float .f32 x0), (⟨wr.heap.size, 1, none⟩, .float .f32 x0')] (fun f args v => if f = 158 then v = .int .i64 (n : Int) else ∃ r, v = .float .f32 r ∧ cn .f32 r = sineQ (cn .f32 (argF args 0 0))) [] (by kernel_rfl) (by kernel_rfl) (by kernel_rfl) ⟨⟨by simp [Held, go_sem, *], by (repeat (first | (with_reducible exact Below.refl _ _) | (with_reducible refine Below.drewN ?_ _) | (with_reducible refine Below.drew ?_) | (with_reducible refine Below.allocS ?_ _) | ((with_reducible refine Below.setCell ?_ ?_ _); rotate_left; focus (first | omega | (simp; done) | (simp; omega))) | (with_reducible refine Below.step ?_ (by assumption))))⟩, by (first | (simp; done) | (simp; omega) | omega)⟩ ?_
      repeat (first | (first | (refine calmA_plain rfl rfl ?_ (fun K hK w1 hC => ?_); (focus (intro _ _; simp [RA]; done)); have hC' := hC.1.1; simp only [Held, and_true] at hC'; go_wp2_with (first | (refine wpList_fbin rfl rfl rfl rfl rfl (fun r n9 hr => ?_)) | (refine wpList_widen rfl rfl Try.underlying85 Try.underlying23 rfl (fun r n9 hr => ?_))); refine ⟨rfl, (by first | exact Below.refl _ _ | exact below_drewN _), hK _ ?_⟩; clear hC hC' hK K w1) | (refine calmA_check rfl rfl rfl ?_ ?_; (focus (intro _ _; simp [RA]; done)))) | (refine calmA_call (f := 158) (args := _) rfl ?_ (by (intro w1; simp [execOp, resolve, invoke, go_sem]; with_reducible rfl)) (fun w1 hC => ?_) ?_; (focus (intro _ _; simp [RA]; done)); (focus (have hC' := hC.1.1; simp only [Held, and_true] at hC'; refine (many_any _ (.slice (some ⟨b', o', none⟩) m cap') n m _ p _ (HR.out.below (by have hB9 := hC.1.2; (repeat (first | assumption | (with_reducible exact Below.refl _ _) | (with_reducible refine Below.drewN ?_ _) | (with_reducible refine Below.drew ?_) | (with_reducible refine Below.allocS ?_ _) | ((with_reducible refine Below.setCell ?_ ?_ _); rotate_left; focus (first | omega | (simp; done) | (simp; omega))) | (with_reducible refine Below.step ?_ (by assumption)))))) (by simp [Held, *])).mono ?_; rintro e w2 ⟨rfl, rfl⟩; exact ⟨_, rfl, by simp, Below.refl _ _⟩)); rintro v hv; simp at hv; subst hv) | (refine calmA_call (f := 154) (args := _) rfl ?_ (by (intro w1; simp [execOp, resolve, invoke, go_sem]; with_reducible rfl)) (fun w1 hC => ?_) ?_; (focus (intro _ _; simp [RA]; done)); (focus (refine (SineTurns_any _ _).mono ?_; rintro e w2 ⟨r, n9, rfl, hq, rfl⟩; exact ⟨_, rfl, ⟨r, rfl, by simp [argF]; exact hq⟩, below_drewN _⟩)); rintro v hv; simp [argF] at hv; obtain ⟨r, rfl, hq⟩ := hv; have HQ2 := Lib.hid hq; clear hq))
      refine calmA_nil ?_
      intro w' hC hF
      have hC' := hC.1.1
      simp only [Held, and_true] at hC'
      have hBw : Below w.heap.size w w' := by (have hB := hC.1.2; (repeat (first | assumption | (with_reducible exact Below.refl _ _) | (with_reducible refine Below.drewN ?_ _) | (with_reducible refine Below.drew ?_) | (with_reducible refine Below.allocS ?_ _) | ((with_reducible refine Below.setCell ?_ ?_ _); rotate_left; focus (first | omega | (simp; done) | (simp; omega))) | (with_reducible refine Below.step ?_ (by assumption)))))
      clear hC hF
      go_wp2_with fail
      go_roundw
      case rel =>
        refine ⟨k + 1, hlt, by go_num, _, rfl, ?_, by (repeat (first | assumption | (with_reducible exact Below.refl _ _) | (with_reducible refine Below.drewN ?_ _) | (with_reducible refine Below.drew ?_) | (with_reducible refine Below.allocS ?_ _) | ((with_reducible refine Below.setCell ?_ ?_ _); rotate_left; focus (first | omega | (simp; done) | (simp; omega))) | (with_reducible refine Below.step ?_ (by assumption))))⟩
        show _ = fbin .add .f32 (pullS n l lk i k) (fbin .mul .f32 (cn .f32 (lk.getD (i * n + k) 0)) (sineQ (fbin .sub .f32 (cn .f32 (l.getD (k * 2) 0)) (cn .f32 (l.getD (i * 2) 0)))))
        rw [← HQ.out, hx0.out, hx1.out, hy.out]
        simp only [Hid] at *
        simp only [*]
      case measure => simp [intOf]; omega
    · obtain rfl : k = n := by omega
      have d1 : decide ((k : Int) < (k : Int)) = false := decide_eq_false (by omega)
      go_wp2_with fail
      go_ret
      exact ⟨_, rfl, HS.out, by (repeat (first | assumption | (with_reducible exact Below.refl _ _) | (with_reducible refine Below.drewN ?_ _) | (with_reducible refine Below.drew ?_) | (with_reducible refine Below.allocS ?_ _) | ((with_reducible refine Below.setCell ?_ ?_ _); rotate_left; focus (first | omega | (simp; done) | (simp; omega))) | (with_reducible refine Below.step ?_ (by assumption))))⟩



end Go.Proofs.Ytbmabpnolheghaa
