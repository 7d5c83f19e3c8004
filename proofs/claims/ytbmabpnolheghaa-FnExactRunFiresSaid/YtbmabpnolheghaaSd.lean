/-
  The walks of rows of balls: valid ones, and such as are apart.
-/
import Derived.Test.YtbmabpnolheghaaSc
import Derived.Test.YtbmabpnolheghaaCz
set_option linter.unusedVariables false
set_option linter.unusedSimpArgs false
namespace Go.Proofs.Ytbmabpnolheghaa
open Go.RowKit

def inR (n lo hi : Nat) : Bool := decide (lo ≤ n) && decide (n ≤ hi)
def ballB (x y z : Nat) : Bool := finB .f32 x && finB .f32 y && aboveB z
/-- Ball number 'k' is one, and not before the last one. -/
def okBall (l : List Nat) (k : Nat) : Bool := ballB (l.getD (k * 3) 0) (l.getD (k * 3 + 1) 0) (l.getD (k * 3 + 2) 0) && (k == 0 || !ltF .f32 (l.getD (k * 3) 0) (l.getD ((k - 1) * 3) 0))
def upto (p : Nat → Bool) (n : Nat) : Bool := (List.range n).all p
theorem upto_true {p : Nat → Bool} {n : Nat} (h : ∀ j, j < n → p j = true) : upto p n = true := by unfold upto; rw [List.all_eq_true]; intro j hj; exact h j (List.mem_range.1 hj)
theorem upto_false {p : Nat → Bool} {n k : Nat} (hk : k < n) (h : p k = false) : upto p n = false := by
  unfold upto
  rw [List.all_eq_false]
  exact ⟨k, List.mem_range.2 hk, by rw [h]; decide⟩
theorem all_step {p : Nat → Bool} {k : Nat} (h : ∀ j, j < k → p j = true) (hk : p k = true) : ∀ j, j < k + 1 → p j = true := fun j hj => by
  rcases Nat.lt_succ_iff_lt_or_eq.1 hj with h1 | rfl
  · exact h j h1
  · exact hk
theorem inN_any (n lo hi : Nat) (w : World) : Calls Try.prog 62 #[.int .i64 (n : Int), .int .i64 (lo : Int), .int .i64 (hi : Int)] w fun e w' => e = .returned (.bool (inR n lo hi)) ∧ w' = w := by
  have e1 : decide ((lo : Int) ≤ (n : Int)) = decide (lo ≤ n) := by rw [decide_eq_decide]; omega
  have e2 : decide ((n : Int) ≤ (hi : Int)) = decide (n ≤ hi) := by rw [decide_eq_decide]; omega
  cases h1 : decide (lo ≤ n) <;> cases h2 : decide (n ≤ hi)
  all_goals
    rw [h1] at e1
    rw [h2] at e2
    go_enter Try.func62, Try.ntmps62
    go_wp2
    go_ret
    exact ⟨ret_bool (by unfold inR; rw [h1, h2]; first | rfl | simp), rfl⟩
def rowB (n : Nat) (l : List Nat) (z : Nat) : Bool := (inR n 2 16 && shareB z) && upto (okBall l) n

set_option maxRecDepth 100000 in
set_option maxHeartbeats 4000000 in
theorem l06Ball_any (x y z b o : Nat) (w : World) (h0 : w.cell? ⟨b, o, none⟩ = some (.float .f32 x)) (h1 : w.cell? ⟨b, o + 1, none⟩ = some (.float .f32 y)) (h2 : w.cell? ⟨b, o + 2, none⟩ = some (.float .f32 z)) :
    Calls Try.prog 117 #[.pointer (some ⟨b, o, none⟩)] w (RB (ballB x y z) w) := by
  go_enter Try.func117, Try.ntmps117
  go_wp2_with (first | (go_at_call 129; refine (l01Finite_any _ _).mono ?_; rintro e w' ⟨n, rfl, rfl⟩) | (go_at_call 161; refine (l02Above_any _ _).mono ?_; rintro e w' ⟨n, rfl, rfl⟩))
  all_goals
    go_ret
    exact ⟨_, ret_bool (by unfold ballB; simp_all), rfl⟩

set_option maxRecDepth 100000 in
set_option maxHeartbeats 4000000 in
theorem l06Is_any (v : Value) (n : Nat) (l : List Nat) (z p : Nat) (w : World) (h : RowAt w v 3 n (fl l)) (hp : Held [(⟨p, 0, none⟩, v), (⟨p, 1, none⟩, .float .f32 z)] w) :
    Calls Try.prog 58 #[.pointer (some ⟨p, 0, none⟩)] w (BB (rowB n l z) w) := by
  obtain ⟨h1, h2, ao, cap, rfl, h3⟩ := h
  have H3 := Lib.hid h3
  have HP := Lib.hid hp
  rw [fl_length] at h1
  have h2' : n ≤ 9223372036854775807 := h2
  simp only [Held, and_true] at hp
  clear h3
  by_cases ha : n < 2
  · have d1 : decide ((n : Int) < 2) = true := decide_eq_true (by omega)
    go_enter Try.func58, Try.ntmps58
    go_wp2
    go_ret
    exact ⟨ret_bool (by unfold rowB inR; simp [show ¬ 2 ≤ n by omega]), Below.refl _ _⟩
  have d1 : decide ((n : Int) < 2) = false := decide_eq_false (by omega)
  by_cases hb : 16 < n
  · have d2 : decide ((16 : Int) < (n : Int)) = true := decide_eq_true (by omega)
    go_enter Try.func58, Try.ntmps58
    go_wp2
    go_ret
    exact ⟨ret_bool (by unfold rowB inR; simp [show ¬ n ≤ 16 by omega]), Below.refl _ _⟩
  have d2 : decide ((16 : Int) < (n : Int)) = false := decide_eq_false (by omega)
  cases hz : shareB z
  · go_enter Try.func58, Try.ntmps58
    go_wp2_with (first | (go_at_call 116; refine (l06Share_any _ _).mono ?_; rintro e w' ⟨n9, rfl, rfl⟩))
    go_ret
    exact ⟨ret_bool (by unfold rowB; rw [hz]; simp), below_drewN _⟩
  have HI : Hid (rowB n l z = upto (okBall l) n) := by show _ = _; unfold rowB inR; rw [hz]; simp [show 2 ≤ n by omega, show n ≤ 16 by omega]
  go_enter Try.func58, Try.ntmps58
  go_wp2_with (first | (go_at_call 116; refine (l06Share_any _ _).mono ?_; rintro e w' ⟨n9, rfl, rfl⟩))
  go_loopw [3] (fun i wr => ∃ k : Nat, k ≤ n ∧ i = .int .i64 (k : Int) ∧ (∀ j, j < k → okBall l j = true) ∧ Below w.heap.size w wr) (fun i _ => n - (intOf i).toNat)
  case atStart => exact ⟨0, Nat.zero_le _, rfl, fun j hj => absurd hj (Nat.not_lt_zero _), by (repeat (first | assumption | (with_reducible exact Below.refl _ _) | (with_reducible refine Below.drewN ?_ _) | (with_reducible refine Below.drew ?_) | (with_reducible refine Below.allocS ?_ _) | ((with_reducible refine Below.setCell ?_ ?_ _); rotate_left; focus (first | omega | (simp; done) | (simp; omega))) | (with_reducible refine Below.step ?_ (by assumption))))⟩
  case round =>
    obtain ⟨k, hk, rfl, hall, hbel⟩ := hrel
    have HA := Lib.hid hall
    clear hall
    have hp2 := Held.below hbel HP.out
    simp only [Held, and_true] at hp2
    by_cases hlt : k < n
    · obtain ⟨b, o, rfl, hbl, hcell⟩ := H3.out.resolve_left (by omega)
      have hcw : ∀ j x, (fl l)[j]? = some (.float .f32 x) → wr.cell? ⟨b, o + j, none⟩ = some (.float .f32 x) ∧ wr.frozen? ⟨b, o + j, none⟩ = false := fun j x hx => by
        rw [hbel.cell (p := ⟨b, o + j, none⟩) hbl, hbel.frozen (p := ⟨b, o + j, none⟩) hbl]; exact hcell j _ hx
      have HC := Lib.hid hcw
      clear hcw hcell
      have hbw : b < wr.heap.size := Nat.lt_of_lt_of_le hbl hbel.size
      obtain ⟨x0, hx0⟩ : ∃ x, Hid (l.getD (k * 3) 0 = x) := ⟨_, rfl⟩
      obtain ⟨x1, hx1⟩ : ∃ x, Hid (l.getD (k * 3 + 1) 0 = x) := ⟨_, rfl⟩
      obtain ⟨x2, hx2⟩ : ∃ x, Hid (l.getD (k * 3 + 2) 0 = x) := ⟨_, rfl⟩
      have f0 := HC.out (k * 3) x0 (by rw [← hx0.out]; exact fl_get (by omega))
      have f1 := HC.out (k * 3 + 1) x1 (by rw [← hx1.out]; exact fl_get (by omega))
      have f2 := HC.out (k * 3 + 2) x2 (by rw [← hx2.out]; exact fl_get (by omega))
      simp only [← Nat.add_assoc] at f1 f2
      have HOK : Hid (okBall l k = (ballB x0 x1 x2 && (k == 0 || !ltF .f32 x0 (l.getD ((k - 1) * 3) 0)))) := by show _ = _; unfold okBall; rw [hx0.out, hx1.out, hx2.out]
      cases hb1 : ballB x0 x1 x2
      · go_wp2_with fail
        refine region_calmA wr (wr.heap.size) [(⟨p, 0, none⟩, .slice (some ⟨b, o, none⟩) n cap), (⟨p, 1, none⟩, .float .f32 z), (⟨b, o + k * 3, none⟩, .float .f32 x0), (⟨b, o + k * 3 + 1, none⟩, .float .f32 x1), (⟨b, o + k * 3 + 2, none⟩, .float .f32 x2)] (fun _ _ v => v = .bool (ballB x0 x1 x2)) [] (by kernel_rfl) (by kernel_rfl) (by kernel_rfl) ⟨⟨by simp [Held, go_sem, *], by (repeat (first | assumption | (with_reducible exact Below.refl _ _) | (with_reducible refine Below.drewN ?_ _) | (with_reducible refine Below.drew ?_) | (with_reducible refine Below.allocS ?_ _) | ((with_reducible refine Below.setCell ?_ ?_ _); rotate_left; focus (first | omega | (simp; done) | (simp; omega))) | (with_reducible refine Below.step ?_ (by assumption))))⟩, by (first | (simp; done) | (simp; omega) | omega)⟩ ?_
        repeat (first | (first | (refine calmA_plain rfl rfl ?_ (fun K hK w1 hC => ?_); (focus (intro _ _; simp [RA]; done)); have hC' := hC.1.1; simp only [Held, and_true] at hC'; go_wp2_with (first | (refine wpList_fbin rfl rfl rfl rfl rfl (fun r n hr => ?_)) | (refine wpList_widen rfl rfl Try.underlying85 Try.underlying23 rfl (fun r n hr => ?_))); refine ⟨rfl, (by first | exact Below.refl _ _ | exact below_drewN _), hK _ ?_⟩; clear hC hC' hK K w1) | (refine calmA_check rfl rfl rfl ?_ ?_; (focus (intro _ _; simp [RA]; done)))) | (refine calmA_call (f := 117) (args := _) rfl ?_ (by (intro w1; simp [execOp, resolve, invoke, go_sem]; with_reducible rfl)) (fun w1 hC => ?_) ?_; (focus (intro _ _; simp [RA]; done)); (focus (have hC' := hC.1.1; simp only [Held, and_true] at hC'; refine (l06Ball_any x0 x1 x2 _ _ _ ?_ ?_ ?_).mono ?_; (focus (simp [*]; done)); (focus (simp [*]; done)); (focus (simp [*]; done)); rintro e w2 ⟨n9, rfl, rfl⟩; exact ⟨_, rfl, rfl, below_drewN _⟩)); rintro v rfl) | (refine calmA_skip rfl ?_ ?_; (focus (intro _ _; simp [RA]; done)); simp [Act.put]))
        refine calmA_nil ?_
        intro w' hC hF
        have hC' := hC.1.1
        simp only [Held, and_true] at hC'
        go_wp2_with fail
        go_ret
        refine ⟨ret_bool ?_, ?_⟩
        · rw [HI.out, upto_false hlt (by rw [HOK.out, hb1]; rfl)]
        · (have hB := hC.1.2; (repeat (first | assumption | (with_reducible exact Below.refl _ _) | (with_reducible refine Below.drewN ?_ _) | (with_reducible refine Below.drew ?_) | (with_reducible refine Below.allocS ?_ _) | ((with_reducible refine Below.setCell ?_ ?_ _); rotate_left; focus (first | omega | (simp; done) | (simp; omega))) | (with_reducible refine Below.step ?_ (by assumption)))))
      by_cases hk0 : 0 < k
      case neg =>
        have d0 : decide ((0 : Int) < (k : Int)) = false := decide_eq_false (by omega)
        go_wp2_with fail
        refine region_calmA wr (wr.heap.size) [(⟨p, 0, none⟩, .slice (some ⟨b, o, none⟩) n cap), (⟨p, 1, none⟩, .float .f32 z), (⟨b, o + k * 3, none⟩, .float .f32 x0), (⟨b, o + k * 3 + 1, none⟩, .float .f32 x1), (⟨b, o + k * 3 + 2, none⟩, .float .f32 x2)] (fun _ _ v => v = .bool (ballB x0 x1 x2)) [] (by kernel_rfl) (by kernel_rfl) (by kernel_rfl) ⟨⟨by simp [Held, go_sem, *], by (repeat (first | assumption | (with_reducible exact Below.refl _ _) | (with_reducible refine Below.drewN ?_ _) | (with_reducible refine Below.drew ?_) | (with_reducible refine Below.allocS ?_ _) | ((with_reducible refine Below.setCell ?_ ?_ _); rotate_left; focus (first | omega | (simp; done) | (simp; omega))) | (with_reducible refine Below.step ?_ (by assumption))))⟩, by (first | (simp; done) | (simp; omega) | omega)⟩ ?_
        repeat (first | (first | (refine calmA_plain rfl rfl ?_ (fun K hK w1 hC => ?_); (focus (intro _ _; simp [RA]; done)); have hC' := hC.1.1; simp only [Held, and_true] at hC'; go_wp2_with (first | (refine wpList_fbin rfl rfl rfl rfl rfl (fun r n hr => ?_)) | (refine wpList_widen rfl rfl Try.underlying85 Try.underlying23 rfl (fun r n hr => ?_))); refine ⟨rfl, (by first | exact Below.refl _ _ | exact below_drewN _), hK _ ?_⟩; clear hC hC' hK K w1) | (refine calmA_check rfl rfl rfl ?_ ?_; (focus (intro _ _; simp [RA]; done)))) | (refine calmA_call (f := 117) (args := _) rfl ?_ (by (intro w1; simp [execOp, resolve, invoke, go_sem]; with_reducible rfl)) (fun w1 hC => ?_) ?_; (focus (intro _ _; simp [RA]; done)); (focus (have hC' := hC.1.1; simp only [Held, and_true] at hC'; refine (l06Ball_any x0 x1 x2 _ _ _ ?_ ?_ ?_).mono ?_; (focus (simp [*]; done)); (focus (simp [*]; done)); (focus (simp [*]; done)); rintro e w2 ⟨n9, rfl, rfl⟩; exact ⟨_, rfl, rfl, below_drewN _⟩)); rintro v rfl) | (refine calmA_skip rfl ?_ ?_; (focus (intro _ _; simp [RA]; done)); simp [Act.put]))
        refine calmA_nil ?_
        intro w' hC hF
        have hC' := hC.1.1
        simp only [Held, and_true] at hC'
        have hB3 : Below w.heap.size w w' := by (have hB := hC.1.2; (repeat (first | assumption | (with_reducible exact Below.refl _ _) | (with_reducible refine Below.drewN ?_ _) | (with_reducible refine Below.drew ?_) | (with_reducible refine Below.allocS ?_ _) | ((with_reducible refine Below.setCell ?_ ?_ _); rotate_left; focus (first | omega | (simp; done) | (simp; omega))) | (with_reducible refine Below.step ?_ (by assumption)))))
        go_wp2_with fail
        go_roundw
        case rel => exact ⟨k + 1, hlt, by go_num, all_step HA.out (by rw [HOK.out, hb1, show (k == 0) = true by simp; omega]; rfl), hB3⟩
        case measure => simp [intOf]; omega
      have d0 : decide ((0 : Int) < (k : Int)) = true := decide_eq_true (by omega)
      have hkz : (k == 0) = false := by simp; omega
      have HKZ := Lib.hid hkz
      clear hkz
      obtain ⟨y0, hy0⟩ : ∃ x, Hid (l.getD ((k - 1) * 3) 0 = x) := ⟨_, rfl⟩
      have f3 := HC.out ((k - 1) * 3) y0 (by rw [← hy0.out]; exact fl_get (by omega))
      cases hl : ltF .f32 x0 y0
      · go_wp2_with fail
        refine region_calmA wr (wr.heap.size) [(⟨p, 0, none⟩, .slice (some ⟨b, o, none⟩) n cap), (⟨p, 1, none⟩, .float .f32 z), (⟨b, o + k * 3, none⟩, .float .f32 x0), (⟨b, o + k * 3 + 1, none⟩, .float .f32 x1), (⟨b, o + k * 3 + 2, none⟩, .float .f32 x2), (⟨b, o + (k - 1) * 3, none⟩, .float .f32 y0)] (fun _ _ v => v = .bool (ballB x0 x1 x2)) [] (by kernel_rfl) (by kernel_rfl) (by kernel_rfl) ⟨⟨by simp [Held, go_sem, *], by (repeat (first | assumption | (with_reducible exact Below.refl _ _) | (with_reducible refine Below.drewN ?_ _) | (with_reducible refine Below.drew ?_) | (with_reducible refine Below.allocS ?_ _) | ((with_reducible refine Below.setCell ?_ ?_ _); rotate_left; focus (first | omega | (simp; done) | (simp; omega))) | (with_reducible refine Below.step ?_ (by assumption))))⟩, by (first | (simp; done) | (simp; omega) | omega)⟩ ?_
        repeat (first | (first | (refine calmA_plain rfl rfl ?_ (fun K hK w1 hC => ?_); (focus (intro _ _; simp [RA]; done)); have hC' := hC.1.1; simp only [Held, and_true] at hC'; go_wp2_with (first | (refine wpList_fbin rfl rfl rfl rfl rfl (fun r n hr => ?_)) | (refine wpList_widen rfl rfl Try.underlying85 Try.underlying23 rfl (fun r n hr => ?_))); refine ⟨rfl, (by first | exact Below.refl _ _ | exact below_drewN _), hK _ ?_⟩; clear hC hC' hK K w1) | (refine calmA_check rfl rfl rfl ?_ ?_; (focus (intro _ _; simp [RA]; done)))) | (refine calmA_call (f := 117) (args := _) rfl ?_ (by (intro w1; simp [execOp, resolve, invoke, go_sem]; with_reducible rfl)) (fun w1 hC => ?_) ?_; (focus (intro _ _; simp [RA]; done)); (focus (have hC' := hC.1.1; simp only [Held, and_true] at hC'; refine (l06Ball_any x0 x1 x2 _ _ _ ?_ ?_ ?_).mono ?_; (focus (simp [*]; done)); (focus (simp [*]; done)); (focus (simp [*]; done)); rintro e w2 ⟨n9, rfl, rfl⟩; exact ⟨_, rfl, rfl, below_drewN _⟩)); rintro v rfl) | (refine calmA_skip rfl ?_ ?_; (focus (intro _ _; simp [RA]; done)); simp [Act.put]))
        refine calmA_nil ?_
        intro w' hC hF
        have hC' := hC.1.1
        simp only [Held, and_true] at hC'
        have hB3 : Below w.heap.size w w' := by (have hB := hC.1.2; (repeat (first | assumption | (with_reducible exact Below.refl _ _) | (with_reducible refine Below.drewN ?_ _) | (with_reducible refine Below.drew ?_) | (with_reducible refine Below.allocS ?_ _) | ((with_reducible refine Below.setCell ?_ ?_ _); rotate_left; focus (first | omega | (simp; done) | (simp; omega))) | (with_reducible refine Below.step ?_ (by assumption)))))
        go_wp2_with fail
        go_roundw
        case rel => exact ⟨k + 1, hlt, by go_num, all_step HA.out (by rw [HOK.out, hb1, HKZ.out, hy0.out, hl]; rfl), hB3⟩
        case measure => simp [intOf]; omega
      · go_wp2_with fail
        refine region_calmA wr (wr.heap.size) [(⟨p, 0, none⟩, .slice (some ⟨b, o, none⟩) n cap), (⟨p, 1, none⟩, .float .f32 z), (⟨b, o + k * 3, none⟩, .float .f32 x0), (⟨b, o + k * 3 + 1, none⟩, .float .f32 x1), (⟨b, o + k * 3 + 2, none⟩, .float .f32 x2), (⟨b, o + (k - 1) * 3, none⟩, .float .f32 y0)] (fun _ _ v => v = .bool (ballB x0 x1 x2)) [] (by kernel_rfl) (by kernel_rfl) (by kernel_rfl) ⟨⟨by simp [Held, go_sem, *], by (repeat (first | assumption | (with_reducible exact Below.refl _ _) | (with_reducible refine Below.drewN ?_ _) | (with_reducible refine Below.drew ?_) | (with_reducible refine Below.allocS ?_ _) | ((with_reducible refine Below.setCell ?_ ?_ _); rotate_left; focus (first | omega | (simp; done) | (simp; omega))) | (with_reducible refine Below.step ?_ (by assumption))))⟩, by (first | (simp; done) | (simp; omega) | omega)⟩ ?_
        repeat (first | (first | (refine calmA_plain rfl rfl ?_ (fun K hK w1 hC => ?_); (focus (intro _ _; simp [RA]; done)); have hC' := hC.1.1; simp only [Held, and_true] at hC'; go_wp2_with (first | (refine wpList_fbin rfl rfl rfl rfl rfl (fun r n hr => ?_)) | (refine wpList_widen rfl rfl Try.underlying85 Try.underlying23 rfl (fun r n hr => ?_))); refine ⟨rfl, (by first | exact Below.refl _ _ | exact below_drewN _), hK _ ?_⟩; clear hC hC' hK K w1) | (refine calmA_check rfl rfl rfl ?_ ?_; (focus (intro _ _; simp [RA]; done)))) | (refine calmA_call (f := 117) (args := _) rfl ?_ (by (intro w1; simp [execOp, resolve, invoke, go_sem]; with_reducible rfl)) (fun w1 hC => ?_) ?_; (focus (intro _ _; simp [RA]; done)); (focus (have hC' := hC.1.1; simp only [Held, and_true] at hC'; refine (l06Ball_any x0 x1 x2 _ _ _ ?_ ?_ ?_).mono ?_; (focus (simp [*]; done)); (focus (simp [*]; done)); (focus (simp [*]; done)); rintro e w2 ⟨n9, rfl, rfl⟩; exact ⟨_, rfl, rfl, below_drewN _⟩)); rintro v rfl) | (refine calmA_skip rfl ?_ ?_; (focus (intro _ _; simp [RA]; done)); simp [Act.put]))
        refine calmA_nil ?_
        intro w' hC hF
        have hC' := hC.1.1
        simp only [Held, and_true] at hC'
        go_wp2_with fail
        go_ret
        refine ⟨ret_bool ?_, ?_⟩
        · rw [HI.out, upto_false hlt (by rw [HOK.out, hb1, HKZ.out, hy0.out, hl]; rfl)]
        · (have hB := hC.1.2; (repeat (first | assumption | (with_reducible exact Below.refl _ _) | (with_reducible refine Below.drewN ?_ _) | (with_reducible refine Below.drew ?_) | (with_reducible refine Below.allocS ?_ _) | ((with_reducible refine Below.setCell ?_ ?_ _); rotate_left; focus (first | omega | (simp; done) | (simp; omega))) | (with_reducible refine Below.step ?_ (by assumption)))))
    · obtain rfl : k = n := by omega
      go_wp2
      go_ret
      exact ⟨ret_bool (by rw [HI.out, upto_true HA.out]), hbel⟩

set_option maxRecDepth 100000 in
theorem specValidRow_any (v : Value) (n : Nat) (l : List Nat) (z : Nat) (w : World) (h : RowAt w v 3 n (fl l)) : Calls Try.prog 15 #[.agg #[v, .float .f32 z]] w (BB (rowB n l z) w) := by
  have H := Lib.hid h
  clear h
  go_enter Try.func15, Try.ntmps15
  go_wp2_with (first | (go_at_call 58; refine (l06Is_any v n l z _ _ ?_ ?_).mono ?_; (focus (refine RowAt.below H.out ?_; (repeat (first | assumption | (with_reducible exact Below.refl _ _) | (with_reducible refine Below.drewN ?_ _) | (with_reducible refine Below.drew ?_) | (with_reducible refine Below.allocS ?_ _) | ((with_reducible refine Below.setCell ?_ ?_ _); rotate_left; focus (first | omega | (simp; done) | (simp; omega))) | (with_reducible refine Below.step ?_ (by assumption)))); done)); (focus (simp [Held, go_sem]; done)); rintro e w1 ⟨rfl, hb⟩))
  go_ret
  refine ⟨rfl, ?_⟩
  (repeat (first | assumption | (with_reducible exact Below.refl _ _) | (with_reducible refine Below.drewN ?_ _) | (with_reducible refine Below.drew ?_) | (with_reducible refine Below.allocS ?_ _) | ((with_reducible refine Below.setCell ?_ ?_ _); rotate_left; focus (first | omega | (simp; done) | (simp; omega))) | (with_reducible refine Below.step ?_ (by assumption))))

set_option maxRecDepth 100000 in
set_option maxHeartbeats 4000000 in
theorem implValidRow_any (v : Value) (n : Nat) (l : List Nat) (z : Nat) (w : World) (h : RowAt w v 3 n (fl l)) : Calls Try.prog 17 #[.agg #[v, .float .f32 z]] w (BB (rowB n l z) w) := by
  obtain ⟨h1, h2, ao, cap, rfl, h3⟩ := h
  have H3 := Lib.hid h3
  rw [fl_length] at h1
  have h2' : n ≤ 9223372036854775807 := h2
  clear h3
  go_enter Try.func17, Try.ntmps17
  go_wp2
  go_loopw [8] (fun i wr => ∃ k : Nat, k ≤ n ∧ i = .int .i64 (k : Int) ∧ (∀ j, j < k → okBall l j = true) ∧ Below w.heap.size w wr ∧ Held [(⟨w.heap.size, 0, none⟩, .slice ao n cap), (⟨w.heap.size, 1, none⟩, .float .f32 z)] wr) (fun i _ => n - (intOf i).toNat)
  case atStart => exact ⟨0, Nat.zero_le _, rfl, fun j hj => absurd hj (Nat.not_lt_zero _), by (repeat (first | assumption | (with_reducible exact Below.refl _ _) | (with_reducible refine Below.drewN ?_ _) | (with_reducible refine Below.drew ?_) | (with_reducible refine Below.allocS ?_ _) | ((with_reducible refine Below.setCell ?_ ?_ _); rotate_left; focus (first | omega | (simp; done) | (simp; omega))) | (with_reducible refine Below.step ?_ (by assumption)))), by simp [Held, go_sem]⟩
  case round =>
    obtain ⟨k, hk, rfl, hall, hbel, hbx⟩ := hrel
    have HA := Lib.hid hall
    have HBX := Lib.hid hbx
    simp only [Held, and_true] at hbx
    clear hall
    by_cases hlt : k < n
    · obtain ⟨b, o, rfl, hbl, hcell⟩ := H3.out.resolve_left (by omega)
      have hcw : ∀ j x, (fl l)[j]? = some (.float .f32 x) → wr.cell? ⟨b, o + j, none⟩ = some (.float .f32 x) ∧ wr.frozen? ⟨b, o + j, none⟩ = false := fun j x hx => by
        rw [hbel.cell (p := ⟨b, o + j, none⟩) hbl, hbel.frozen (p := ⟨b, o + j, none⟩) hbl]; exact hcell j _ hx
      have HC := Lib.hid hcw
      clear hcw hcell
      have hbw : b < wr.heap.size := Nat.lt_of_lt_of_le hbl hbel.size
      have hbw2 : ¬ b = wr.heap.size := by omega
      have hbx2 : ¬ w.heap.size = wr.heap.size := by omega
      obtain ⟨x0, hx0⟩ : ∃ x, Hid (l.getD (k * 3) 0 = x) := ⟨_, rfl⟩
      obtain ⟨x1, hx1⟩ : ∃ x, Hid (l.getD (k * 3 + 1) 0 = x) := ⟨_, rfl⟩
      obtain ⟨x2, hx2⟩ : ∃ x, Hid (l.getD (k * 3 + 2) 0 = x) := ⟨_, rfl⟩
      have f0 := HC.out (k * 3) x0 (by rw [← hx0.out]; exact fl_get (by omega))
      have f1 := HC.out (k * 3 + 1) x1 (by rw [← hx1.out]; exact fl_get (by omega))
      have f2 := HC.out (k * 3 + 2) x2 (by rw [← hx2.out]; exact fl_get (by omega))
      simp only [← Nat.add_assoc] at f1 f2
      have HOK : Hid (okBall l k = (ballB x0 x1 x2 && (k == 0 || !ltF .f32 x0 (l.getD ((k - 1) * 3) 0)))) := by show _ = _; unfold okBall; rw [hx0.out, hx1.out, hx2.out]
      have HB : Hid (ballB x0 x1 x2 = (fin2 x0 x1 && aboveB x2)) := rfl
      cases hb1 : fin2 x0 x1
      · go_wp2_with fail
        have hst : stableV [(4, 17, fun v w => ∃ b, v = .slice (some ⟨b, 0, none⟩) 2 2 ∧ Held [(⟨b, 0, none⟩, .float .f32 x0), (⟨b, 1, none⟩, .float .f32 x1)] w)] := by
          intro q hq
          obtain rfl := List.mem_singleton.1 hq
          rintro v w w' hb ⟨b, hv, hH⟩
          exact ⟨b, hv, Held.below hb hH⟩
        refine region_calmV wr [(⟨w.heap.size, 0, none⟩, .slice (some ⟨b, o, none⟩) n cap), (⟨w.heap.size, 1, none⟩, .float .f32 z), (⟨wr.heap.size, 0, none⟩, .float .f32 x0), (⟨wr.heap.size, 1, none⟩, .float .f32 x1), (⟨wr.heap.size, 2, none⟩, .float .f32 x2)] (fun f _ v => (f = 60 ∧ v = .bool (fin2 x0 x1)) ∨ (f = 61 ∧ v = .bool (aboveB x2))) [(4, 17, fun v w => ∃ b, v = .slice (some ⟨b, 0, none⟩) 2 2 ∧ Held [(⟨b, 0, none⟩, .float .f32 x0), (⟨b, 1, none⟩, .float .f32 x1)] w)] (by kernel_rfl) (by kernel_rfl) (by kernel_rfl) ⟨by simp [Held, go_sem, *], by (repeat (first | assumption | (with_reducible exact Below.refl _ _) | (with_reducible refine Below.drewN ?_ _) | (with_reducible refine Below.drew ?_) | (with_reducible refine Below.allocS ?_ _) | ((with_reducible refine Below.setCell ?_ ?_ _); rotate_left; focus (first | omega | (simp; done) | (simp; omega))) | (with_reducible refine Below.step ?_ (by assumption))))⟩ ?_
        repeat (first | (first | (refine calmV_plain hst rfl rfl ?_ (fun K hK w1 hC => ?_); (focus (intro _ _; simp [RVF]; done)); have hC' := hC.1; simp only [Held, and_true] at hC'; go_wp2_with (first | (refine wpList_fbin rfl rfl rfl rfl rfl (fun r n hr => ?_)) | (refine wpList_widen rfl rfl Try.underlying85 Try.underlying23 rfl (fun r n hr => ?_))); refine ⟨rfl, (by first | exact Below.refl _ _ | exact below_drewN _), hK _ ?_⟩; clear hC hC' hK K w1) | (refine calmV_check rfl rfl rfl ?_ ?_; (focus (intro _ _; simp [RVF]; done))) | (refine calmV_skip rfl ?_ ?_; (focus (intro _ _; simp [RVF]; done)); simp [Act.put])) | (refine calmV_op (Tv := fun v => ∃ b, v = .slice (some ⟨b, 0, none⟩) 2 2) hst rfl (fun w1 hC => ⟨.slice (some ⟨w1.heap.size, 0, none⟩) 2 2, w1.alloc (.cells #[.float .f32 x0, .float .f32 x1] 23), ?_, ⟨_, rfl⟩, ?_, ?_⟩) ?_; (focus (simp [execOp, go_sem]; done)); (focus (simp [RVF, Act.put, Act.eval, Held, go_sem]; done)); (focus (exact Below.allocS (Below.refl _ _) _)); rintro v ⟨b', rfl⟩) | (refine calmV_call (f := 60) (args := _) hst rfl (by (intro w1; simp [execOp, resolve, invoke, go_sem]; with_reducible rfl)) (fun w1 hC hD => ?_) ?_; (focus (have hf := RVF_get (depV hD (ia := 4) (by kernel_rfl)) (List.mem_singleton.2 rfl); simp [Act.put, Act.eval] at hf; refine (finite2_any x0 x1 _ _ ?_ ?_).mono ?_; (focus (simp [Held] at hf; simp [hf]; done)); (focus (simp [Held] at hf; simp [hf]; done)); rintro e w2 ⟨n9, rfl, rfl⟩; exact ⟨_, rfl, .inl ⟨rfl, rfl⟩, (by simp [RVF]), below_drewN _⟩)); (intro v hv; simp at hv; subst hv)) | (refine calmV_call (f := 61) (args := _) hst rfl (by (intro w1; simp [execOp, resolve, invoke, go_sem]; with_reducible rfl)) (fun w1 hC hD => ?_) ?_; (focus (refine (lengthOk_any _ _).mono ?_; rintro e w2 ⟨n9, rfl, rfl⟩; exact ⟨_, rfl, .inr ⟨rfl, rfl⟩, (by simp [RVF]), below_drewN _⟩)); (intro v hv; simp at hv; subst hv)))
        refine calmV_nil ?_
        intro w' hC hF
        have hC' := hC.1
        simp only [Held, and_true] at hC'
        go_wp2_with fail
        go_ret
        refine ⟨ret_bool ?_, ?_⟩
        · unfold rowB
          rw [upto_false hlt (by rw [HOK.out]; simp [HB.out, hb1])]
          simp
        · have hB := hC.2
          (repeat (first | assumption | (with_reducible exact Below.refl _ _) | (with_reducible refine Below.drewN ?_ _) | (with_reducible refine Below.drew ?_) | (with_reducible refine Below.allocS ?_ _) | ((with_reducible refine Below.setCell ?_ ?_ _); rotate_left; focus (first | omega | (simp; done) | (simp; omega))) | (with_reducible refine Below.step ?_ (by assumption))))
      cases hb2 : aboveB x2
      · go_wp2_with fail
        have hst : stableV [(4, 17, fun v w => ∃ b, v = .slice (some ⟨b, 0, none⟩) 2 2 ∧ Held [(⟨b, 0, none⟩, .float .f32 x0), (⟨b, 1, none⟩, .float .f32 x1)] w)] := by
          intro q hq
          obtain rfl := List.mem_singleton.1 hq
          rintro v w w' hb ⟨b, hv, hH⟩
          exact ⟨b, hv, Held.below hb hH⟩
        refine region_calmV wr [(⟨w.heap.size, 0, none⟩, .slice (some ⟨b, o, none⟩) n cap), (⟨w.heap.size, 1, none⟩, .float .f32 z), (⟨wr.heap.size, 0, none⟩, .float .f32 x0), (⟨wr.heap.size, 1, none⟩, .float .f32 x1), (⟨wr.heap.size, 2, none⟩, .float .f32 x2)] (fun f _ v => (f = 60 ∧ v = .bool (fin2 x0 x1)) ∨ (f = 61 ∧ v = .bool (aboveB x2))) [(4, 17, fun v w => ∃ b, v = .slice (some ⟨b, 0, none⟩) 2 2 ∧ Held [(⟨b, 0, none⟩, .float .f32 x0), (⟨b, 1, none⟩, .float .f32 x1)] w)] (by kernel_rfl) (by kernel_rfl) (by kernel_rfl) ⟨by simp [Held, go_sem, *], by (repeat (first | assumption | (with_reducible exact Below.refl _ _) | (with_reducible refine Below.drewN ?_ _) | (with_reducible refine Below.drew ?_) | (with_reducible refine Below.allocS ?_ _) | ((with_reducible refine Below.setCell ?_ ?_ _); rotate_left; focus (first | omega | (simp; done) | (simp; omega))) | (with_reducible refine Below.step ?_ (by assumption))))⟩ ?_
        repeat (first | (first | (refine calmV_plain hst rfl rfl ?_ (fun K hK w1 hC => ?_); (focus (intro _ _; simp [RVF]; done)); have hC' := hC.1; simp only [Held, and_true] at hC'; go_wp2_with (first | (refine wpList_fbin rfl rfl rfl rfl rfl (fun r n hr => ?_)) | (refine wpList_widen rfl rfl Try.underlying85 Try.underlying23 rfl (fun r n hr => ?_))); refine ⟨rfl, (by first | exact Below.refl _ _ | exact below_drewN _), hK _ ?_⟩; clear hC hC' hK K w1) | (refine calmV_check rfl rfl rfl ?_ ?_; (focus (intro _ _; simp [RVF]; done))) | (refine calmV_skip rfl ?_ ?_; (focus (intro _ _; simp [RVF]; done)); simp [Act.put])) | (refine calmV_op (Tv := fun v => ∃ b, v = .slice (some ⟨b, 0, none⟩) 2 2) hst rfl (fun w1 hC => ⟨.slice (some ⟨w1.heap.size, 0, none⟩) 2 2, w1.alloc (.cells #[.float .f32 x0, .float .f32 x1] 23), ?_, ⟨_, rfl⟩, ?_, ?_⟩) ?_; (focus (simp [execOp, go_sem]; done)); (focus (simp [RVF, Act.put, Act.eval, Held, go_sem]; done)); (focus (exact Below.allocS (Below.refl _ _) _)); rintro v ⟨b', rfl⟩) | (refine calmV_call (f := 60) (args := _) hst rfl (by (intro w1; simp [execOp, resolve, invoke, go_sem]; with_reducible rfl)) (fun w1 hC hD => ?_) ?_; (focus (have hf := RVF_get (depV hD (ia := 4) (by kernel_rfl)) (List.mem_singleton.2 rfl); simp [Act.put, Act.eval] at hf; refine (finite2_any x0 x1 _ _ ?_ ?_).mono ?_; (focus (simp [Held] at hf; simp [hf]; done)); (focus (simp [Held] at hf; simp [hf]; done)); rintro e w2 ⟨n9, rfl, rfl⟩; exact ⟨_, rfl, .inl ⟨rfl, rfl⟩, (by simp [RVF]), below_drewN _⟩)); (intro v hv; simp at hv; subst hv)) | (refine calmV_call (f := 61) (args := _) hst rfl (by (intro w1; simp [execOp, resolve, invoke, go_sem]; with_reducible rfl)) (fun w1 hC hD => ?_) ?_; (focus (refine (lengthOk_any _ _).mono ?_; rintro e w2 ⟨n9, rfl, rfl⟩; exact ⟨_, rfl, .inr ⟨rfl, rfl⟩, (by simp [RVF]), below_drewN _⟩)); (intro v hv; simp at hv; subst hv)))
        refine calmV_nil ?_
        intro w' hC hF
        have hC' := hC.1
        simp only [Held, and_true] at hC'
        go_wp2_with fail
        go_ret
        refine ⟨ret_bool ?_, ?_⟩
        · unfold rowB
          rw [upto_false hlt (by rw [HOK.out]; simp [HB.out, hb2])]
          simp
        · have hB := hC.2
          (repeat (first | assumption | (with_reducible exact Below.refl _ _) | (with_reducible refine Below.drewN ?_ _) | (with_reducible refine Below.drew ?_) | (with_reducible refine Below.allocS ?_ _) | ((with_reducible refine Below.setCell ?_ ?_ _); rotate_left; focus (first | omega | (simp; done) | (simp; omega))) | (with_reducible refine Below.step ?_ (by assumption))))
      by_cases hk0 : 0 < k
      case neg =>
        have d0 : decide ((0 : Int) < (k : Int)) = false := decide_eq_false (by omega)
        have hkz : (k == 0) = true := by simp; omega
        have HKZ := Lib.hid hkz
        clear hkz
        go_wp2_with fail
        have hst : stableV [(4, 17, fun v w => ∃ b, v = .slice (some ⟨b, 0, none⟩) 2 2 ∧ Held [(⟨b, 0, none⟩, .float .f32 x0), (⟨b, 1, none⟩, .float .f32 x1)] w)] := by
          intro q hq
          obtain rfl := List.mem_singleton.1 hq
          rintro v w w' hb ⟨b, hv, hH⟩
          exact ⟨b, hv, Held.below hb hH⟩
        refine region_calmV wr [(⟨w.heap.size, 0, none⟩, .slice (some ⟨b, o, none⟩) n cap), (⟨w.heap.size, 1, none⟩, .float .f32 z), (⟨wr.heap.size, 0, none⟩, .float .f32 x0), (⟨wr.heap.size, 1, none⟩, .float .f32 x1), (⟨wr.heap.size, 2, none⟩, .float .f32 x2)] (fun f _ v => (f = 60 ∧ v = .bool (fin2 x0 x1)) ∨ (f = 61 ∧ v = .bool (aboveB x2))) [(4, 17, fun v w => ∃ b, v = .slice (some ⟨b, 0, none⟩) 2 2 ∧ Held [(⟨b, 0, none⟩, .float .f32 x0), (⟨b, 1, none⟩, .float .f32 x1)] w)] (by kernel_rfl) (by kernel_rfl) (by kernel_rfl) ⟨by simp [Held, go_sem, *], by (repeat (first | assumption | (with_reducible exact Below.refl _ _) | (with_reducible refine Below.drewN ?_ _) | (with_reducible refine Below.drew ?_) | (with_reducible refine Below.allocS ?_ _) | ((with_reducible refine Below.setCell ?_ ?_ _); rotate_left; focus (first | omega | (simp; done) | (simp; omega))) | (with_reducible refine Below.step ?_ (by assumption))))⟩ ?_
        repeat (first | (first | (refine calmV_plain hst rfl rfl ?_ (fun K hK w1 hC => ?_); (focus (intro _ _; simp [RVF]; done)); have hC' := hC.1; simp only [Held, and_true] at hC'; go_wp2_with (first | (refine wpList_fbin rfl rfl rfl rfl rfl (fun r n hr => ?_)) | (refine wpList_widen rfl rfl Try.underlying85 Try.underlying23 rfl (fun r n hr => ?_))); refine ⟨rfl, (by first | exact Below.refl _ _ | exact below_drewN _), hK _ ?_⟩; clear hC hC' hK K w1) | (refine calmV_check rfl rfl rfl ?_ ?_; (focus (intro _ _; simp [RVF]; done))) | (refine calmV_skip rfl ?_ ?_; (focus (intro _ _; simp [RVF]; done)); simp [Act.put])) | (refine calmV_op (Tv := fun v => ∃ b, v = .slice (some ⟨b, 0, none⟩) 2 2) hst rfl (fun w1 hC => ⟨.slice (some ⟨w1.heap.size, 0, none⟩) 2 2, w1.alloc (.cells #[.float .f32 x0, .float .f32 x1] 23), ?_, ⟨_, rfl⟩, ?_, ?_⟩) ?_; (focus (simp [execOp, go_sem]; done)); (focus (simp [RVF, Act.put, Act.eval, Held, go_sem]; done)); (focus (exact Below.allocS (Below.refl _ _) _)); rintro v ⟨b', rfl⟩) | (refine calmV_call (f := 60) (args := _) hst rfl (by (intro w1; simp [execOp, resolve, invoke, go_sem]; with_reducible rfl)) (fun w1 hC hD => ?_) ?_; (focus (have hf := RVF_get (depV hD (ia := 4) (by kernel_rfl)) (List.mem_singleton.2 rfl); simp [Act.put, Act.eval] at hf; refine (finite2_any x0 x1 _ _ ?_ ?_).mono ?_; (focus (simp [Held] at hf; simp [hf]; done)); (focus (simp [Held] at hf; simp [hf]; done)); rintro e w2 ⟨n9, rfl, rfl⟩; exact ⟨_, rfl, .inl ⟨rfl, rfl⟩, (by simp [RVF]), below_drewN _⟩)); (intro v hv; simp at hv; subst hv)) | (refine calmV_call (f := 61) (args := _) hst rfl (by (intro w1; simp [execOp, resolve, invoke, go_sem]; with_reducible rfl)) (fun w1 hC hD => ?_) ?_; (focus (refine (lengthOk_any _ _).mono ?_; rintro e w2 ⟨n9, rfl, rfl⟩; exact ⟨_, rfl, .inr ⟨rfl, rfl⟩, (by simp [RVF]), below_drewN _⟩)); (intro v hv; simp at hv; subst hv)))
        refine calmV_nil ?_
        intro w' hC hF
        have hC' := hC.1
        simp only [Held, and_true] at hC'
        have hB3 : Below w.heap.size w w' := by
          have hB := hC.2
          (repeat (first | assumption | (with_reducible exact Below.refl _ _) | (with_reducible refine Below.drewN ?_ _) | (with_reducible refine Below.drew ?_) | (with_reducible refine Below.allocS ?_ _) | ((with_reducible refine Below.setCell ?_ ?_ _); rotate_left; focus (first | omega | (simp; done) | (simp; omega))) | (with_reducible refine Below.step ?_ (by assumption))))
        have hbx3 : Held [(⟨w.heap.size, 0, none⟩, .slice (some ⟨b, o, none⟩) n cap), (⟨w.heap.size, 1, none⟩, .float .f32 z)] w' := by simp [Held, *]
        go_wp2_with fail
        go_roundw
        case rel => exact ⟨k + 1, hlt, by go_num, all_step HA.out (by rw [HOK.out]; simp [HB.out, hb1, hb2, HKZ.out]), hB3, hbx3⟩
        case measure => simp [intOf]; omega
      have d0 : decide ((0 : Int) < (k : Int)) = true := decide_eq_true (by omega)
      have hkz : (k == 0) = false := by simp; omega
      have HKZ := Lib.hid hkz
      clear hkz
      obtain ⟨y0, hy0⟩ : ∃ x, Hid (l.getD ((k - 1) * 3) 0 = x) := ⟨_, rfl⟩
      have f3 := HC.out ((k - 1) * 3) y0 (by rw [← hy0.out]; exact fl_get (by omega))
      cases hl : ltF .f32 x0 y0
      · go_wp2_with fail
        have hst : stableV [(4, 17, fun v w => ∃ b, v = .slice (some ⟨b, 0, none⟩) 2 2 ∧ Held [(⟨b, 0, none⟩, .float .f32 x0), (⟨b, 1, none⟩, .float .f32 x1)] w)] := by
          intro q hq
          obtain rfl := List.mem_singleton.1 hq
          rintro v w w' hb ⟨b, hv, hH⟩
          exact ⟨b, hv, Held.below hb hH⟩
        refine region_calmV wr [(⟨w.heap.size, 0, none⟩, .slice (some ⟨b, o, none⟩) n cap), (⟨w.heap.size, 1, none⟩, .float .f32 z), (⟨wr.heap.size, 0, none⟩, .float .f32 x0), (⟨wr.heap.size, 1, none⟩, .float .f32 x1), (⟨wr.heap.size, 2, none⟩, .float .f32 x2), (⟨b, o + (k - 1) * 3, none⟩, .float .f32 y0)] (fun f _ v => (f = 60 ∧ v = .bool (fin2 x0 x1)) ∨ (f = 61 ∧ v = .bool (aboveB x2))) [(4, 17, fun v w => ∃ b, v = .slice (some ⟨b, 0, none⟩) 2 2 ∧ Held [(⟨b, 0, none⟩, .float .f32 x0), (⟨b, 1, none⟩, .float .f32 x1)] w)] (by kernel_rfl) (by kernel_rfl) (by kernel_rfl) ⟨by simp [Held, go_sem, *], by (repeat (first | assumption | (with_reducible exact Below.refl _ _) | (with_reducible refine Below.drewN ?_ _) | (with_reducible refine Below.drew ?_) | (with_reducible refine Below.allocS ?_ _) | ((with_reducible refine Below.setCell ?_ ?_ _); rotate_left; focus (first | omega | (simp; done) | (simp; omega))) | (with_reducible refine Below.step ?_ (by assumption))))⟩ ?_
        repeat (first | (first | (refine calmV_plain hst rfl rfl ?_ (fun K hK w1 hC => ?_); (focus (intro _ _; simp [RVF]; done)); have hC' := hC.1; simp only [Held, and_true] at hC'; go_wp2_with (first | (refine wpList_fbin rfl rfl rfl rfl rfl (fun r n hr => ?_)) | (refine wpList_widen rfl rfl Try.underlying85 Try.underlying23 rfl (fun r n hr => ?_))); refine ⟨rfl, (by first | exact Below.refl _ _ | exact below_drewN _), hK _ ?_⟩; clear hC hC' hK K w1) | (refine calmV_check rfl rfl rfl ?_ ?_; (focus (intro _ _; simp [RVF]; done))) | (refine calmV_skip rfl ?_ ?_; (focus (intro _ _; simp [RVF]; done)); simp [Act.put])) | (refine calmV_op (Tv := fun v => ∃ b, v = .slice (some ⟨b, 0, none⟩) 2 2) hst rfl (fun w1 hC => ⟨.slice (some ⟨w1.heap.size, 0, none⟩) 2 2, w1.alloc (.cells #[.float .f32 x0, .float .f32 x1] 23), ?_, ⟨_, rfl⟩, ?_, ?_⟩) ?_; (focus (simp [execOp, go_sem]; done)); (focus (simp [RVF, Act.put, Act.eval, Held, go_sem]; done)); (focus (exact Below.allocS (Below.refl _ _) _)); rintro v ⟨b', rfl⟩) | (refine calmV_call (f := 60) (args := _) hst rfl (by (intro w1; simp [execOp, resolve, invoke, go_sem]; with_reducible rfl)) (fun w1 hC hD => ?_) ?_; (focus (have hf := RVF_get (depV hD (ia := 4) (by kernel_rfl)) (List.mem_singleton.2 rfl); simp [Act.put, Act.eval] at hf; refine (finite2_any x0 x1 _ _ ?_ ?_).mono ?_; (focus (simp [Held] at hf; simp [hf]; done)); (focus (simp [Held] at hf; simp [hf]; done)); rintro e w2 ⟨n9, rfl, rfl⟩; exact ⟨_, rfl, .inl ⟨rfl, rfl⟩, (by simp [RVF]), below_drewN _⟩)); (intro v hv; simp at hv; subst hv)) | (refine calmV_call (f := 61) (args := _) hst rfl (by (intro w1; simp [execOp, resolve, invoke, go_sem]; with_reducible rfl)) (fun w1 hC hD => ?_) ?_; (focus (refine (lengthOk_any _ _).mono ?_; rintro e w2 ⟨n9, rfl, rfl⟩; exact ⟨_, rfl, .inr ⟨rfl, rfl⟩, (by simp [RVF]), below_drewN _⟩)); (intro v hv; simp at hv; subst hv)))
        refine calmV_nil ?_
        intro w' hC hF
        have hC' := hC.1
        simp only [Held, and_true] at hC'
        have hB3 : Below w.heap.size w w' := by
          have hB := hC.2
          (repeat (first | assumption | (with_reducible exact Below.refl _ _) | (with_reducible refine Below.drewN ?_ _) | (with_reducible refine Below.drew ?_) | (with_reducible refine Below.allocS ?_ _) | ((with_reducible refine Below.setCell ?_ ?_ _); rotate_left; focus (first | omega | (simp; done) | (simp; omega))) | (with_reducible refine Below.step ?_ (by assumption))))
        have hbx3 : Held [(⟨w.heap.size, 0, none⟩, .slice (some ⟨b, o, none⟩) n cap), (⟨w.heap.size, 1, none⟩, .float .f32 z)] w' := by simp [Held, *]
        go_wp2_with fail
        go_roundw
        case rel => exact ⟨k + 1, hlt, by go_num, all_step HA.out (by rw [HOK.out, hy0.out]; simp [HB.out, hb1, hb2, HKZ.out, hl]), hB3, hbx3⟩
        case measure => simp [intOf]; omega
      · go_wp2_with fail
        have hst : stableV [(4, 17, fun v w => ∃ b, v = .slice (some ⟨b, 0, none⟩) 2 2 ∧ Held [(⟨b, 0, none⟩, .float .f32 x0), (⟨b, 1, none⟩, .float .f32 x1)] w)] := by
          intro q hq
          obtain rfl := List.mem_singleton.1 hq
          rintro v w w' hb ⟨b, hv, hH⟩
          exact ⟨b, hv, Held.below hb hH⟩
        refine region_calmV wr [(⟨w.heap.size, 0, none⟩, .slice (some ⟨b, o, none⟩) n cap), (⟨w.heap.size, 1, none⟩, .float .f32 z), (⟨wr.heap.size, 0, none⟩, .float .f32 x0), (⟨wr.heap.size, 1, none⟩, .float .f32 x1), (⟨wr.heap.size, 2, none⟩, .float .f32 x2), (⟨b, o + (k - 1) * 3, none⟩, .float .f32 y0)] (fun f _ v => (f = 60 ∧ v = .bool (fin2 x0 x1)) ∨ (f = 61 ∧ v = .bool (aboveB x2))) [(4, 17, fun v w => ∃ b, v = .slice (some ⟨b, 0, none⟩) 2 2 ∧ Held [(⟨b, 0, none⟩, .float .f32 x0), (⟨b, 1, none⟩, .float .f32 x1)] w)] (by kernel_rfl) (by kernel_rfl) (by kernel_rfl) ⟨by simp [Held, go_sem, *], by (repeat (first | assumption | (with_reducible exact Below.refl _ _) | (with_reducible refine Below.drewN ?_ _) | (with_reducible refine Below.drew ?_) | (with_reducible refine Below.allocS ?_ _) | ((with_reducible refine Below.setCell ?_ ?_ _); rotate_left; focus (first | omega | (simp; done) | (simp; omega))) | (with_reducible refine Below.step ?_ (by assumption))))⟩ ?_
        repeat (first | (first | (refine calmV_plain hst rfl rfl ?_ (fun K hK w1 hC => ?_); (focus (intro _ _; simp [RVF]; done)); have hC' := hC.1; simp only [Held, and_true] at hC'; go_wp2_with (first | (refine wpList_fbin rfl rfl rfl rfl rfl (fun r n hr => ?_)) | (refine wpList_widen rfl rfl Try.underlying85 Try.underlying23 rfl (fun r n hr => ?_))); refine ⟨rfl, (by first | exact Below.refl _ _ | exact below_drewN _), hK _ ?_⟩; clear hC hC' hK K w1) | (refine calmV_check rfl rfl rfl ?_ ?_; (focus (intro _ _; simp [RVF]; done))) | (refine calmV_skip rfl ?_ ?_; (focus (intro _ _; simp [RVF]; done)); simp [Act.put])) | (refine calmV_op (Tv := fun v => ∃ b, v = .slice (some ⟨b, 0, none⟩) 2 2) hst rfl (fun w1 hC => ⟨.slice (some ⟨w1.heap.size, 0, none⟩) 2 2, w1.alloc (.cells #[.float .f32 x0, .float .f32 x1] 23), ?_, ⟨_, rfl⟩, ?_, ?_⟩) ?_; (focus (simp [execOp, go_sem]; done)); (focus (simp [RVF, Act.put, Act.eval, Held, go_sem]; done)); (focus (exact Below.allocS (Below.refl _ _) _)); rintro v ⟨b', rfl⟩) | (refine calmV_call (f := 60) (args := _) hst rfl (by (intro w1; simp [execOp, resolve, invoke, go_sem]; with_reducible rfl)) (fun w1 hC hD => ?_) ?_; (focus (have hf := RVF_get (depV hD (ia := 4) (by kernel_rfl)) (List.mem_singleton.2 rfl); simp [Act.put, Act.eval] at hf; refine (finite2_any x0 x1 _ _ ?_ ?_).mono ?_; (focus (simp [Held] at hf; simp [hf]; done)); (focus (simp [Held] at hf; simp [hf]; done)); rintro e w2 ⟨n9, rfl, rfl⟩; exact ⟨_, rfl, .inl ⟨rfl, rfl⟩, (by simp [RVF]), below_drewN _⟩)); (intro v hv; simp at hv; subst hv)) | (refine calmV_call (f := 61) (args := _) hst rfl (by (intro w1; simp [execOp, resolve, invoke, go_sem]; with_reducible rfl)) (fun w1 hC hD => ?_) ?_; (focus (refine (lengthOk_any _ _).mono ?_; rintro e w2 ⟨n9, rfl, rfl⟩; exact ⟨_, rfl, .inr ⟨rfl, rfl⟩, (by simp [RVF]), below_drewN _⟩)); (intro v hv; simp at hv; subst hv)))
        refine calmV_nil ?_
        intro w' hC hF
        have hC' := hC.1
        simp only [Held, and_true] at hC'
        go_wp2_with fail
        go_ret
        refine ⟨ret_bool ?_, ?_⟩
        · unfold rowB
          rw [upto_false hlt (by rw [HOK.out, hy0.out]; simp [HB.out, hb1, hb2, HKZ.out, hl])]
          simp
        · have hB := hC.2
          (repeat (first | assumption | (with_reducible exact Below.refl _ _) | (with_reducible refine Below.drewN ?_ _) | (with_reducible refine Below.drew ?_) | (with_reducible refine Below.allocS ?_ _) | ((with_reducible refine Below.setCell ?_ ?_ _); rotate_left; focus (first | omega | (simp; done) | (simp; omega))) | (with_reducible refine Below.step ?_ (by assumption))))
    · obtain rfl : k = n := by omega
      go_wp2_with (first | (go_at_call 62; refine (inN_any _ _ _ _).mono ?_; rintro e w' ⟨rfl, rfl⟩) | (go_at_call 63; refine (shareOk_any _ _).mono ?_; rintro e w' ⟨n9, rfl, rfl⟩))
      all_goals
        go_ret
        refine ⟨ret_bool ?_, ?_⟩
        · unfold rowB
          rw [upto_true HA.out]
          simp_all
        · (repeat (first | assumption | (with_reducible exact Below.refl _ _) | (with_reducible refine Below.drewN ?_ _) | (with_reducible refine Below.drew ?_) | (with_reducible refine Below.allocS ?_ _) | ((with_reducible refine Below.setCell ?_ ?_ _); rotate_left; focus (first | omega | (simp; done) | (simp; omega))) | (with_reducible refine Below.step ?_ (by assumption))))

end Go.Proofs.Ytbmabpnolheghaa
