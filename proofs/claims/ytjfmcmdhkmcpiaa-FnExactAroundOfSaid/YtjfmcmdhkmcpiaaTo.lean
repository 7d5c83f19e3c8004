/-
  The walks of how far a top's axes go around; the law AroundOf.
-/
import Derived.Test.YtjfmcmdhkmcpiaaWz
import Derived.Test.YtjfmcmdhkmcpiaaWe
import Derived.Test.YtjfmcmdhkmcpiaaSb
import Derived.Test.YtjfmcmdhkmcpiaaCz
set_option linter.unusedVariables false
set_option linter.unusedSimpArgs false
namespace Go.Proofs.Ytjfmcmdhkmcpiaa
open Go.RowKit

def inA (n lo hi : Int) : Bool := decide (lo ≤ n) && decide (n ≤ hi)
def uptoA (p : Nat → Bool) (n : Nat) : Bool := (List.range n).all p
theorem uptoA_false {p : Nat → Bool} {n k : Nat} (hk : k < n) (h : p k = false) : uptoA p n = false := by
  unfold uptoA
  rw [List.all_eq_false]
  exact ⟨k, List.mem_range.2 hk, by rw [h]; decide⟩
theorem uptoA_succ (p : Nat → Bool) (n : Nat) : uptoA p (n + 1) = (uptoA p n && p n) := by unfold uptoA; rw [List.range_succ, List.all_append]; simp
def okVec (l : List Nat) (k : Nat) : Bool := fin3 (l.getD (k * 3) 0) (l.getD (k * 3 + 1) 0) (l.getD (k * 3 + 2) 0)
def angA (l : List Nat) (k : Nat) : Nat := angleQ (cn .f32 (l.getD (k * 3 + 1) 0)) (cn .f32 (l.getD (k * 3) 0))
def difK (l : List Nat) (k : Nat) : Nat := fbin .sub .f32 (angA l k) (angA l (k - 1))
def adjQ (d : Nat) : Nat := if ltF .f32 d 3204448256 then fbin .add .f32 d 1065353216 else if gtF .f32 d 1056964608 then fbin .sub .f32 d 1065353216 else d
def arS (l : List Nat) : Nat → Nat
  | 0 => 0
  | k + 1 => if k = 0 then 0 else fbin .add .f32 (arS l k) (adjQ (difK l k))
theorem cn_arS (l : List Nat) : ∀ k, cn .f32 (arS l k) = arS l k
  | 0 => cn_zero
  | k + 1 => by
    show cn .f32 (if k = 0 then 0 else _) = (if k = 0 then 0 else _)
    split
    · exact cn_zero
    · exact cn_fbin ..
def aroundB (n : Nat) (l : List Nat) : Bool := (inA (n : Int) 1 128 && uptoA (okVec l) n) && finB .f32 (arS l n)
theorem lt_ofA {d D c : Nat} (h : cn .f32 d = D) (hc : cn .f32 c = c) : ltF .f32 d c = ltF .f32 D c := by rw [← ltF_cn, h, hc]
theorem gt_ofA {d D c : Nat} (h : cn .f32 d = D) (hc : cn .f32 c = c) : gtF .f32 d c = gtF .f32 D c := by rw [← gtF_cn, h, hc]
theorem cn_mhalf : cn .f32 3204448256 = 3204448256 := by decide +kernel
theorem cn_phalf : cn .f32 1056964608 = 1056964608 := by decide +kernel
theorem cn_oneA : cn .f32 1065353216 = 1065353216 := by decide +kernel
theorem l00InA_any (n lo hi : Int) (w : World) : Calls Try.prog 100 #[.int .i64 n, .int .i64 lo, .int .i64 hi] w fun e w' => e = .returned (.bool (inA n lo hi)) ∧ w' = w := by
  cases h1 : decide (lo ≤ n) <;> cases h2 : decide (n ≤ hi)
  all_goals
    go_enter Try.func100, Try.ntmps100
    go_wp2
    go_ret
    exact ⟨ret_bool (by unfold inA; rw [h1, h2]; rfl), rfl⟩
theorem inA_any (n lo hi : Int) (w : World) : Calls Try.prog 90 #[.int .i64 n, .int .i64 lo, .int .i64 hi] w fun e w' => e = .returned (.bool (inA n lo hi)) ∧ w' = w := by
  cases h1 : decide (lo ≤ n) <;> cases h2 : decide (n ≤ hi)
  all_goals
    go_enter Try.func90, Try.ntmps90
    go_wp2
    go_ret
    exact ⟨ret_bool (by unfold inA; rw [h1, h2]; rfl), rfl⟩

set_option maxRecDepth 100000 in
set_option maxHeartbeats 8000000 in
theorem specAroundOf_any (v : Value) (n : Nat) (l : List Nat) (w : World) (h : RowAt w v 3 n (fl l)) : Calls Try.prog 51 #[v] w (PF (condF (aroundB n l) (arS l n)) (aroundB n l) w) := by
  obtain ⟨h1, h2, ao, cap, rfl, h3⟩ := h
  rw [fl_length] at h1
  have h63 : n ≤ 9223372036854775807 := h2
  have HBB : Hid (aroundB n l = ((inA (n : Int) 1 128 && uptoA (okVec l) n) && finB .f32 (arS l n))) := rfl
  cases hz : inA (n : Int) 1 128
  · have HF : Hid (aroundB n l = false) := by show _ = _; rw [HBB.out, hz]; rfl
    clear h3
    go_enter Try.func51, Try.ntmps51
    go_wp2_with (first | (go_at_call 100; refine (l00InA_any _ _ _ _).mono ?_; rintro e w' ⟨rfl, e9⟩; subst w'; rw [hz]))
    go_ret2
    rw [HF.out]
    exact ⟨_, rfl, cn_zero, by (repeat (first | assumption | (with_reducible exact Below.refl _ _) | (with_reducible refine Below.drewN ?_ _) | (with_reducible refine Below.drew ?_) | (with_reducible refine Below.allocS ?_ _) | ((with_reducible refine Below.setCell ?_ ?_ _); rotate_left; focus (first | omega | (simp; done) | (simp; omega))) | (with_reducible refine Below.step ?_ (by assumption))))⟩
  have hn : 1 ≤ n ∧ n ≤ 128 := by unfold inA at hz; simp at hz; omega
  obtain ⟨b, o, rfl, hbl, hcell⟩ := h3.resolve_left (by omega)
  have HC := Lib.hid hcell
  have HL : Hid (l.length = n * 3) := h1
  have HB2 : Hid (aroundB n l = (uptoA (okVec l) n && finB .f32 (arS l n))) := by show _ = _; rw [HBB.out, hz, Bool.true_and]
  clear hcell h3 HBB h1
  go_enter Try.func51, Try.ntmps51
  go_wp2_with (first | (go_at_call 100; refine (l00InA_any _ _ _ _).mono ?_; rintro e w' ⟨rfl, e9⟩; subst w'; rw [hz]))
  go_loopw [5, 4] (fun jv sv wr => ∃ (k s : Nat), k ≤ n ∧ jv = .int .i64 (k : Int) ∧ sv = .float .f32 s ∧ cn .f32 s = arS l k ∧ uptoA (okVec l) k = true ∧ Below w.heap.size w wr) (fun jv _ _ => n - (intOf jv).toNat)
  case atStart => exact ⟨0, 0, Nat.zero_le _, rfl, rfl, cn_zero, rfl, by (repeat (first | assumption | (with_reducible exact Below.refl _ _) | (with_reducible refine Below.drewN ?_ _) | (with_reducible refine Below.drew ?_) | (with_reducible refine Below.allocS ?_ _) | ((with_reducible refine Below.setCell ?_ ?_ _); rotate_left; focus (first | omega | (simp; done) | (simp; omega))) | (with_reducible refine Below.step ?_ (by assumption))))⟩
  case round =>
    obtain ⟨k, s, hk, rfl, rfl, hs, hup, hBr⟩ := hrel
    have HS := Lib.hid hs
    have UP := Lib.hid hup
    clear hs hup
    by_cases hlt : k < n
    · have d1 : decide ((k : Int) < (n : Int)) = true := decide_eq_true (by omega)
      obtain ⟨x, hx⟩ : ∃ x, Hid (l.getD (k * 3) 0 = x) := ⟨_, rfl⟩
      obtain ⟨y, hy⟩ : ∃ x, Hid (l.getD (k * 3 + 1) 0 = x) := ⟨_, rfl⟩
      obtain ⟨z, hz'⟩ : ∃ x, Hid (l.getD (k * 3 + 2) 0 = x) := ⟨_, rfl⟩
      have f0 := HC.out (k * 3) (.float .f32 x) (by rw [← hx.out]; exact fl_get (by rw [HL.out]; omega))
      have f1 := HC.out (k * 3 + 1) (.float .f32 y) (by rw [← hy.out]; exact fl_get (by rw [HL.out]; omega))
      have f2 := HC.out (k * 3 + 2) (.float .f32 z) (by rw [← hz'.out]; exact fl_get (by rw [HL.out]; omega))
      simp only [← Nat.add_assoc] at f1 f2
      have hc := Held.below hBr (l := [(⟨b, o + k * 3, none⟩, .float .f32 x), (⟨b, o + k * 3 + 1, none⟩, .float .f32 y), (⟨b, o + k * 3 + 2, none⟩, .float .f32 z)]) ⟨⟨hbl, f0⟩, ⟨hbl, f1⟩, ⟨hbl, f2⟩, trivial⟩
      have HCE := Lib.hid hc
      simp only [Held, and_true] at hc
      clear f0 f1 f2
      have hok : Hid (okVec l k = fin3 x y z) := by show _ = _; unfold okVec; rw [hx.out, hy.out, hz'.out]
      cases e1 : fin3 x y z
      · have E1 := Lib.hid e1
        clear e1
        go_wp2_with (first | (go_at_call 70; refine (l01VFinite_any _ _ _ _).mono ?_; rintro e w6 ⟨rfl, hb6⟩; rw [E1.out]; have hc6 := Held.below hb6 (l := [(⟨b, o + k * 3, none⟩, .float .f32 x), (⟨b, o + k * 3 + 1, none⟩, .float .f32 y), (⟨b, o + k * 3 + 2, none⟩, .float .f32 z)]) (by simp [Held, go_sem, *]); simp only [Held, and_true] at hc6))
        go_ret2
        rw [HB2.out, uptoA_false hlt (by rw [hok.out]; exact E1.out), Bool.false_and]
        exact ⟨_, rfl, cn_zero, by (repeat (first | assumption | (with_reducible exact Below.refl _ _) | (with_reducible refine Below.drewN ?_ _) | (with_reducible refine Below.drew ?_) | (with_reducible refine Below.allocS ?_ _) | ((with_reducible refine Below.setCell ?_ ?_ _); rotate_left; focus (first | omega | (simp; done) | (simp; omega))) | (with_reducible refine Below.step ?_ (by assumption))))⟩
      have E1 := Lib.hid e1
      clear e1
      have UP2 : Hid (uptoA (okVec l) (k + 1) = true) := by show _ = _; rw [uptoA_succ, UP.out, hok.out, E1.out]; rfl
      by_cases hk0 : k = 0
      · have d0 : ((k : Int) == 0) = true := by simp; omega
        have HK0 := Lib.hid hk0
        clear hk0
        go_wp2_with (first | (go_at_call 70; refine (l01VFinite_any _ _ _ _).mono ?_; rintro e w6 ⟨rfl, hb6⟩; rw [E1.out]; have hc6 := Held.below hb6 (l := [(⟨b, o + k * 3, none⟩, .float .f32 x), (⟨b, o + k * 3 + 1, none⟩, .float .f32 y), (⟨b, o + k * 3 + 2, none⟩, .float .f32 z)]) (by simp [Held, go_sem, *]); simp only [Held, and_true] at hc6))
        go_roundw
        case rel =>
          refine ⟨k + 1, s, hlt, by go_num, rfl, ?_, UP2.out, by (repeat (first | assumption | (with_reducible exact Below.refl _ _) | (with_reducible refine Below.drewN ?_ _) | (with_reducible refine Below.drew ?_) | (with_reducible refine Below.allocS ?_ _) | ((with_reducible refine Below.setCell ?_ ?_ _); rotate_left; focus (first | omega | (simp; done) | (simp; omega))) | (with_reducible refine Below.step ?_ (by assumption))))⟩
          show _ = (if k = 0 then 0 else _)
          rw [if_pos HK0.out]
          have h9 := HS.out
          rw [HK0.out] at h9
          exact h9
        case measure => simp [intOf]; omega
      have d0 : ((k : Int) == 0) = false := by simp; omega
      obtain ⟨x', hx'⟩ : ∃ x, Hid (l.getD ((k - 1) * 3) 0 = x) := ⟨_, rfl⟩
      obtain ⟨y', hy'⟩ : ∃ x, Hid (l.getD ((k - 1) * 3 + 1) 0 = x) := ⟨_, rfl⟩
      have g0 := HC.out ((k - 1) * 3) (.float .f32 x') (by rw [← hx'.out]; exact fl_get (by rw [HL.out]; omega))
      have g1 := HC.out ((k - 1) * 3 + 1) (.float .f32 y') (by rw [← hy'.out]; exact fl_get (by rw [HL.out]; omega))
      simp only [← Nat.add_assoc] at g1
      obtain ⟨j, hj⟩ : ∃ j, k = j + 1 := ⟨k - 1, by omega⟩
      have hj1 : (k : Int) - 1 = (j : Int) := by omega
      have hj2 : k - 1 = j := by omega
      rw [hj2] at g0 g1
      have hjn : j < n := by omega
      have hc2 := Held.below hBr (l := [(⟨b, o + j * 3, none⟩, .float .f32 x'), (⟨b, o + j * 3 + 1, none⟩, .float .f32 y')]) ⟨⟨hbl, g0⟩, ⟨hbl, g1⟩, trivial⟩
      have HCE2 := Lib.hid hc2
      simp only [Held, and_true] at hc2
      have HJ := Lib.hid hj
      have HJ2 := Lib.hid hj2
      clear g0 g1 hj hj2
      have HD : Hid (difK l k = fbin .sub .f32 (angleQ (cn .f32 y) (cn .f32 x)) (angleQ (cn .f32 y') (cn .f32 x'))) := by show _ = _; unfold difK angA; rw [hx.out, hy.out, hx'.out, hy'.out]
      go_wp2_with (first | (go_at_call 70; refine (l01VFinite_any _ _ _ _).mono ?_; rintro e w6 ⟨rfl, hb6⟩; rw [E1.out]; have hc6 := Held.below hb6 (l := [(⟨b, o + k * 3, none⟩, .float .f32 x), (⟨b, o + k * 3 + 1, none⟩, .float .f32 y), (⟨b, o + k * 3 + 2, none⟩, .float .f32 z), (⟨b, o + j * 3, none⟩, .float .f32 x'), (⟨b, o + j * 3 + 1, none⟩, .float .f32 y')]) (by simp [Held, go_sem, *]); simp only [Held, and_true] at hc6))
      have hB6 : Below w.heap.size w w6 := by (repeat (first | assumption | (with_reducible exact Below.refl _ _) | (with_reducible refine Below.drewN ?_ _) | (with_reducible refine Below.drew ?_) | (with_reducible refine Below.allocS ?_ _) | ((with_reducible refine Below.setCell ?_ ?_ _); rotate_left; focus (first | omega | (simp; done) | (simp; omega))) | (with_reducible refine Below.step ?_ (by assumption))))
      refine region_calmA w6 w6.heap.size [(⟨b, o + k * 3, none⟩, .float .f32 x), (⟨b, o + k * 3 + 1, none⟩, .float .f32 y), (⟨b, o + k * 3 + 2, none⟩, .float .f32 z), (⟨b, o + j * 3, none⟩, .float .f32 x'), (⟨b, o + j * 3 + 1, none⟩, .float .f32 y')] (fun f args v => ∃ r, v = .float .f32 r ∧ cn .f32 r = angleQ (cn .f32 (argF args 0 0)) (cn .f32 (argF args 1 0))) [] (by kernel_rfl) (by kernel_rfl) (by kernel_rfl) ⟨⟨by simp [Held, go_sem, *], by (repeat (first | (with_reducible exact Below.refl _ _) | (with_reducible refine Below.drewN ?_ _) | (with_reducible refine Below.drew ?_) | (with_reducible refine Below.allocS ?_ _) | ((with_reducible refine Below.setCell ?_ ?_ _); rotate_left; focus (first | omega | (simp; done) | (simp; omega))) | (with_reducible refine Below.step ?_ (by assumption))))⟩, by (first | (simp; done) | (simp; omega) | omega)⟩ ?_
      repeat (first | (first | (refine calmA_plain rfl rfl ?_ (fun K hK w1 hC => ?_); (focus (intro _ _; simp [RA]; done)); have hC' := hC.1.1; simp only [Held, and_true] at hC'; go_wp2_with (first | (refine wpList_fbin rfl rfl rfl rfl rfl (fun r n9 hr => ?_)) | (refine wpList_widen rfl rfl Try.underlying30 Try.underlying22 rfl (fun r n9 hr => ?_))); refine ⟨rfl, (by first | exact Below.refl _ _ | exact below_drewN _), hK _ ?_⟩; clear hC hC' hK K w1) | (refine calmA_check rfl rfl rfl ?_ ?_; (focus (intro _ _; simp [RA]; done)))) | (refine calmA_call (f := 78) (args := _) rfl ?_ (by (intro w1; simp [execOp, resolve, invoke, go_sem]; with_reducible rfl)) (fun w1 hC => ?_) ?_; (focus (intro _ _; simp [RA]; done)); (focus (refine (l01Angle_any _ _ _).mono ?_; rintro e w2 ⟨r, n9, rfl, hq, rfl⟩; exact ⟨_, rfl, ⟨r, rfl, by simp [argF]; exact hq⟩, below_drewN _⟩)); rintro v9 hv; simp [argF] at hv; obtain ⟨ra, rfl, hq⟩ := hv; have HQ := Lib.hid hq; clear hq))
      refine calmA_nil ?_
      intro w7 hC hF
      have hq9 : cn .f32 r = difK l k := by
        rw [HD.out]
        simp only [Hid] at *
        simp only [*]
      have hB7 : Below w6.heap.size w6 w7 := hC.1.2
      have hB70 : Below w.heap.size w w7 := by (repeat (first | assumption | (with_reducible exact Below.refl _ _) | (with_reducible refine Below.drewN ?_ _) | (with_reducible refine Below.drew ?_) | (with_reducible refine Below.allocS ?_ _) | ((with_reducible refine Below.setCell ?_ ?_ _); rotate_left; focus (first | omega | (simp; done) | (simp; omega))) | (with_reducible refine Below.step ?_ (by assumption))))
      clear hC hF
      have e2' := lt_ofA hq9 cn_mhalf
      have e3' := gt_ofA hq9 cn_phalf
      have HQ9 := Lib.hid hq9
      clear hq9 hr
      cases e2 : ltF .f32 (difK l k) 3204448256 <;> cases e3 : gtF .f32 (difK l k) 1056964608
      all_goals
        rw [e2] at e2'
        rw [e3] at e3'
        go_wp2_with (first | (refine wpList_fbin rfl rfl rfl rfl rfl (fun r n9 hr => ?_)))
        go_roundw
        case rel =>
          refine ⟨k + 1, _, hlt, by go_num, rfl, ?_, UP2.out, by (repeat (first | assumption | (with_reducible exact Below.refl _ _) | (with_reducible refine Below.drewN ?_ _) | (with_reducible refine Below.drew ?_) | (with_reducible refine Below.allocS ?_ _) | ((with_reducible refine Below.setCell ?_ ?_ _); rotate_left; focus (first | omega | (simp; done) | (simp; omega))) | (with_reducible refine Below.step ?_ (by assumption))))⟩
          show _ = (if k = 0 then 0 else fbin .add .f32 (arS l k) (adjQ (difK l k)))
          rw [if_neg hk0]
          unfold adjQ
          rw [e2, e3]
          simp only [Hid] at *
          simp only [*, cn_oneA, if_true, if_false, Bool.false_eq_true]
        case measure => simp [intOf]; omega
    · obtain rfl : k = n := by omega
      have d1 : decide ((k : Int) < (k : Int)) = false := decide_eq_false (by omega)
      go_wp2_with (first | (go_at_call 57; refine (l02Number_any _ _).mono ?_; rintro e w9 ⟨n9, rfl, rfl⟩))
      go_ret2
      rw [HB2.out, UP.out, Bool.true_and]
      refine pf_told (Q := arS l k) HS.out rfl ?_
      (repeat (first | assumption | (with_reducible exact Below.refl _ _) | (with_reducible refine Below.drewN ?_ _) | (with_reducible refine Below.drew ?_) | (with_reducible refine Below.allocS ?_ _) | ((with_reducible refine Below.setCell ?_ ?_ _); rotate_left; focus (first | omega | (simp; done) | (simp; omega))) | (with_reducible refine Below.step ?_ (by assumption))))

set_option maxRecDepth 100000 in
set_option maxHeartbeats 8000000 in
theorem implAroundOf_any (v : Value) (n : Nat) (l : List Nat) (w : World) (h : RowAt w v 3 n (fl l)) : Calls Try.prog 53 #[v] w (PF (condF (aroundB n l) (arS l n)) (aroundB n l) w) := by
  obtain ⟨h1, h2, ao, cap, rfl, h3⟩ := h
  rw [fl_length] at h1
  have h63 : n ≤ 9223372036854775807 := h2
  have HBB : Hid (aroundB n l = ((inA (n : Int) 1 128 && uptoA (okVec l) n) && finB .f32 (arS l n))) := rfl
  cases hz : inA (n : Int) 1 128
  · have HF : Hid (aroundB n l = false) := by show _ = _; rw [HBB.out, hz]; rfl
    clear h3
    go_enter Try.func53, Try.ntmps53
    go_wp2_with (first | (go_at_call 90; refine (inA_any _ _ _ _).mono ?_; rintro e w' ⟨rfl, e9⟩; subst w'; rw [hz]))
    go_ret2
    rw [HF.out]
    exact ⟨_, rfl, cn_zero, by (repeat (first | assumption | (with_reducible exact Below.refl _ _) | (with_reducible refine Below.drewN ?_ _) | (with_reducible refine Below.drew ?_) | (with_reducible refine Below.allocS ?_ _) | ((with_reducible refine Below.setCell ?_ ?_ _); rotate_left; focus (first | omega | (simp; done) | (simp; omega))) | (with_reducible refine Below.step ?_ (by assumption))))⟩
  have hn : 1 ≤ n ∧ n ≤ 128 := by unfold inA at hz; simp at hz; omega
  obtain ⟨b, o, rfl, hbl, hcell⟩ := h3.resolve_left (by omega)
  have HC := Lib.hid hcell
  have HL : Hid (l.length = n * 3) := h1
  have HB2 : Hid (aroundB n l = (uptoA (okVec l) n && finB .f32 (arS l n))) := by show _ = _; rw [HBB.out, hz, Bool.true_and]
  clear hcell h3 HBB h1
  go_enter Try.func53, Try.ntmps53
  go_wp2_with (first | (go_at_call 90; refine (inA_any _ _ _ _).mono ?_; rintro e w' ⟨rfl, e9⟩; subst w'; rw [hz]))
  go_loopw [14, 4] (fun jv sv wr => ∃ (k s : Nat), k ≤ n ∧ jv = .int .i64 (k : Int) ∧ sv = .float .f32 s ∧ cn .f32 s = arS l k ∧ uptoA (okVec l) k = true ∧ Below w.heap.size w wr) (fun jv _ _ => n - (intOf jv).toNat)
  case atStart => exact ⟨0, 0, Nat.zero_le _, rfl, rfl, cn_zero, rfl, by (repeat (first | assumption | (with_reducible exact Below.refl _ _) | (with_reducible refine Below.drewN ?_ _) | (with_reducible refine Below.drew ?_) | (with_reducible refine Below.allocS ?_ _) | ((with_reducible refine Below.setCell ?_ ?_ _); rotate_left; focus (first | omega | (simp; done) | (simp; omega))) | (with_reducible refine Below.step ?_ (by assumption))))⟩
  case round =>
    obtain ⟨k, s, hk, rfl, rfl, hs, hup, hBr⟩ := hrel
    have HS := Lib.hid hs
    have UP := Lib.hid hup
    clear hs hup
    by_cases hlt : k < n
    · have d1 : decide ((k : Int) < (n : Int)) = true := decide_eq_true (by omega)
      obtain ⟨x, hx⟩ : ∃ x, Hid (l.getD (k * 3) 0 = x) := ⟨_, rfl⟩
      obtain ⟨y, hy⟩ : ∃ x, Hid (l.getD (k * 3 + 1) 0 = x) := ⟨_, rfl⟩
      obtain ⟨z, hz'⟩ : ∃ x, Hid (l.getD (k * 3 + 2) 0 = x) := ⟨_, rfl⟩
      have f0 := HC.out (k * 3) (.float .f32 x) (by rw [← hx.out]; exact fl_get (by rw [HL.out]; omega))
      have f1 := HC.out (k * 3 + 1) (.float .f32 y) (by rw [← hy.out]; exact fl_get (by rw [HL.out]; omega))
      have f2 := HC.out (k * 3 + 2) (.float .f32 z) (by rw [← hz'.out]; exact fl_get (by rw [HL.out]; omega))
      simp only [← Nat.add_assoc] at f1 f2
      have hc := Held.below hBr (l := [(⟨b, o + k * 3, none⟩, .float .f32 x), (⟨b, o + k * 3 + 1, none⟩, .float .f32 y), (⟨b, o + k * 3 + 2, none⟩, .float .f32 z)]) ⟨⟨hbl, f0⟩, ⟨hbl, f1⟩, ⟨hbl, f2⟩, trivial⟩
      have HCE := Lib.hid hc
      simp only [Held, and_true] at hc
      clear f0 f1 f2
      have hok : Hid (okVec l k = fin3 x y z) := by show _ = _; unfold okVec; rw [hx.out, hy.out, hz'.out]
      cases e1 : fin3 x y z
      · have E1 := Lib.hid e1
        clear e1
        go_wp2_with (first | (go_at_call 95; refine (finiteVector_any _ _ _ _).mono ?_; rintro e w6 ⟨rfl, hb6⟩; rw [E1.out]; have hc6 := Held.below hb6 (l := [(⟨b, o + k * 3, none⟩, .float .f32 x), (⟨b, o + k * 3 + 1, none⟩, .float .f32 y), (⟨b, o + k * 3 + 2, none⟩, .float .f32 z), (⟨wr.heap.size, 0, none⟩, .float .f32 x), (⟨wr.heap.size, 1, none⟩, .float .f32 y), (⟨wr.heap.size, 2, none⟩, .float .f32 z)]) (by simp [Held, go_sem, *]); simp only [Held, and_true] at hc6))
        go_ret2
        rw [HB2.out, uptoA_false hlt (by rw [hok.out]; exact E1.out), Bool.false_and]
        exact ⟨_, rfl, cn_zero, by (repeat (first | assumption | (with_reducible exact Below.refl _ _) | (with_reducible refine Below.drewN ?_ _) | (with_reducible refine Below.drew ?_) | (with_reducible refine Below.allocS ?_ _) | ((with_reducible refine Below.setCell ?_ ?_ _); rotate_left; focus (first | omega | (simp; done) | (simp; omega))) | (with_reducible refine Below.step ?_ (by assumption))))⟩
      have E1 := Lib.hid e1
      clear e1
      have UP2 : Hid (uptoA (okVec l) (k + 1) = true) := by show _ = _; rw [uptoA_succ, UP.out, hok.out, E1.out]; rfl
      by_cases hk0 : k = 0
      · have d0 : ((k : Int) == 0) = true := by simp; omega
        have HK0 := Lib.hid hk0
        clear hk0
        go_wp2_with (first | (go_at_call 95; refine (finiteVector_any _ _ _ _).mono ?_; rintro e w6 ⟨rfl, hb6⟩; rw [E1.out]; have hc6 := Held.below hb6 (l := [(⟨b, o + k * 3, none⟩, .float .f32 x), (⟨b, o + k * 3 + 1, none⟩, .float .f32 y), (⟨b, o + k * 3 + 2, none⟩, .float .f32 z), (⟨wr.heap.size, 0, none⟩, .float .f32 x), (⟨wr.heap.size, 1, none⟩, .float .f32 y), (⟨wr.heap.size, 2, none⟩, .float .f32 z)]) (by simp [Held, go_sem, *]); simp only [Held, and_true] at hc6))
        go_roundw
        case rel =>
          refine ⟨k + 1, s, hlt, by go_num, rfl, ?_, UP2.out, by (repeat (first | assumption | (with_reducible exact Below.refl _ _) | (with_reducible refine Below.drewN ?_ _) | (with_reducible refine Below.drew ?_) | (with_reducible refine Below.allocS ?_ _) | ((with_reducible refine Below.setCell ?_ ?_ _); rotate_left; focus (first | omega | (simp; done) | (simp; omega))) | (with_reducible refine Below.step ?_ (by assumption))))⟩
          show _ = (if k = 0 then 0 else _)
          rw [if_pos HK0.out]
          have h9 := HS.out
          rw [HK0.out] at h9
          exact h9
        case measure => simp [intOf]; omega
      have d0 : ((k : Int) == 0) = false := by simp; omega
      obtain ⟨x', hx'⟩ : ∃ x, Hid (l.getD ((k - 1) * 3) 0 = x) := ⟨_, rfl⟩
      obtain ⟨y', hy'⟩ : ∃ x, Hid (l.getD ((k - 1) * 3 + 1) 0 = x) := ⟨_, rfl⟩
      have g0 := HC.out ((k - 1) * 3) (.float .f32 x') (by rw [← hx'.out]; exact fl_get (by rw [HL.out]; omega))
      have g1 := HC.out ((k - 1) * 3 + 1) (.float .f32 y') (by rw [← hy'.out]; exact fl_get (by rw [HL.out]; omega))
      simp only [← Nat.add_assoc] at g1
      obtain ⟨j, hj⟩ : ∃ j, k = j + 1 := ⟨k - 1, by omega⟩
      have hj1 : (k : Int) - 1 = (j : Int) := by omega
      have hj2 : k - 1 = j := by omega
      rw [hj2] at g0 g1
      have hjn : j < n := by omega
      have hc2 := Held.below hBr (l := [(⟨b, o + j * 3, none⟩, .float .f32 x'), (⟨b, o + j * 3 + 1, none⟩, .float .f32 y')]) ⟨⟨hbl, g0⟩, ⟨hbl, g1⟩, trivial⟩
      have HCE2 := Lib.hid hc2
      simp only [Held, and_true] at hc2
      have HJ := Lib.hid hj
      have HJ2 := Lib.hid hj2
      clear g0 g1 hj hj2
      have HD : Hid (difK l k = fbin .sub .f32 (angleQ (cn .f32 y) (cn .f32 x)) (angleQ (cn .f32 y') (cn .f32 x'))) := by show _ = _; unfold difK angA; rw [hx.out, hy.out, hx'.out, hy'.out]
      go_wp2_with (first | (go_at_call 95; refine (finiteVector_any _ _ _ _).mono ?_; rintro e w6 ⟨rfl, hb6⟩; rw [E1.out]; have hc6 := Held.below hb6 (l := [(⟨b, o + k * 3, none⟩, .float .f32 x), (⟨b, o + k * 3 + 1, none⟩, .float .f32 y), (⟨b, o + k * 3 + 2, none⟩, .float .f32 z), (⟨b, o + j * 3, none⟩, .float .f32 x'), (⟨b, o + j * 3 + 1, none⟩, .float .f32 y'), (⟨wr.heap.size, 0, none⟩, .float .f32 x), (⟨wr.heap.size, 1, none⟩, .float .f32 y), (⟨wr.heap.size, 2, none⟩, .float .f32 z)]) (by simp [Held, go_sem, *]); simp only [Held, and_true] at hc6))
      have hB6 : Below w.heap.size w w6 := by (repeat (first | assumption | (with_reducible exact Below.refl _ _) | (with_reducible refine Below.drewN ?_ _) | (with_reducible refine Below.drew ?_) | (with_reducible refine Below.allocS ?_ _) | ((with_reducible refine Below.setCell ?_ ?_ _); rotate_left; focus (first | omega | (simp; done) | (simp; omega))) | (with_reducible refine Below.step ?_ (by assumption))))
      refine region_calmA w6 w6.heap.size [(⟨b, o + k * 3, none⟩, .float .f32 x), (⟨b, o + k * 3 + 1, none⟩, .float .f32 y), (⟨b, o + k * 3 + 2, none⟩, .float .f32 z), (⟨b, o + j * 3, none⟩, .float .f32 x'), (⟨b, o + j * 3 + 1, none⟩, .float .f32 y'), (⟨wr.heap.size, 0, none⟩, .float .f32 x), (⟨wr.heap.size, 1, none⟩, .float .f32 y), (⟨wr.heap.size, 2, none⟩, .float .f32 z)] (fun f args v => ∃ r, v = .float .f32 r ∧ cn .f32 r = angleQ (cn .f32 (argF args 0 0)) (cn .f32 (argF args 1 0))) [] (by kernel_rfl) (by kernel_rfl) (by kernel_rfl) ⟨⟨by simp [Held, go_sem, *], by (repeat (first | (with_reducible exact Below.refl _ _) | (with_reducible refine Below.drewN ?_ _) | (with_reducible refine Below.drew ?_) | (with_reducible refine Below.allocS ?_ _) | ((with_reducible refine Below.setCell ?_ ?_ _); rotate_left; focus (first | omega | (simp; done) | (simp; omega))) | (with_reducible refine Below.step ?_ (by assumption))))⟩, by (first | (simp; done) | (simp; omega) | omega)⟩ ?_
      repeat (first | (first | (refine calmA_plain rfl rfl ?_ (fun K hK w1 hC => ?_); (focus (intro _ _; simp [RA]; done)); have hC' := hC.1.1; simp only [Held, and_true] at hC'; go_wp2_with (first | (refine wpList_fbin rfl rfl rfl rfl rfl (fun r n9 hr => ?_)) | (refine wpList_widen rfl rfl Try.underlying30 Try.underlying22 rfl (fun r n9 hr => ?_))); refine ⟨rfl, (by first | exact Below.refl _ _ | exact below_drewN _), hK _ ?_⟩; clear hC hC' hK K w1) | (refine calmA_check rfl rfl rfl ?_ ?_; (focus (intro _ _; simp [RA]; done)))) | (refine calmA_call (f := 83) (args := _) rfl ?_ (by (intro w1; simp [execOp, resolve, invoke, go_sem]; with_reducible rfl)) (fun w1 hC => ?_) ?_; (focus (intro _ _; simp [RA]; done)); (focus (refine (AngleTurns_any _ _ _).mono ?_; rintro e w2 ⟨r, rfl, hq, hb9⟩; exact ⟨_, rfl, ⟨r, rfl, by simp [argF]; exact hq⟩, hb9⟩)); rintro v9 hv; simp [argF] at hv; obtain ⟨ra, rfl, hq⟩ := hv; have HQ := Lib.hid hq; clear hq))
      refine calmA_nil ?_
      intro w7 hC hF
      have hq9 : cn .f32 r = difK l k := by
        rw [HD.out]
        simp only [Hid] at *
        simp only [*]
      have hB7 : Below w6.heap.size w6 w7 := hC.1.2
      have hB70 : Below w.heap.size w w7 := by (repeat (first | assumption | (with_reducible exact Below.refl _ _) | (with_reducible refine Below.drewN ?_ _) | (with_reducible refine Below.drew ?_) | (with_reducible refine Below.allocS ?_ _) | ((with_reducible refine Below.setCell ?_ ?_ _); rotate_left; focus (first | omega | (simp; done) | (simp; omega))) | (with_reducible refine Below.step ?_ (by assumption))))
      clear hC hF
      have e2' := lt_ofA hq9 cn_mhalf
      have e3' := gt_ofA hq9 cn_phalf
      have HQ9 := Lib.hid hq9
      clear hq9 hr
      cases e2 : ltF .f32 (difK l k) 3204448256 <;> cases e3 : gtF .f32 (difK l k) 1056964608
      all_goals
        rw [e2] at e2'
        rw [e3] at e3'
        go_wp2_with (first | (refine wpList_fbin rfl rfl rfl rfl rfl (fun r n9 hr => ?_)))
        go_roundw
        case rel =>
          refine ⟨k + 1, _, hlt, by go_num, rfl, ?_, UP2.out, by (repeat (first | assumption | (with_reducible exact Below.refl _ _) | (with_reducible refine Below.drewN ?_ _) | (with_reducible refine Below.drew ?_) | (with_reducible refine Below.allocS ?_ _) | ((with_reducible refine Below.setCell ?_ ?_ _); rotate_left; focus (first | omega | (simp; done) | (simp; omega))) | (with_reducible refine Below.step ?_ (by assumption))))⟩
          show _ = (if k = 0 then 0 else fbin .add .f32 (arS l k) (adjQ (difK l k)))
          rw [if_neg hk0]
          unfold adjQ
          rw [e2, e3]
          simp only [Hid] at *
          simp only [*, cn_oneA, if_true, if_false, Bool.false_eq_true]
        case measure => simp [intOf]; omega
    · obtain rfl : k = n := by omega
      have d1 : decide ((k : Int) < (k : Int)) = false := decide_eq_false (by omega)
      go_wp2_with (first | (go_at_call 82; refine (toldNumber_any _ _).mono ?_; rintro e w9 ⟨n9, rfl, rfl⟩))
      go_ret2
      rw [HB2.out, UP.out, Bool.true_and]
      refine pf_told (Q := arS l k) HS.out rfl ?_
      (repeat (first | assumption | (with_reducible exact Below.refl _ _) | (with_reducible refine Below.drewN ?_ _) | (with_reducible refine Below.drew ?_) | (with_reducible refine Below.allocS ?_ _) | ((with_reducible refine Below.setCell ?_ ?_ _); rotate_left; focus (first | omega | (simp; done) | (simp; omega))) | (with_reducible refine Below.step ?_ (by assumption))))

set_option maxRecDepth 100000 in
set_option maxHeartbeats 8000000 in
theorem lawAroundOf_walk (v0 : Value) (n0 : Nat) (l0 : List Nat) (w : World) (h0 : RowAt w v0 3 n0 (fl l0)) (hb0 : ∀ x ∈ l0, x < 4294967296) : Calls Try.prog 14 #[v0] w fun e w' => e = .returned (.bool true) ∧ Below w.heap.size w w' := by
  have H0 := Lib.hid h0
  clear h0 hb0
  obtain ⟨B, hB⟩ : ∃ B, aroundB n0 l0 = B := ⟨_, rfl⟩
  have HB := Lib.hid hB
  clear hB
  go_enter Try.func14, Try.ntmps14
  go_wp2_with fail
  refine (szVectorS_any v0 n0 1048576 (fl l0) _ ?_ (by omega)).mono ?_
  · refine RowAt.below H0.out ?_
    (repeat (first | assumption | (with_reducible exact Below.refl _ _) | (with_reducible refine Below.drewN ?_ _) | (with_reducible refine Below.drew ?_) | (with_reducible refine Below.allocS ?_ _) | ((with_reducible refine Below.setCell ?_ ?_ _); rotate_left; focus (first | omega | (simp; done) | (simp; omega))) | (with_reducible refine Below.step ?_ (by assumption))))
  rintro e ws0 ⟨rfl, e9⟩
  subst ws0
  by_cases hs0 : n0 ≤ 1048576
  case neg =>
    rw [if_neg hs0]
    go_wp2_with fail
    go_ret
    refine ⟨rfl, ?_⟩
    (repeat (first | assumption | (with_reducible exact Below.refl _ _) | (with_reducible refine Below.drewN ?_ _) | (with_reducible refine Below.drew ?_) | (with_reducible refine Below.allocS ?_ _) | ((with_reducible refine Below.setCell ?_ ?_ _); rotate_left; focus (first | omega | (simp; done) | (simp; omega))) | (with_reducible refine Below.step ?_ (by assumption))))
  rw [if_pos hs0]
  go_wp2_with fail
  refine (toVectorS_any v0 n0 l0 _ ?_ (by omega)).mono ?_
  · refine RowAt.below H0.out ?_
    (repeat (first | assumption | (with_reducible exact Below.refl _ _) | (with_reducible refine Below.drewN ?_ _) | (with_reducible refine Below.drew ?_) | (with_reducible refine Below.allocS ?_ _) | ((with_reducible refine Below.setCell ?_ ?_ _); rotate_left; focus (first | omega | (simp; done) | (simp; omega))) | (with_reducible refine Below.step ?_ (by assumption))))
  rintro e w1 ⟨ga, rfl, oa, c1⟩
  have hB1 : Below w.heap.size w w1 := by (repeat (first | assumption | (with_reducible exact Below.refl _ _) | (with_reducible refine Below.drewN ?_ _) | (with_reducible refine Below.drew ?_) | (with_reducible refine Below.allocS ?_ _) | ((with_reducible refine Below.setCell ?_ ?_ _); rotate_left; focus (first | omega | (simp; done) | (simp; omega))) | (with_reducible refine Below.step ?_ (by assumption))))
  go_wp2_with fail
  refine (specAroundOf_any _ n0 l0 _ (ownsRow_rowAt oa)).mono ?_
  rintro e w2 ⟨r0, rfl, q0, c2⟩
  have Hq0 := Lib.hid q0
  have hB2 : Below w.heap.size w w2 := by (repeat (first | assumption | (with_reducible exact Below.refl _ _) | (with_reducible refine Below.drewN ?_ _) | (with_reducible refine Below.drew ?_) | (with_reducible refine Below.allocS ?_ _) | ((with_reducible refine Below.setCell ?_ ?_ _); rotate_left; focus (first | omega | (simp; done) | (simp; omega))) | (with_reducible refine Below.step ?_ (by assumption))))
  clear q0 oa
  go_wp2_with fail
  refine (toVectorS_any v0 n0 l0 _ ?_ (by omega)).mono ?_
  · refine RowAt.below H0.out ?_
    (repeat (first | assumption | (with_reducible exact Below.refl _ _) | (with_reducible refine Below.drewN ?_ _) | (with_reducible refine Below.drew ?_) | (with_reducible refine Below.allocS ?_ _) | ((with_reducible refine Below.setCell ?_ ?_ _); rotate_left; focus (first | omega | (simp; done) | (simp; omega))) | (with_reducible refine Below.step ?_ (by assumption))))
  rintro e w3 ⟨g, rfl, og, c3⟩
  have hB3 : Below w.heap.size w w3 := by (repeat (first | assumption | (with_reducible exact Below.refl _ _) | (with_reducible refine Below.drewN ?_ _) | (with_reducible refine Below.drew ?_) | (with_reducible refine Below.allocS ?_ _) | ((with_reducible refine Below.setCell ?_ ?_ _); rotate_left; focus (first | omega | (simp; done) | (simp; omega))) | (with_reducible refine Below.step ?_ (by assumption))))
  go_wp2_with fail
  refine (implAroundOf_any _ n0 l0 _ (ownsRow_rowAt og)).mono ?_
  rintro e w4 ⟨r1, rfl, q1, c4⟩
  have Hq1 := Lib.hid q1
  have hB4 : Below w.heap.size w w4 := by (repeat (first | assumption | (with_reducible exact Below.refl _ _) | (with_reducible refine Below.drewN ?_ _) | (with_reducible refine Below.drew ?_) | (with_reducible refine Below.allocS ?_ _) | ((with_reducible refine Below.setCell ?_ ?_ _); rotate_left; focus (first | omega | (simp; done) | (simp; omega))) | (with_reducible refine Below.step ?_ (by assumption))))
  have b4 : Below w3.heap.size w3 w4 := by
    refine Below.step ?_ c4
    (repeat (first | (with_reducible exact Below.refl _ _) | (with_reducible refine Below.drewN ?_ _) | (with_reducible refine Below.drew ?_) | (with_reducible refine Below.allocS ?_ _) | ((with_reducible refine Below.setCell ?_ ?_ _); rotate_left; focus (first | omega | (simp; done) | (simp; omega)))))
  have R0 := Lib.hid ((ownsRow_rowAt og).below b4)
  clear q1 og
  go_wp2_with (first | (refine wpList_widen rfl rfl Try.underlying30 Try.underlying22 rfl (fun r n9 hr => ?_)) | (go_at_call 18; refine (sameFloat_any _ _ _ (widen_same (Hid.out (by assumption)) (Hid.out (by assumption)) (Hq1.out.trans Hq0.out.symm))).mono ?_; rintro e w' ⟨n9, rfl, rfl⟩))
  refine (toVectorS_any v0 n0 l0 _ ?_ (by omega)).mono ?_
  · refine RowAt.below H0.out ?_
    (repeat (first | assumption | (with_reducible exact Below.refl _ _) | (with_reducible refine Below.drewN ?_ _) | (with_reducible refine Below.drew ?_) | (with_reducible refine Below.allocS ?_ _) | ((with_reducible refine Below.setCell ?_ ?_ _); rotate_left; focus (first | omega | (simp; done) | (simp; omega))) | (with_reducible refine Below.step ?_ (by assumption))))
  rintro e w5 ⟨g', rfl, o', c5⟩
  have b5 : Below w4.heap.size w4 w5 := by
    refine Below.step ?_ c5
    (repeat (first | (with_reducible exact Below.refl _ _) | (with_reducible refine Below.drewN ?_ _) | (with_reducible refine Below.drew ?_) | (with_reducible refine Below.allocS ?_ _) | ((with_reducible refine Below.setCell ?_ ?_ _); rotate_left; focus (first | omega | (simp; done) | (simp; omega)))))
  have hB5 : Below w.heap.size w w5 := by (repeat (first | assumption | (with_reducible exact Below.refl _ _) | (with_reducible refine Below.drewN ?_ _) | (with_reducible refine Below.drew ?_) | (with_reducible refine Below.allocS ?_ _) | ((with_reducible refine Below.setCell ?_ ?_ _); rotate_left; focus (first | omega | (simp; done) | (simp; omega))) | (with_reducible refine Below.step ?_ (by assumption))))
  go_wp2_with fail
  refine (eqVectorS_any _ _ n0 l0 l0 _ (R0.out.below b5) (ownsRow_rowAt o') rfl).mono ?_
  rintro e w6 ⟨rfl, c6⟩
  have hB6 : Below w.heap.size w w6 := by (repeat (first | assumption | (with_reducible exact Below.refl _ _) | (with_reducible refine Below.drewN ?_ _) | (with_reducible refine Below.drew ?_) | (with_reducible refine Below.allocS ?_ _) | ((with_reducible refine Below.setCell ?_ ?_ _); rotate_left; focus (first | omega | (simp; done) | (simp; omega))) | (with_reducible refine Below.step ?_ (by assumption))))
  go_wp2_with fail
  go_ret
  refine ⟨rfl, ?_⟩
  (repeat (first | assumption | (with_reducible exact Below.refl _ _) | (with_reducible refine Below.drewN ?_ _) | (with_reducible refine Below.drew ?_) | (with_reducible refine Below.allocS ?_ _) | ((with_reducible refine Below.setCell ?_ ?_ _); rotate_left; focus (first | omega | (simp; done) | (simp; omega))) | (with_reducible refine Below.step ?_ (by assumption))))

end Go.Proofs.Ytjfmcmdhkmcpiaa
