/-
  The walks of valid clocks, and the law ValidClocks.
-/
import Derived.Test.YtbmabpnolheghaaSd
set_option linter.unusedVariables false
set_option linter.unusedSimpArgs false
namespace Go.Proofs.Ytbmabpnolheghaa
open Go.RowKit

/-- A clock with a turn from 0 to less than 1, and a finite rate. -/
def clockB (x y : Nat) : Bool := keepB x && finB .f32 y
def okClock (l : List Nat) (k : Nat) : Bool := clockB (l.getD (k * 2) 0) (l.getD (k * 2 + 1) 0)
def clocksB (n : Nat) (l : List Nat) (m : Nat) (lk : List Nat) : Bool := ((inR n 1 12 && upto (okClock l) n) && decide (m = n * n)) && allFin lk
theorem allFin_false {l : List Nat} {k : Nat} (hk : k < l.length) (h : finB .f32 (l.getD k 0) = false) : allFin l = false := by
  unfold allFin
  rw [List.all_eq_false]
  refine ⟨l.getD k 0, ?_, by rw [h]; decide⟩
  rw [List.getD_eq_getElem?_getD, List.getElem?_eq_getElem hk]
  exact List.getElem_mem hk

set_option maxRecDepth 100000 in
set_option maxHeartbeats 4000000 in
theorem l05Is_any (v v' : Value) (n m : Nat) (l lk : List Nat) (p : Nat) (w : World) (h : RowAt w v 2 n (fl l)) (h' : RowAt w v' 1 m (fl lk)) (hp : Held [(⟨p, 0, none⟩, v), (⟨p, 1, none⟩, v')] w) :
    Calls Try.prog 74 #[.pointer (some ⟨p, 0, none⟩)] w (RB (clocksB n l m lk) w) := by
  obtain ⟨h1, h2, ao, cap, rfl, h3⟩ := h
  obtain ⟨g1, g2, ao', cap', rfl, g3⟩ := h'
  have H3 := Lib.hid h3
  have G3 := Lib.hid g3
  rw [fl_length] at h1 g1
  obtain rfl : m = lk.length := by omega
  clear g1
  have h2' : n ≤ 9223372036854775807 := h2
  have g2' : lk.length ≤ 9223372036854775807 := g2
  clear h3 g3
  have HP := Lib.hid hp
  simp only [Held, and_true] at hp
  by_cases ha : n < 1
  · have d1 : decide ((n : Int) < 1) = true := decide_eq_true (by omega)
    go_enter Try.func74, Try.ntmps74
    go_wp2
    go_ret
    exact ⟨0, ret_bool (by unfold clocksB inR; simp [show ¬ 1 ≤ n by omega]), rfl⟩
  have d1 : decide ((n : Int) < 1) = false := decide_eq_false (by omega)
  by_cases hb : 12 < n
  · have d2 : decide ((12 : Int) < (n : Int)) = true := decide_eq_true (by omega)
    go_enter Try.func74, Try.ntmps74
    go_wp2
    go_ret
    exact ⟨0, ret_bool (by unfold clocksB inR; simp [show ¬ n ≤ 12 by omega]), rfl⟩
  have d2 : decide ((12 : Int) < (n : Int)) = false := decide_eq_false (by omega)
  have hsq : n * n ≤ 144 := Nat.mul_le_mul (by omega : n ≤ 12) (by omega : n ≤ 12)
  obtain ⟨q, hq⟩ : ∃ q, q = n * n := ⟨_, rfl⟩
  have HQ : Hid (q = n * n) := hq
  have hqi : (n : Int) * (n : Int) = (q : Int) := by rw [hq]; exact (Int.natCast_mul n n).symm
  have hq2 : q ≤ 144 := by omega
  clear hq hsq
  by_cases hm : lk.length = q
  case neg =>
    have d3 : ((lk.length : Int) == (q : Int)) = false := by simp; omega
    go_enter Try.func74, Try.ntmps74
    go_wp2_with fail
    go_ret
    exact ⟨0, ret_bool (by unfold clocksB; rw [← HQ.out]; simp [hm]), rfl⟩
  have d3 : ((lk.length : Int) == (q : Int)) = true := by simp; omega
  have HI : Hid (clocksB n l lk.length lk = (upto (okClock l) n && allFin lk)) := by show _ = _; unfold clocksB inR; rw [← HQ.out]; simp [show 1 ≤ n by omega, show n ≤ 12 by omega, hm]
  go_enter Try.func74, Try.ntmps74
  go_wp2_with fail
  go_loopw [33] (fun i wr => ∃ k c : Nat, k ≤ n ∧ i = .int .i64 (k : Int) ∧ (∀ j, j < k → okClock l j = true) ∧ wr = w.drewN c) (fun i _ => n - (intOf i).toNat)
  case atStart => exact ⟨0, 0, Nat.zero_le _, rfl, fun j hj => absurd hj (Nat.not_lt_zero _), rfl⟩
  case round =>
    obtain ⟨k, c, hk, rfl, hall, rfl⟩ := hrel
    have HA := Lib.hid hall
    clear hall
    by_cases hlt : k < n
    · obtain ⟨b, o, rfl, hbl, hcell⟩ := H3.out.resolve_left (by omega)
      obtain ⟨x0, hx0⟩ : ∃ x, Hid (l.getD (k * 2) 0 = x) := ⟨_, rfl⟩
      obtain ⟨x1, hx1⟩ : ∃ x, Hid (l.getD (k * 2 + 1) 0 = x) := ⟨_, rfl⟩
      have f0 := hcell (k * 2) (.float .f32 x0) (by rw [← hx0.out]; exact fl_get (by omega))
      have f1 := hcell (k * 2 + 1) (.float .f32 x1) (by rw [← hx1.out]; exact fl_get (by omega))
      simp only [← Nat.add_assoc] at f0 f1
      clear hcell
      have HOK : Hid (okClock l k = ((geF .f32 x0 0 && !geF .f32 x0 1065353216) && finB .f32 x1)) := by show _ = _; unfold okClock clockB; rw [hx0.out, hx1.out, keep_split]
      cases e1 : geF .f32 x0 0
      · go_wp2_with (go_at_call 129; refine (l01Finite_any _ _).mono ?_; rintro e w' ⟨n, rfl, rfl⟩)
        go_ret
        exact ⟨_, ret_bool (by rw [HI.out, upto_false hlt (by rw [HOK.out, e1]; rfl)]; rfl), rfl⟩
      cases e2 : geF .f32 x0 1065353216
      case true =>
        go_wp2_with (go_at_call 129; refine (l01Finite_any _ _).mono ?_; rintro e w' ⟨n, rfl, rfl⟩)
        go_ret
        exact ⟨_, ret_bool (by rw [HI.out, upto_false hlt (by rw [HOK.out, e1, e2]; rfl)]; rfl), rfl⟩
      cases e3 : finB .f32 x1
      · go_wp2_with (go_at_call 129; refine (l01Finite_any _ _).mono ?_; rintro e w' ⟨n, rfl, rfl⟩)
        go_ret
        exact ⟨c + _, ret_bool (by rw [HI.out, upto_false hlt (by rw [HOK.out, e1, e2, e3]; rfl)]; rfl), rfl⟩
      · go_wp2_with (go_at_call 129; refine (l01Finite_any _ _).mono ?_; rintro e w' ⟨n, rfl, rfl⟩)
        go_roundw
        case rel => exact ⟨k + 1, c + _, hlt, by go_num, all_step HA.out (by rw [HOK.out, e1, e2, e3]; rfl), rfl⟩
        case measure => simp [intOf]; omega
    · obtain rfl : k = n := by omega
      have HU : Hid (upto (okClock l) k = true) := upto_true HA.out
      go_wp2_with fail
      go_loopw [75] (fun i wr => ∃ j c : Nat, j ≤ lk.length ∧ i = .int .i64 (j : Int) ∧ Hid (allFin (lk.take j) = true) ∧ wr = w.drewN c) (fun i _ => lk.length - (intOf i).toNat)
      case atStart => exact ⟨0, c, Nat.zero_le _, rfl, rfl, rfl⟩
      case round =>
        obtain ⟨j, c2, hj, rfl, hall2, rfl⟩ := hrel
        by_cases hlt2 : j < lk.length
        · obtain ⟨b, o, rfl, hbl, hcell⟩ := G3.out.resolve_left (by omega)
          obtain ⟨x0, hx0⟩ : ∃ x, Hid (lk.getD j 0 = x) := ⟨_, rfl⟩
          have f0 := hcell j (.float .f32 x0) (by rw [← hx0.out]; exact fl_get (by omega))
          clear hcell
          cases e1 : finB .f32 x0
          · go_wp2_with (go_at_call 129; refine (l01Finite_any _ _).mono ?_; rintro e w' ⟨n, rfl, rfl⟩)
            go_ret
            exact ⟨c2 + _, ret_bool (by rw [HI.out, allFin_false hlt2 (by rw [hx0.out]; exact e1), Bool.and_false]), rfl⟩
          · go_wp2_with (go_at_call 129; refine (l01Finite_any _ _).mono ?_; rintro e w' ⟨n, rfl, rfl⟩)
            go_roundw
            case rel => exact ⟨j + 1, c2 + _, hlt2, by go_num, allFin_snoc hlt2 hall2.out (by rw [hx0.out]; exact e1), rfl⟩
            case measure => simp [intOf]; omega
        · have h9 := hall2.out
          rw [show j = lk.length by omega, List.take_length] at h9
          have H9 := Lib.hid h9
          clear h9
          go_wp2_with fail
          go_ret
          exact ⟨c2, ret_bool (by rw [HI.out, HU.out, H9.out]; rfl), rfl⟩
set_option maxRecDepth 100000 in
theorem specValidClocks_any (v v' : Value) (n m : Nat) (l lk : List Nat) (w : World) (h : RowAt w v 2 n (fl l)) (h' : RowAt w v' 1 m (fl lk)) : Calls Try.prog 27 #[.agg #[v, v']] w (BB (clocksB n l m lk) w) := by
  have H := Lib.hid h
  have H' := Lib.hid h'
  clear h h'
  go_enter Try.func27, Try.ntmps27
  go_wp2_with (first | (go_at_call 74; refine (l05Is_any v v' n m l lk _ _ ?_ ?_ ?_).mono ?_; (focus (refine RowAt.below H.out ?_; (repeat (first | assumption | (with_reducible exact Below.refl _ _) | (with_reducible refine Below.drewN ?_ _) | (with_reducible refine Below.drew ?_) | (with_reducible refine Below.allocS ?_ _) | ((with_reducible refine Below.setCell ?_ ?_ _); rotate_left; focus (first | omega | (simp; done) | (simp; omega))) | (with_reducible refine Below.step ?_ (by assumption)))); done)); (focus (refine RowAt.below H'.out ?_; (repeat (first | assumption | (with_reducible exact Below.refl _ _) | (with_reducible refine Below.drewN ?_ _) | (with_reducible refine Below.drew ?_) | (with_reducible refine Below.allocS ?_ _) | ((with_reducible refine Below.setCell ?_ ?_ _); rotate_left; focus (first | omega | (simp; done) | (simp; omega))) | (with_reducible refine Below.step ?_ (by assumption)))); done)); (focus (simp [Held, go_sem]; done)); rintro e w1 ⟨n9, rfl, rfl⟩))
  go_ret
  refine ⟨rfl, ?_⟩
  (repeat (first | assumption | (with_reducible exact Below.refl _ _) | (with_reducible refine Below.drewN ?_ _) | (with_reducible refine Below.drew ?_) | (with_reducible refine Below.allocS ?_ _) | ((with_reducible refine Below.setCell ?_ ?_ _); rotate_left; focus (first | omega | (simp; done) | (simp; omega))) | (with_reducible refine Below.step ?_ (by assumption))))

set_option maxRecDepth 100000 in
theorem badClock_any (x0 x1 : Nat) (w : World) : Calls Try.prog 78 #[.agg #[.float .f32 x0, .float .f32 x1]] w (BB (!clockB x0 x1) w) := by
  have HK : Hid (clockB x0 x1 = ((geF .f32 x0 0 && ltF .f32 x0 1065353216) && finB .f32 x1)) := rfl
  cases e1 : geF .f32 x0 0 <;> cases e2 : ltF .f32 x0 1065353216 <;> cases e3 : finB .f32 x1
  all_goals
    go_enter Try.func78, Try.ntmps78
    go_wp2_with (first | (go_at_call 79; refine (IsFinite_any _ _).mono ?_; rintro e w' ⟨n9, rfl, rfl⟩))
    go_ret
    refine ⟨ret_bool (by rw [HK.out]; simp [e1, e2, e3]), ?_⟩
    (repeat (first | assumption | (with_reducible exact Below.refl _ _) | (with_reducible refine Below.drewN ?_ _) | (with_reducible refine Below.drew ?_) | (with_reducible refine Below.allocS ?_ _) | ((with_reducible refine Below.setCell ?_ ?_ _); rotate_left; focus (first | omega | (simp; done) | (simp; omega))) | (with_reducible refine Below.step ?_ (by assumption))))
set_option maxRecDepth 100000 in
theorem indexClock_any (v : Value) (n : Nat) (l : List Nat) (w : World) (h : RowAt w v 2 n (fl l)) :
    Calls Try.prog 131 #[v, .func (.func 78) #[] #[]] w (fun e w' => ∃ i : Int, e = .returned (.int .i64 i) ∧ decide (0 ≤ i) = !upto (okClock l) n ∧ Below w.heap.size w w') := by
  obtain ⟨h1, h2, ao, cap, rfl, h3⟩ := h
  have H3 := Lib.hid h3
  rw [fl_length] at h1
  have h2' : n ≤ 9223372036854775807 := h2
  clear h3
  go_enter Try.func131, Try.ntmps131
  go_wp2
  go_loopw [8] (fun i wr => ∃ k : Nat, k ≤ n ∧ i = .int .i64 (k : Int) ∧ (∀ j, j < k → okClock l j = true) ∧ Below w.heap.size w wr) (fun i _ => n - (intOf i).toNat)
  case atStart => exact ⟨0, Nat.zero_le _, rfl, fun j hj => absurd hj (Nat.not_lt_zero _), by (repeat (first | assumption | (with_reducible exact Below.refl _ _) | (with_reducible refine Below.drewN ?_ _) | (with_reducible refine Below.drew ?_) | (with_reducible refine Below.allocS ?_ _) | ((with_reducible refine Below.setCell ?_ ?_ _); rotate_left; focus (first | omega | (simp; done) | (simp; omega))) | (with_reducible refine Below.step ?_ (by assumption))))⟩
  case round =>
    obtain ⟨k, hk, rfl, hall, hbel⟩ := hrel
    have HA := Lib.hid hall
    clear hall
    by_cases hlt : k < n
    · obtain ⟨b, o, rfl, hbl, hcell⟩ := H3.out.resolve_left (by omega)
      obtain ⟨x0, hx0⟩ : ∃ x, Hid (l.getD (k * 2) 0 = x) := ⟨_, rfl⟩
      obtain ⟨x1, hx1⟩ : ∃ x, Hid (l.getD (k * 2 + 1) 0 = x) := ⟨_, rfl⟩
      have f0 : wr.cell? ⟨b, o + k * 2, none⟩ = some (.float .f32 x0) := by rw [hbel.cell (p := ⟨b, o + k * 2, none⟩) hbl]; exact (hcell (k * 2) (.float .f32 x0) (by rw [← hx0.out]; exact fl_get (by omega))).1
      have f1 : wr.cell? ⟨b, o + k * 2 + 1, none⟩ = some (.float .f32 x1) := by rw [hbel.cell (p := ⟨b, o + k * 2 + 1, none⟩) hbl]; exact (hcell (k * 2 + 1) (.float .f32 x1) (by rw [← hx1.out]; exact fl_get (by omega))).1
      clear hcell
      have HOK : Hid (okClock l k = clockB x0 x1) := by show _ = _; unfold okClock; rw [hx0.out, hx1.out]
      cases e1 : clockB x0 x1
      · go_wp2_with (first | (go_at_call 78; refine (badClock_any x0 x1 _).mono ?_; rintro e w' ⟨rfl, hb9⟩; rw [e1]))
        go_ret
        refine ⟨_, rfl, ?_, ?_⟩
        · rw [upto_false hlt (by rw [HOK.out]; exact e1)]; simp
        · (repeat (first | assumption | (with_reducible exact Below.refl _ _) | (with_reducible refine Below.drewN ?_ _) | (with_reducible refine Below.drew ?_) | (with_reducible refine Below.allocS ?_ _) | ((with_reducible refine Below.setCell ?_ ?_ _); rotate_left; focus (first | omega | (simp; done) | (simp; omega))) | (with_reducible refine Below.step ?_ (by assumption))))
      · go_wp2_with (first | (go_at_call 78; refine (badClock_any x0 x1 _).mono ?_; rintro e w' ⟨rfl, hb9⟩; rw [e1]))
        go_roundw
        case rel => exact ⟨k + 1, hlt, by go_num, all_step HA.out (by rw [HOK.out]; exact e1), by (repeat (first | assumption | (with_reducible exact Below.refl _ _) | (with_reducible refine Below.drewN ?_ _) | (with_reducible refine Below.drew ?_) | (with_reducible refine Below.allocS ?_ _) | ((with_reducible refine Below.setCell ?_ ?_ _); rotate_left; focus (first | omega | (simp; done) | (simp; omega))) | (with_reducible refine Below.step ?_ (by assumption))))⟩
        case measure => simp [intOf]; omega
    · obtain rfl : k = n := by omega
      go_wp2
      go_ret
      exact ⟨_, rfl, by rw [upto_true HA.out]; rfl, hbel⟩
set_option maxRecDepth 100000 in
theorem containsClock_any (v : Value) (n : Nat) (l : List Nat) (w : World) (h : RowAt w v 2 n (fl l)) :
    Calls Try.prog 77 #[v, .func (.func 78) #[] #[]] w (BB (!upto (okClock l) n) w) := by
  have H := Lib.hid h
  clear h
  go_enter Try.func77, Try.ntmps77
  go_wp2_with (first | (go_at_call 131; refine (indexClock_any v n l _ ?_).mono ?_; (focus (refine RowAt.below H.out ?_; (repeat (first | assumption | (with_reducible exact Below.refl _ _) | (with_reducible refine Below.drewN ?_ _) | (with_reducible refine Below.drew ?_) | (with_reducible refine Below.allocS ?_ _) | ((with_reducible refine Below.setCell ?_ ?_ _); rotate_left; focus (first | omega | (simp; done) | (simp; omega))) | (with_reducible refine Below.step ?_ (by assumption)))); done)); rintro e w1 ⟨i, rfl, hi, hb⟩; have HI := Lib.hid hi; clear hi))
  go_ret
  refine ⟨ret_bool HI.out, ?_⟩
  (repeat (first | assumption | (with_reducible exact Below.refl _ _) | (with_reducible refine Below.drewN ?_ _) | (with_reducible refine Below.drew ?_) | (with_reducible refine Below.allocS ?_ _) | ((with_reducible refine Below.setCell ?_ ?_ _); rotate_left; focus (first | omega | (simp; done) | (simp; omega))) | (with_reducible refine Below.step ?_ (by assumption))))
set_option maxRecDepth 100000 in
set_option maxHeartbeats 4000000 in
theorem implValidClocks_any (v v' : Value) (n m : Nat) (l lk : List Nat) (w : World) (h : RowAt w v 2 n (fl l)) (h' : RowAt w v' 1 m (fl lk)) : Calls Try.prog 29 #[.agg #[v, v']] w (BB (clocksB n l m lk) w) := by
  have H := Lib.hid h
  obtain ⟨h1, h2, ao, cap, rfl, h3⟩ := h
  obtain ⟨g1, g2, ao', cap', rfl, g3⟩ := h'
  have H3 := Lib.hid h3
  have G3 := Lib.hid g3
  rw [fl_length] at h1 g1
  obtain rfl : m = lk.length := by omega
  clear g1
  have h2' : n ≤ 9223372036854775807 := h2
  have g2' : lk.length ≤ 9223372036854775807 := g2
  clear h3 g3
  have HC : Hid (clocksB n l lk.length lk = (((inR n 1 12 && upto (okClock l) n) && decide (lk.length = n * n)) && allFin lk)) := rfl
  cases hr : inR n 1 12
  · go_enter Try.func29, Try.ntmps29
    go_wp2_with (first | (go_at_call 77; refine (containsClock_any (.slice ao n cap) n l _ ?_).mono ?_; (focus (refine RowAt.below H.out ?_; (repeat (first | assumption | (with_reducible exact Below.refl _ _) | (with_reducible refine Below.drewN ?_ _) | (with_reducible refine Below.drew ?_) | (with_reducible refine Below.allocS ?_ _) | ((with_reducible refine Below.setCell ?_ ?_ _); rotate_left; focus (first | omega | (simp; done) | (simp; omega))) | (with_reducible refine Below.step ?_ (by assumption)))); done)); rintro e w1 ⟨rfl, hb⟩; have hk := Held.below hb (l := [(⟨w.heap.size, 0, none⟩, .slice ao n cap), (⟨w.heap.size, 1, none⟩, .slice ao' lk.length cap')]) (by simp [Held, go_sem]); simp only [Held, and_true] at hk) | (go_at_call 62; refine (inN_any n 1 12 _).mono ?_; rintro e w' ⟨rfl, h9⟩; subst w'; rw [hr]))
    go_ret
    refine ⟨ret_bool (by rw [HC.out, hr]; rfl), ?_⟩
    (repeat (first | assumption | (with_reducible exact Below.refl _ _) | (with_reducible refine Below.drewN ?_ _) | (with_reducible refine Below.drew ?_) | (with_reducible refine Below.allocS ?_ _) | ((with_reducible refine Below.setCell ?_ ?_ _); rotate_left; focus (first | omega | (simp; done) | (simp; omega))) | (with_reducible refine Below.step ?_ (by assumption))))
  have hr2 : 1 ≤ n ∧ n ≤ 12 := by unfold inR at hr; simpa using hr
  have HR := Lib.hid hr
  cases hu : upto (okClock l) n
  · have HU := Lib.hid hu
    clear hu
    go_enter Try.func29, Try.ntmps29
    go_wp2_with (first | (go_at_call 77; refine (containsClock_any (.slice ao n cap) n l _ ?_).mono ?_; (focus (refine RowAt.below H.out ?_; (repeat (first | assumption | (with_reducible exact Below.refl _ _) | (with_reducible refine Below.drewN ?_ _) | (with_reducible refine Below.drew ?_) | (with_reducible refine Below.allocS ?_ _) | ((with_reducible refine Below.setCell ?_ ?_ _); rotate_left; focus (first | omega | (simp; done) | (simp; omega))) | (with_reducible refine Below.step ?_ (by assumption)))); done)); rintro e w1 ⟨rfl, hb⟩; rw [HU.out]; have hk := Held.below hb (l := [(⟨w.heap.size, 0, none⟩, .slice ao n cap), (⟨w.heap.size, 1, none⟩, .slice ao' lk.length cap')]) (by simp [Held, go_sem]); simp only [Held, and_true] at hk) | (go_at_call 62; refine (inN_any n 1 12 _).mono ?_; rintro e w' ⟨rfl, h9⟩; subst w'; rw [hr]))
    go_ret
    refine ⟨ret_bool (by rw [HC.out, HU.out, Bool.and_false]; rfl), ?_⟩
    (repeat (first | assumption | (with_reducible exact Below.refl _ _) | (with_reducible refine Below.drewN ?_ _) | (with_reducible refine Below.drew ?_) | (with_reducible refine Below.allocS ?_ _) | ((with_reducible refine Below.setCell ?_ ?_ _); rotate_left; focus (first | omega | (simp; done) | (simp; omega))) | (with_reducible refine Below.step ?_ (by assumption))))
  have HU := Lib.hid hu
  clear hu
  have hsq : n * n ≤ 144 := Nat.mul_le_mul (by omega : n ≤ 12) (by omega : n ≤ 12)
  obtain ⟨q, hq⟩ : ∃ q, q = n * n := ⟨_, rfl⟩
  have HQ : Hid (q = n * n) := hq
  have hqi : (n : Int) * (n : Int) = (q : Int) := by rw [hq]; exact (Int.natCast_mul n n).symm
  have hq2 : q ≤ 144 := by omega
  clear hq hsq
  by_cases hm : lk.length = q
  case neg =>
    have d3 : ((lk.length : Int) == (q : Int)) = false := by simp; omega
    go_enter Try.func29, Try.ntmps29
    go_wp2_with (first | (go_at_call 77; refine (containsClock_any (.slice ao n cap) n l _ ?_).mono ?_; (focus (refine RowAt.below H.out ?_; (repeat (first | assumption | (with_reducible exact Below.refl _ _) | (with_reducible refine Below.drewN ?_ _) | (with_reducible refine Below.drew ?_) | (with_reducible refine Below.allocS ?_ _) | ((with_reducible refine Below.setCell ?_ ?_ _); rotate_left; focus (first | omega | (simp; done) | (simp; omega))) | (with_reducible refine Below.step ?_ (by assumption)))); done)); rintro e w1 ⟨rfl, hb⟩; rw [HU.out]; have hk := Held.below hb (l := [(⟨w.heap.size, 0, none⟩, .slice ao n cap), (⟨w.heap.size, 1, none⟩, .slice ao' lk.length cap')]) (by simp [Held, go_sem]); simp only [Held, and_true] at hk) | (go_at_call 62; refine (inN_any n 1 12 _).mono ?_; rintro e w' ⟨rfl, h9⟩; subst w'; rw [hr]))
    go_ret
    refine ⟨ret_bool (by rw [HC.out, ← HQ.out]; simp [hm]), ?_⟩
    (repeat (first | assumption | (with_reducible exact Below.refl _ _) | (with_reducible refine Below.drewN ?_ _) | (with_reducible refine Below.drew ?_) | (with_reducible refine Below.allocS ?_ _) | ((with_reducible refine Below.setCell ?_ ?_ _); rotate_left; focus (first | omega | (simp; done) | (simp; omega))) | (with_reducible refine Below.step ?_ (by assumption))))
  have d3 : ((lk.length : Int) == (q : Int)) = true := by simp; omega
  obtain ⟨b, o, rfl, hbl, hcell⟩ := G3.out.resolve_left (by have := Nat.mul_pos hr2.1 hr2.1; omega)
  have HCL : Hid (∀ i, i < lk.length → w.cell? ⟨b, o + i, none⟩ = some (.float .f32 (lk.getD i 0))) := fun i hi => (hcell i _ (fl_get hi)).1
  clear hcell
  have HNE : Hid (¬ b = w.heap.size) := by show ¬ _; omega
  have HM := Lib.hid hm
  clear hm
  go_enter Try.func29, Try.ntmps29
  go_wp2_with (first | (go_at_call 77; refine (containsClock_any (.slice ao n cap) n l _ ?_).mono ?_; (focus (refine RowAt.below H.out ?_; (repeat (first | assumption | (with_reducible exact Below.refl _ _) | (with_reducible refine Below.drewN ?_ _) | (with_reducible refine Below.drew ?_) | (with_reducible refine Below.allocS ?_ _) | ((with_reducible refine Below.setCell ?_ ?_ _); rotate_left; focus (first | omega | (simp; done) | (simp; omega))) | (with_reducible refine Below.step ?_ (by assumption)))); done)); rintro e w1 ⟨rfl, hb⟩; rw [HU.out]; have hk := Held.below hb (l := [(⟨w.heap.size, 0, none⟩, .slice ao n cap), (⟨w.heap.size, 1, none⟩, .slice (some ⟨b, o, none⟩) lk.length cap')]) (by simp [Held, go_sem]); simp only [Held, and_true] at hk) | (go_at_call 62; refine (inN_any n 1 12 _).mono ?_; rintro e w' ⟨rfl, h9⟩; subst w'; rw [hr]) | (go_at_call 60; refine (finite_any lk b o cap' _ g2 ?_).mono ?_; (focus (intro i hi; have hbb := HCL.out i hi; have hB : Below w.heap.size w w1 := (by (repeat (first | assumption | (with_reducible exact Below.refl _ _) | (with_reducible refine Below.drewN ?_ _) | (with_reducible refine Below.drew ?_) | (with_reducible refine Below.allocS ?_ _) | ((with_reducible refine Below.setCell ?_ ?_ _); rotate_left; focus (first | omega | (simp; done) | (simp; omega))) | (with_reducible refine Below.step ?_ (by assumption))))); rw [hB.cell (p := ⟨b, o + i, none⟩) hbl]; exact hbb)); rintro e w' ⟨n9, rfl, rfl⟩))
  go_ret
  refine ⟨ret_bool (by rw [HC.out, HR.out, HU.out, ← HQ.out]; simp [HM.out]), ?_⟩
  (repeat (first | assumption | (with_reducible exact Below.refl _ _) | (with_reducible refine Below.drewN ?_ _) | (with_reducible refine Below.drew ?_) | (with_reducible refine Below.allocS ?_ _) | ((with_reducible refine Below.setCell ?_ ?_ _); rotate_left; focus (first | omega | (simp; done) | (simp; omega))) | (with_reducible refine Below.step ?_ (by assumption))))

set_option maxRecDepth 100000 in
set_option maxHeartbeats 8000000 in
theorem lawValidClocks_walk (v0 : Value) (n0 : Nat) (l0 : List Nat) (v1 : Value) (n1 : Nat) (l1 : List Nat) (w : World) (h0 : RowAt w v0 2 n0 (fl l0)) (h1 : RowAt w v1 1 n1 (fl l1)) (hb0 : ∀ x ∈ l0, x < 4294967296) (hb1 : ∀ x ∈ l1, x < 4294967296) : Calls Try.prog 7 #[.agg #[v0, v1]] w fun e w' => e = .returned (.bool true) ∧ Below w.heap.size w w' := by
  have H0 := Lib.hid h0
  have H1 := Lib.hid h1
  have HB0 := Lib.hid hb0
  clear hb0
  have HB1 := Lib.hid hb1
  clear hb1
  clear h0 h1
  go_enter Try.func7, Try.ntmps7
  go_wp2_with fail
  refine (szClocks_any v0 n0 (fl l0) v1 n1 (fl l1) (1048576) _ ?_ ?_ (by omega)).mono ?_
  · refine RowAt.below H0.out ?_
    (repeat (first | assumption | (with_reducible exact Below.refl _ _) | (with_reducible refine Below.drewN ?_ _) | (with_reducible refine Below.drew ?_) | (with_reducible refine Below.allocS ?_ _) | ((with_reducible refine Below.setCell ?_ ?_ _); rotate_left; focus (first | omega | (simp; done) | (simp; omega))) | (with_reducible refine Below.step ?_ (by assumption))))
  · refine RowAt.below H1.out ?_
    (repeat (first | assumption | (with_reducible exact Below.refl _ _) | (with_reducible refine Below.drewN ?_ _) | (with_reducible refine Below.drew ?_) | (with_reducible refine Below.allocS ?_ _) | ((with_reducible refine Below.setCell ?_ ?_ _); rotate_left; focus (first | omega | (simp; done) | (simp; omega))) | (with_reducible refine Below.step ?_ (by assumption))))
  rintro e ws0 ⟨rfl, hcs0⟩
  have hk := Held.below hcs0 (l := [(⟨w.heap.size, 0, none⟩, v0), (⟨w.heap.size, 1, none⟩, v1)]) (by simp [Held, go_sem, *])
  simp only [Held, and_true] at hk
  have hBs0 : Below w.heap.size w ws0 := by (repeat (first | assumption | (with_reducible exact Below.refl _ _) | (with_reducible refine Below.drewN ?_ _) | (with_reducible refine Below.drew ?_) | (with_reducible refine Below.allocS ?_ _) | ((with_reducible refine Below.setCell ?_ ?_ _); rotate_left; focus (first | omega | (simp; done) | (simp; omega))) | (with_reducible refine Below.step ?_ (by assumption))))
  clear hcs0
  by_cases hs0 : n0 + n1 ≤ 1048576
  case neg =>
    rw [if_neg hs0]
    go_wp2_with fail
    go_ret
    refine ⟨rfl, ?_⟩
    (repeat (first | assumption | (with_reducible exact Below.refl _ _) | (with_reducible refine Below.drewN ?_ _) | (with_reducible refine Below.drew ?_) | (with_reducible refine Below.allocS ?_ _) | ((with_reducible refine Below.setCell ?_ ?_ _); rotate_left; focus (first | omega | (simp; done) | (simp; omega))) | (with_reducible refine Below.step ?_ (by assumption))))
  rw [if_pos hs0]
  go_wp2_with fail
  refine (toClocks_any v0 n0 v1 n1 l0 l1 _ ?_ ?_ (by omega) (by omega)).mono ?_
  · refine RowAt.below H0.out ?_
    (repeat (first | assumption | (with_reducible exact Below.refl _ _) | (with_reducible refine Below.drewN ?_ _) | (with_reducible refine Below.drew ?_) | (with_reducible refine Below.allocS ?_ _) | ((with_reducible refine Below.setCell ?_ ?_ _); rotate_left; focus (first | omega | (simp; done) | (simp; omega))) | (with_reducible refine Below.step ?_ (by assumption))))
  · refine RowAt.below H1.out ?_
    (repeat (first | assumption | (with_reducible exact Below.refl _ _) | (with_reducible refine Below.drewN ?_ _) | (with_reducible refine Below.drew ?_) | (with_reducible refine Below.allocS ?_ _) | ((with_reducible refine Below.setCell ?_ ?_ _); rotate_left; focus (first | omega | (simp; done) | (simp; omega))) | (with_reducible refine Below.step ?_ (by assumption))))
  rintro e w1 ⟨g0, g1, rfl, o0, o1, one0, c1⟩
  have hk := Held.below c1 (l := [(⟨w.heap.size, 0, none⟩, v0), (⟨w.heap.size, 1, none⟩, v1)]) (by simp [Held, go_sem, *])
  simp only [Held, and_true] at hk
  have hBw1 : Below w.heap.size w w1 := by (repeat (first | assumption | (with_reducible exact Below.refl _ _) | (with_reducible refine Below.drewN ?_ _) | (with_reducible refine Below.drew ?_) | (with_reducible refine Below.allocS ?_ _) | ((with_reducible refine Below.setCell ?_ ?_ _); rotate_left; focus (first | omega | (simp; done) | (simp; omega))) | (with_reducible refine Below.step ?_ (by assumption))))
  go_wp2_with fail
  refine (specValidClocks_any _ _ n0 n1 l0 l1 _ (ownsRow_rowAt o0) (ownsRow_rowAt o1)).mono ?_
  rintro e w2 ⟨rfl, c2⟩
  have hk := Held.below c2 (l := [(⟨w.heap.size, 0, none⟩, v0), (⟨w.heap.size, 1, none⟩, v1)]) (by simp [Held, go_sem, *])
  simp only [Held, and_true] at hk
  have hBw2 : Below w.heap.size w w2 := by (repeat (first | assumption | (with_reducible exact Below.refl _ _) | (with_reducible refine Below.drewN ?_ _) | (with_reducible refine Below.drew ?_) | (with_reducible refine Below.allocS ?_ _) | ((with_reducible refine Below.setCell ?_ ?_ _); rotate_left; focus (first | omega | (simp; done) | (simp; omega))) | (with_reducible refine Below.step ?_ (by assumption))))
  clear o0 o1
  go_wp2_with fail
  refine (toClocks_any v0 n0 v1 n1 l0 l1 _ ?_ ?_ (by omega) (by omega)).mono ?_
  · refine RowAt.below H0.out ?_
    (repeat (first | assumption | (with_reducible exact Below.refl _ _) | (with_reducible refine Below.drewN ?_ _) | (with_reducible refine Below.drew ?_) | (with_reducible refine Below.allocS ?_ _) | ((with_reducible refine Below.setCell ?_ ?_ _); rotate_left; focus (first | omega | (simp; done) | (simp; omega))) | (with_reducible refine Below.step ?_ (by assumption))))
  · refine RowAt.below H1.out ?_
    (repeat (first | assumption | (with_reducible exact Below.refl _ _) | (with_reducible refine Below.drewN ?_ _) | (with_reducible refine Below.drew ?_) | (with_reducible refine Below.allocS ?_ _) | ((with_reducible refine Below.setCell ?_ ?_ _); rotate_left; focus (first | omega | (simp; done) | (simp; omega))) | (with_reducible refine Below.step ?_ (by assumption))))
  rintro e w3 ⟨g0, g1, rfl, o0, o1, one0, c3⟩
  have hk := Held.below c3 (l := [(⟨w.heap.size, 0, none⟩, v0), (⟨w.heap.size, 1, none⟩, v1)]) (by simp [Held, go_sem, *])
  simp only [Held, and_true] at hk
  have hBw3 : Below w.heap.size w w3 := by (repeat (first | assumption | (with_reducible exact Below.refl _ _) | (with_reducible refine Below.drewN ?_ _) | (with_reducible refine Below.drew ?_) | (with_reducible refine Below.allocS ?_ _) | ((with_reducible refine Below.setCell ?_ ?_ _); rotate_left; focus (first | omega | (simp; done) | (simp; omega))) | (with_reducible refine Below.step ?_ (by assumption))))
  have hb3 : ¬ w.heap.size = w3.heap.size := by omega
  go_wp2_with fail
  refine (implValidClocks_any _ _ n0 n1 l0 l1 _ ((ownsRow_rowAt o0).below (by (repeat (first | (with_reducible exact Below.refl _ _) | (with_reducible refine Below.drewN ?_ _) | (with_reducible refine Below.drew ?_) | (with_reducible refine Below.allocS ?_ _) | ((with_reducible refine Below.setCell ?_ ?_ _); rotate_left; focus (first | omega | (simp; done) | (simp; omega))))))) ((ownsRow_rowAt o1).below (by (repeat (first | (with_reducible exact Below.refl _ _) | (with_reducible refine Below.drewN ?_ _) | (with_reducible refine Below.drew ?_) | (with_reducible refine Below.allocS ?_ _) | ((with_reducible refine Below.setCell ?_ ?_ _); rotate_left; focus (first | omega | (simp; done) | (simp; omega)))))))).mono ?_
  rintro e w4 ⟨rfl, c4⟩
  have hk := Held.below c4 (l := [(⟨w.heap.size, 0, none⟩, v0), (⟨w.heap.size, 1, none⟩, v1), (⟨w3.heap.size, 0, none⟩, .slice (some ⟨g0, 0, none⟩) n0 n0), (⟨w3.heap.size, 1, none⟩, .slice (some ⟨g1, 0, none⟩) n1 n1)]) (by simp [Held, go_sem, *])
  simp only [Held, and_true] at hk
  have hBw4 : Below w.heap.size w w4 := by (repeat (first | assumption | (with_reducible exact Below.refl _ _) | (with_reducible refine Below.drewN ?_ _) | (with_reducible refine Below.drew ?_) | (with_reducible refine Below.allocS ?_ _) | ((with_reducible refine Below.setCell ?_ ?_ _); rotate_left; focus (first | omega | (simp; done) | (simp; omega))) | (with_reducible refine Below.step ?_ (by assumption))))
  have q4 : Below w3.heap.size w3 w4 := by
    refine Below.step ?_ c4
    (repeat (first | (with_reducible exact Below.refl _ _) | (with_reducible refine Below.drewN ?_ _) | (with_reducible refine Below.drew ?_) | (with_reducible refine Below.allocS ?_ _) | ((with_reducible refine Below.setCell ?_ ?_ _); rotate_left; focus (first | omega | (simp; done) | (simp; omega)))))
  have R0 := Lib.hid ((ownsRow_rowAt o0).below q4)
  have R1 := Lib.hid ((ownsRow_rowAt o1).below q4)
  clear o0 o1
  go_wp2_with fail
  have hst : stableV [(2, 24, (fun v w => ∃ s0 s1, v = .agg #[s0, s1] ∧ RowAt w s0 2 n0 (fl l0) ∧ RowAt w s1 1 n1 (fl l1)))] := by
    intro q hq
    obtain rfl := List.mem_singleton.1 hq
    intro v w w' hb hh
    obtain ⟨s0, s1, rfl, r0, r1⟩ := hh; exact ⟨s0, s1, rfl, r0.below hb, r1.below hb⟩
  refine region_calmV w4 [(⟨w.heap.size, 0, none⟩, v0), (⟨w.heap.size, 1, none⟩, v1), (⟨w3.heap.size, 0, none⟩, .slice (some ⟨g0, 0, none⟩) n0 n0), (⟨w3.heap.size, 1, none⟩, .slice (some ⟨g1, 0, none⟩) n1 n1)] (fun f _ v => (f = 28 ∧ ∃ s0 s1, v = .agg #[s0, s1]) ∨ (f = 30 ∧ v = .bool true)) [(2, 24, (fun v w => ∃ s0 s1, v = .agg #[s0, s1] ∧ RowAt w s0 2 n0 (fl l0) ∧ RowAt w s1 1 n1 (fl l1)))] (by kernel_rfl) (by kernel_rfl) (by kernel_rfl) ⟨by simp [Held, go_sem, *], by (repeat (first | assumption | (with_reducible exact Below.refl _ _) | (with_reducible refine Below.drewN ?_ _) | (with_reducible refine Below.drew ?_) | (with_reducible refine Below.allocS ?_ _) | ((with_reducible refine Below.setCell ?_ ?_ _); rotate_left; focus (first | omega | (simp; done) | (simp; omega))) | (with_reducible refine Below.step ?_ (by assumption))))⟩ ?_
  repeat (first | (first | (refine calmV_plain hst rfl rfl ?_ (fun K hK w1 hC => ?_); (focus (intro _ _; simp [RVF]; done)); have hC' := hC.1; simp only [Held, and_true] at hC'; go_wp2_with (first | (refine wpList_fbin rfl rfl rfl rfl rfl (fun r n hr => ?_)) | (refine wpList_widen rfl rfl Try.underlying85 Try.underlying23 rfl (fun r n hr => ?_))); refine ⟨rfl, (by first | exact Below.refl _ _ | exact below_drewN _), hK _ ?_⟩; clear hC hC' hK K w1) | (refine calmV_check rfl rfl rfl ?_ ?_; (focus (intro _ _; simp [RVF]; done))) | (refine calmV_skip rfl ?_ ?_; (focus (intro _ _; simp [RVF]; done)); simp [Act.put])) | (refine calmV_call (f := 28) (args := _) hst rfl (by (intro w1; simp [execOp, resolve, invoke, go_sem]; with_reducible rfl)) (fun w1 hC hD => ?_) ?_; (focus (refine (toClocks_any v0 n0 v1 n1 l0 l1 _ ?_ ?_ (by omega) (by omega)).mono ?_; (focus (refine RowAt.below H0.out ?_; have hB9 := hC.2; (repeat (first | assumption | (with_reducible exact Below.refl _ _) | (with_reducible refine Below.drewN ?_ _) | (with_reducible refine Below.drew ?_) | (with_reducible refine Below.allocS ?_ _) | ((with_reducible refine Below.setCell ?_ ?_ _); rotate_left; focus (first | omega | (simp; done) | (simp; omega))) | (with_reducible refine Below.step ?_ (by assumption)))); done)); (focus (refine RowAt.below H1.out ?_; have hB9 := hC.2; (repeat (first | assumption | (with_reducible exact Below.refl _ _) | (with_reducible refine Below.drewN ?_ _) | (with_reducible refine Below.drew ?_) | (with_reducible refine Below.allocS ?_ _) | ((with_reducible refine Below.setCell ?_ ?_ _); rotate_left; focus (first | omega | (simp; done) | (simp; omega))) | (with_reducible refine Below.step ?_ (by assumption)))); done)); rintro e w2 ⟨g'0, g'1, rfl, o'0, o'1, o'ne0, hb2⟩; exact ⟨_, rfl, .inl ⟨rfl, _, _, rfl⟩, (by simp [RVF, Act.put, Act.eval]; exact ⟨_, _, ⟨rfl, rfl⟩, ownsRow_rowAt o'0, ownsRow_rowAt o'1⟩), hb2⟩)); (intro v hv; simp at hv; obtain ⟨s0, s1, rfl⟩ := hv)) | (refine calmV_call (f := 30) (args := _) hst rfl (by (intro w1; simp [execOp, resolve, invoke, go_sem]; with_reducible rfl)) (fun w1 hC hD => ?_) ?_; (focus (have hf := RVF_get (depV hD (ia := 2) (by kernel_rfl)) (List.mem_singleton.2 rfl); simp [Act.put, Act.eval] at hf; obtain ⟨t0, t1, ⟨rfl, rfl⟩, hf0, hf1⟩ := hf; refine (eqClocks_any _ _ n0 _ _ n1 l0 l0 l1 l1 _ ?_ ?_ rfl ?_ ?_ rfl).mono ?_; (focus (exact R0.out.below hC.2)); (focus (exact hf0)); (focus (exact R1.out.below hC.2)); (focus (exact hf1)); rintro e w2 ⟨rfl, hb2⟩; exact ⟨_, rfl, .inr ⟨rfl, rfl⟩, (by simp [RVF]), hb2⟩)); (intro v hv; simp at hv; subst hv)))
  refine calmV_nil ?_
  intro w' hC hF
  have hC' := hC.1
  simp only [Held, and_true] at hC'
  go_wp2_with fail
  go_ret
  refine ⟨rfl, ?_⟩
  have hB := hC.2
  (repeat (first | assumption | (with_reducible exact Below.refl _ _) | (with_reducible refine Below.drewN ?_ _) | (with_reducible refine Below.drew ?_) | (with_reducible refine Below.allocS ?_ _) | ((with_reducible refine Below.setCell ?_ ?_ _); rotate_left; focus (first | omega | (simp; done) | (simp; omega))) | (with_reducible refine Below.step ?_ (by assumption))))

end Go.Proofs.Ytbmabpnolheghaa
