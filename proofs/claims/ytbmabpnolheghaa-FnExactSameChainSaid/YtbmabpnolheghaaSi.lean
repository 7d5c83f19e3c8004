/-
  The walks of clocks that are the same, and the law SameClocks.
-/
import Derived.Test.YtbmabpnolheghaaSh
import Derived.Test.YtbmabpnolheghaaSg
set_option linter.unusedVariables false
set_option linter.unusedSimpArgs false
namespace Go.Proofs.Ytbmabpnolheghaa
open Go.RowKit

theorem RB.quietc {P : Program} {f : FuncId} {args : Array Value} {w : World} {c n : Nat} {v : Bool} (h : Calls P f args (w.drewN (c + n)) (RB v (w.drewN (c + n)))) :
    Calls P f args (w.drewN (c + n)) fun e w'' => e = .returned (.bool v) ∧ ∃ m, w'' = w.drewN (c + m) :=
  h.mono fun _ _ ⟨m, he, hm⟩ => ⟨he, n + m, by rw [hm, World.drewN_drewN, Nat.add_assoc]⟩
def clockSame (l m : List Nat) (k : Nat) : Bool := sameB (l.getD (k * 2) 0) (m.getD (k * 2) 0) && sameB (l.getD (k * 2 + 1) 0) (m.getD (k * 2 + 1) 0)
def numSame (l m : List Nat) (k : Nat) : Bool := sameB (l.getD k 0) (m.getD k 0)
def rowsSame (p : Nat → Bool) (n m : Nat) : Bool := decide (n = m) && upto p n
def clocksSame (n : Nat) (l : List Nat) (q : Nat) (lk : List Nat) (n' : Nat) (l' : List Nat) (q' : Nat) (lk' : List Nat) : Bool := rowsSame (clockSame l l') n n' && rowsSame (numSame lk lk') q q'
set_option maxRecDepth 100000 in
set_option maxHeartbeats 4000000 in
theorem sameClock_any (x0 x1 y0 y1 : Nat) (w : World) : Calls Try.prog 82 #[.agg #[.float .f32 x0, .float .f32 x1], .agg #[.float .f32 y0, .float .f32 y1]] w (BB (sameB x0 y0 && sameB x1 y1) w) := by
  cases s0 : sameB x0 y0 <;> cases s1 : sameB x1 y1
  all_goals
    go_enter Try.func82, Try.ntmps82
    go_wp2_with (first | (go_at_call 68; refine (SameNumber_any _ _ _).mono ?_; rintro e w' ⟨n9, rfl, rfl⟩))
    go_ret
    refine ⟨ret_bool (by simp [s0, s1]), ?_⟩
    (repeat (first | assumption | (with_reducible exact Below.refl _ _) | (with_reducible refine Below.drewN ?_ _) | (with_reducible refine Below.drew ?_) | (with_reducible refine Below.allocS ?_ _) | ((with_reducible refine Below.setCell ?_ ?_ _); rotate_left; focus (first | omega | (simp; done) | (simp; omega))) | (with_reducible refine Below.step ?_ (by assumption))))
set_option maxRecDepth 100000 in
set_option maxHeartbeats 4000000 in
theorem equalClocks_any (v v' : Value) (n m : Nat) (l l' : List Nat) (w : World) (h : RowAt w v 2 n (fl l)) (h' : RowAt w v' 2 m (fl l')) :
    Calls Try.prog 83 #[v, v', .func (.func 82) #[] #[]] w (BB (rowsSame (clockSame l l') n m) w) := by
  obtain ⟨h1, h2, ao, cap, rfl, h3⟩ := h
  obtain ⟨g1, g2, ao', cap', rfl, g3⟩ := h'
  have H3 := Lib.hid h3
  have G3 := Lib.hid g3
  rw [fl_length] at h1 g1
  have h2' : n ≤ 9223372036854775807 := h2
  have g2' : m ≤ 9223372036854775807 := g2
  clear h3 g3 h2 g2
  by_cases he : n = m
  case neg =>
    have d1 : ((n : Int) != (m : Int)) = true := by simp; omega
    have HE := Lib.hid he
    clear he
    go_enter Try.func83, Try.ntmps83
    go_wp2
    go_ret
    exact ⟨ret_bool (by unfold rowsSame; simp [HE.out]), Below.refl _ _⟩
  have d1 : ((n : Int) != (m : Int)) = false := by simp; omega
  have HE := Lib.hid he
  have hnm : n ≤ m := Nat.le_of_eq he
  have hmn : m ≤ n := Nat.le_of_eq he.symm
  clear he
  go_enter Try.func83, Try.ntmps83
  go_wp2
  clear d1
  go_loopw [17] (fun i wr => ∃ k : Nat, k ≤ n ∧ i = .int .i64 (k : Int) ∧ (∀ j, j < k → clockSame l l' j = true) ∧ Below w.heap.size w wr) (fun i _ => n - (intOf i).toNat)
  case atStart => exact ⟨0, Nat.zero_le _, rfl, fun j hj => absurd hj (Nat.not_lt_zero _), by (repeat (first | assumption | (with_reducible exact Below.refl _ _) | (with_reducible refine Below.drewN ?_ _) | (with_reducible refine Below.drew ?_) | (with_reducible refine Below.allocS ?_ _) | ((with_reducible refine Below.setCell ?_ ?_ _); rotate_left; focus (first | omega | (simp; done) | (simp; omega))) | (with_reducible refine Below.step ?_ (by assumption))))⟩
  case round =>
    obtain ⟨k, hk, rfl, hall, hbel⟩ := hrel
    have HA := Lib.hid hall
    clear hall
    by_cases hlt : k < n
    · have hlt' : k < m := by omega
      obtain ⟨b, o, rfl, hbl, hcell⟩ := H3.out.resolve_left (by omega)
      obtain ⟨x0, hx0⟩ : ∃ x, Hid (l.getD (k * 2) 0 = x) := ⟨_, rfl⟩
      have fx0 : wr.cell? ⟨b, o + k * 2, none⟩ = some (.float .f32 x0) := by rw [hbel.cell (p := ⟨b, o + k * 2, none⟩) hbl]; exact (hcell (k * 2) (.float .f32 x0) (by rw [← hx0.out]; exact fl_get (by omega))).1
      obtain ⟨x1, hx1⟩ : ∃ x, Hid (l.getD (k * 2 + 1) 0 = x) := ⟨_, rfl⟩
      have fx1 : wr.cell? ⟨b, o + k * 2 + 1, none⟩ = some (.float .f32 x1) := by rw [hbel.cell (p := ⟨b, o + k * 2 + 1, none⟩) hbl]; exact (hcell (k * 2 + 1) (.float .f32 x1) (by rw [← hx1.out]; exact fl_get (by omega))).1
      clear hcell
      have hblw : b < wr.heap.size := Nat.lt_of_lt_of_le hbl hbel.size
      obtain ⟨b', o', rfl, gbl, hcell⟩ := G3.out.resolve_left (by omega)
      obtain ⟨y0, hy0⟩ : ∃ x, Hid (l'.getD (k * 2) 0 = x) := ⟨_, rfl⟩
      have fy0 : wr.cell? ⟨b', o' + k * 2, none⟩ = some (.float .f32 y0) := by rw [hbel.cell (p := ⟨b', o' + k * 2, none⟩) gbl]; exact (hcell (k * 2) (.float .f32 y0) (by rw [← hy0.out]; exact fl_get (by omega))).1
      obtain ⟨y1, hy1⟩ : ∃ x, Hid (l'.getD (k * 2 + 1) 0 = x) := ⟨_, rfl⟩
      have fy1 : wr.cell? ⟨b', o' + k * 2 + 1, none⟩ = some (.float .f32 y1) := by rw [hbel.cell (p := ⟨b', o' + k * 2 + 1, none⟩) gbl]; exact (hcell (k * 2 + 1) (.float .f32 y1) (by rw [← hy1.out]; exact fl_get (by omega))).1
      clear hcell
      have gblw : b' < wr.heap.size := Nat.lt_of_lt_of_le gbl hbel.size
      have HOK : Hid (clockSame l l' k = (sameB x0 y0 && sameB x1 y1)) := by show _ = _; unfold clockSame; rw [hx0.out, hx1.out, hy0.out, hy1.out]
      cases hs : (sameB x0 y0 && sameB x1 y1)
      · go_wp2_with (first | (go_at_call 82; refine (sameClock_any x0 x1 y0 y1 _).mono ?_; rintro e w' ⟨rfl, hb9⟩; rw [hs]))
        go_ret
        refine ⟨ret_bool (by unfold rowsSame; rw [upto_false hlt (by rw [HOK.out]; exact hs), Bool.and_false]), ?_⟩
        (repeat (first | assumption | (with_reducible exact Below.refl _ _) | (with_reducible refine Below.drewN ?_ _) | (with_reducible refine Below.drew ?_) | (with_reducible refine Below.allocS ?_ _) | ((with_reducible refine Below.setCell ?_ ?_ _); rotate_left; focus (first | omega | (simp; done) | (simp; omega))) | (with_reducible refine Below.step ?_ (by assumption))))
      · go_wp2_with (first | (go_at_call 82; refine (sameClock_any x0 x1 y0 y1 _).mono ?_; rintro e w' ⟨rfl, hb9⟩; rw [hs]))
        go_roundw
        case rel => exact ⟨k + 1, hlt, by go_num, all_step HA.out (by rw [HOK.out]; exact hs), by (repeat (first | assumption | (with_reducible exact Below.refl _ _) | (with_reducible refine Below.drewN ?_ _) | (with_reducible refine Below.drew ?_) | (with_reducible refine Below.allocS ?_ _) | ((with_reducible refine Below.setCell ?_ ?_ _); rotate_left; focus (first | omega | (simp; done) | (simp; omega))) | (with_reducible refine Below.step ?_ (by assumption))))⟩
        case measure => simp [intOf]; omega
    · obtain rfl : k = n := by omega
      go_wp2
      go_ret
      exact ⟨ret_bool (by unfold rowsSame; rw [upto_true HA.out]; simp [HE.out]), hbel⟩

set_option maxRecDepth 100000 in
set_option maxHeartbeats 4000000 in
theorem equalNums_any (v v' : Value) (n m : Nat) (l l' : List Nat) (w : World) (h : RowAt w v 1 n (fl l)) (h' : RowAt w v' 1 m (fl l')) :
    Calls Try.prog 134 #[v, v', .func (.func 68) #[] #[]] w (BB (rowsSame (numSame l l') n m) w) := by
  obtain ⟨h1, h2, ao, cap, rfl, h3⟩ := h
  obtain ⟨g1, g2, ao', cap', rfl, g3⟩ := h'
  have H3 := Lib.hid h3
  have G3 := Lib.hid g3
  rw [fl_length] at h1 g1
  have h2' : n ≤ 9223372036854775807 := h2
  have g2' : m ≤ 9223372036854775807 := g2
  clear h3 g3 h2 g2
  by_cases he : n = m
  case neg =>
    have d1 : ((n : Int) != (m : Int)) = true := by simp; omega
    have HE := Lib.hid he
    clear he
    go_enter Try.func134, Try.ntmps134
    go_wp2
    go_ret
    exact ⟨ret_bool (by unfold rowsSame; simp [HE.out]), Below.refl _ _⟩
  have d1 : ((n : Int) != (m : Int)) = false := by simp; omega
  have HE := Lib.hid he
  have hnm : n ≤ m := Nat.le_of_eq he
  have hmn : m ≤ n := Nat.le_of_eq he.symm
  clear he
  go_enter Try.func134, Try.ntmps134
  go_wp2
  clear d1
  go_loopw [17] (fun i wr => ∃ k : Nat, k ≤ n ∧ i = .int .i64 (k : Int) ∧ (∀ j, j < k → numSame l l' j = true) ∧ Below w.heap.size w wr) (fun i _ => n - (intOf i).toNat)
  case atStart => exact ⟨0, Nat.zero_le _, rfl, fun j hj => absurd hj (Nat.not_lt_zero _), by (repeat (first | assumption | (with_reducible exact Below.refl _ _) | (with_reducible refine Below.drewN ?_ _) | (with_reducible refine Below.drew ?_) | (with_reducible refine Below.allocS ?_ _) | ((with_reducible refine Below.setCell ?_ ?_ _); rotate_left; focus (first | omega | (simp; done) | (simp; omega))) | (with_reducible refine Below.step ?_ (by assumption))))⟩
  case round =>
    obtain ⟨k, hk, rfl, hall, hbel⟩ := hrel
    have HA := Lib.hid hall
    clear hall
    by_cases hlt : k < n
    · have hlt' : k < m := by omega
      obtain ⟨b, o, rfl, hbl, hcell⟩ := H3.out.resolve_left (by omega)
      obtain ⟨x0, hx0⟩ : ∃ x, Hid (l.getD (k) 0 = x) := ⟨_, rfl⟩
      have fx0 : wr.cell? ⟨b, o + k, none⟩ = some (.float .f32 x0) := by rw [hbel.cell (p := ⟨b, o + k, none⟩) hbl]; exact (hcell (k) (.float .f32 x0) (by rw [← hx0.out]; exact fl_get (by omega))).1
      clear hcell
      have hblw : b < wr.heap.size := Nat.lt_of_lt_of_le hbl hbel.size
      obtain ⟨b', o', rfl, gbl, hcell⟩ := G3.out.resolve_left (by omega)
      obtain ⟨y0, hy0⟩ : ∃ x, Hid (l'.getD (k) 0 = x) := ⟨_, rfl⟩
      have fy0 : wr.cell? ⟨b', o' + k, none⟩ = some (.float .f32 y0) := by rw [hbel.cell (p := ⟨b', o' + k, none⟩) gbl]; exact (hcell (k) (.float .f32 y0) (by rw [← hy0.out]; exact fl_get (by omega))).1
      clear hcell
      have gblw : b' < wr.heap.size := Nat.lt_of_lt_of_le gbl hbel.size
      have HOK : Hid (numSame l l' k = (sameB x0 y0)) := by show _ = _; unfold numSame; rw [hx0.out, hy0.out]
      cases hs : (sameB x0 y0)
      · go_wp2_with (first | (go_at_call 68; refine (SameNumber_any x0 y0 _).mono ?_; rintro e w' ⟨n9, rfl, rfl⟩; rw [hs]))
        go_ret
        refine ⟨ret_bool (by unfold rowsSame; rw [upto_false hlt (by rw [HOK.out]; exact hs), Bool.and_false]), ?_⟩
        (repeat (first | assumption | (with_reducible exact Below.refl _ _) | (with_reducible refine Below.drewN ?_ _) | (with_reducible refine Below.drew ?_) | (with_reducible refine Below.allocS ?_ _) | ((with_reducible refine Below.setCell ?_ ?_ _); rotate_left; focus (first | omega | (simp; done) | (simp; omega))) | (with_reducible refine Below.step ?_ (by assumption))))
      · go_wp2_with (first | (go_at_call 68; refine (SameNumber_any x0 y0 _).mono ?_; rintro e w' ⟨n9, rfl, rfl⟩; rw [hs]))
        go_roundw
        case rel => exact ⟨k + 1, hlt, by go_num, all_step HA.out (by rw [HOK.out]; exact hs), by (repeat (first | assumption | (with_reducible exact Below.refl _ _) | (with_reducible refine Below.drewN ?_ _) | (with_reducible refine Below.drew ?_) | (with_reducible refine Below.allocS ?_ _) | ((with_reducible refine Below.setCell ?_ ?_ _); rotate_left; focus (first | omega | (simp; done) | (simp; omega))) | (with_reducible refine Below.step ?_ (by assumption))))⟩
        case measure => simp [intOf]; omega
    · obtain rfl : k = n := by omega
      go_wp2
      go_ret
      exact ⟨ret_bool (by unfold rowsSame; rw [upto_true HA.out]; simp [HE.out]), hbel⟩

set_option maxRecDepth 100000 in
set_option maxHeartbeats 4000000 in
theorem sameList_row (v v' : Value) (n m : Nat) (l l' : List Nat) (w : World) (h : RowAt w v 1 n (fl l)) (h' : RowAt w v' 1 m (fl l')) : Calls Try.prog 84 #[v, v'] w (BB (rowsSame (numSame l l') n m) w) := by
  have H := Lib.hid h
  have H' := Lib.hid h'
  clear h h'
  go_enter Try.func84, Try.ntmps84
  go_wp2_with fail
  refine (equalNums_any v v' n m l l' _ ?_ ?_).mono ?_
  · refine RowAt.below H.out ?_
    (repeat (first | assumption | (with_reducible exact Below.refl _ _) | (with_reducible refine Below.drewN ?_ _) | (with_reducible refine Below.drew ?_) | (with_reducible refine Below.allocS ?_ _) | ((with_reducible refine Below.setCell ?_ ?_ _); rotate_left; focus (first | omega | (simp; done) | (simp; omega))) | (with_reducible refine Below.step ?_ (by assumption))))
  · refine RowAt.below H'.out ?_
    (repeat (first | assumption | (with_reducible exact Below.refl _ _) | (with_reducible refine Below.drewN ?_ _) | (with_reducible refine Below.drew ?_) | (with_reducible refine Below.allocS ?_ _) | ((with_reducible refine Below.setCell ?_ ?_ _); rotate_left; focus (first | omega | (simp; done) | (simp; omega))) | (with_reducible refine Below.step ?_ (by assumption))))
  rintro e w1 ⟨rfl, hb⟩
  go_wp2_with fail
  go_ret
  refine ⟨rfl, ?_⟩
  (repeat (first | assumption | (with_reducible exact Below.refl _ _) | (with_reducible refine Below.drewN ?_ _) | (with_reducible refine Below.drew ?_) | (with_reducible refine Below.allocS ?_ _) | ((with_reducible refine Below.setCell ?_ ?_ _); rotate_left; focus (first | omega | (simp; done) | (simp; omega))) | (with_reducible refine Below.step ?_ (by assumption))))

set_option maxRecDepth 100000 in
set_option maxHeartbeats 4000000 in
theorem l01SameAll_any (v v' : Value) (n m : Nat) (l l' : List Nat) (w : World) (h : RowAt w v 1 n (fl l)) (h' : RowAt w v' 1 m (fl l')) (hb : ∀ x ∈ l, x < 4294967296) (hb' : ∀ x ∈ l', x < 4294967296) : Calls Try.prog 133 #[v, v'] w (RB (rowsSame (numSame l l') n m) w) := by
  obtain ⟨h1, h2, ao, cap, rfl, h3⟩ := h
  obtain ⟨g1, g2, ao', cap', rfl, g3⟩ := h'
  have H3 := Lib.hid h3
  have G3 := Lib.hid g3
  rw [fl_length] at h1 g1
  have h2' : n ≤ 9223372036854775807 := h2
  have g2' : m ≤ 9223372036854775807 := g2
  clear h3 g3 h2 g2
  have HB := Lib.hid hb
  have HB' := Lib.hid hb'
  clear hb hb'
  by_cases he : n = m
  case neg =>
    have d1 : ((n : Int) != (m : Int)) = true := by simp; omega
    have HE := Lib.hid he
    clear he
    go_enter Try.func133, Try.ntmps133
    go_wp2
    go_ret
    exact ⟨0, ret_bool (by unfold rowsSame; simp [HE.out]), rfl⟩
  subst he
  clear g2'
  go_enter Try.func133, Try.ntmps133
  go_wp2
  go_loopw [5] (fun i wr => ∃ k c : Nat, k ≤ n ∧ i = .int .i64 (k : Int) ∧ (∀ j, j < k → numSame l l' j = true) ∧ wr = w.drewN c) (fun i _ => n - (intOf i).toNat)
  case atStart => exact ⟨0, 0, Nat.zero_le _, rfl, fun j hj => absurd hj (Nat.not_lt_zero _), rfl⟩
  case round =>
    obtain ⟨k, c, hk, rfl, hall, rfl⟩ := hrel
    have HA := Lib.hid hall
    clear hall
    by_cases hlt : k < n
    · have hlt' : k < n := hlt
      obtain ⟨b, o, rfl, hbl, hcell⟩ := H3.out.resolve_left (by omega)
      obtain ⟨x0, hx0⟩ : ∃ x, Hid (l.getD (k) 0 = x) := ⟨_, rfl⟩
      have fx0 : w.cell? ⟨b, o + k, none⟩ = some (.float .f32 x0) := (hcell (k) (.float .f32 x0) (by rw [← hx0.out]; exact fl_get (by omega))).1
      clear hcell
      obtain ⟨b', o', rfl, gbl, hcell⟩ := G3.out.resolve_left (by omega)
      obtain ⟨y0, hy0⟩ : ∃ x, Hid (l'.getD (k) 0 = x) := ⟨_, rfl⟩
      have fy0 : w.cell? ⟨b', o' + k, none⟩ = some (.float .f32 y0) := (hcell (k) (.float .f32 y0) (by rw [← hy0.out]; exact fl_get (by omega))).1
      clear hcell
      have HOK : Hid (numSame l l' k = (sameB x0 y0)) := by show _ = _; unfold numSame; rw [hx0.out, hy0.out]
      have bx0 : x0 < 4294967296 := by rw [← hx0.out]; exact bit_of HB.out _
      have by0 : y0 < 4294967296 := by rw [← hy0.out]; exact bit_of HB'.out _
      cases s0 : sameB x0 y0
      · go_wp2_with fail
        go_quiet ((go_at_call 65; exact RB.quietc (l01Same_lit (by assumption) (by assumption) (by assumption))))
        go_wp2
        go_ret
        exact ⟨_, ret_bool (by unfold rowsSame; rw [upto_false hlt (by rw [HOK.out]; exact s0), Bool.and_false]), by rw [World.drewN_drewN]⟩
      · go_wp2_with fail
        go_quiet ((go_at_call 65; exact RB.quietc (l01Same_lit (by assumption) (by assumption) (by assumption))))
        go_wp2
        go_roundw
        case rel => exact ⟨k + 1, _, hlt, by go_num, all_step HA.out (by rw [HOK.out]; exact s0), rfl⟩
        case measure => simp [intOf]; omega
    · obtain rfl : k = n := by omega
      go_wp2
      go_ret
      exact ⟨c, ret_bool (by unfold rowsSame; rw [upto_true HA.out]; simp), rfl⟩
theorem l01SameAll_lit {v v' : Value} {n m : Nat} {l l' : List Nat} {w : World} {u : Bool} (hu : rowsSame (numSame l l') n m = u) (h : RowAt w v 1 n (fl l)) (h' : RowAt w v' 1 m (fl l')) (hb : ∀ x ∈ l, x < 4294967296) (hb' : ∀ x ∈ l', x < 4294967296) : Calls Try.prog 133 #[v, v'] w (RB u w) := hu ▸ l01SameAll_any v v' n m l l' w h h' hb hb'

set_option maxRecDepth 100000 in
set_option maxHeartbeats 4000000 in
theorem l05Same_any (v v' u u' : Value) (n m q q' : Nat) (l l' lk lk' : List Nat) (p p' : Nat) (w : World) (h : RowAt w v 2 n (fl l)) (h' : RowAt w v' 2 m (fl l')) (hk : RowAt w u 1 q (fl lk)) (hk' : RowAt w u' 1 q' (fl lk')) (hb : ∀ x ∈ l, x < 4294967296) (hb' : ∀ x ∈ l', x < 4294967296) (hbk : ∀ x ∈ lk, x < 4294967296) (hbk' : ∀ x ∈ lk', x < 4294967296)
    (hp : Held [(⟨p, 0, none⟩, v), (⟨p, 1, none⟩, u), (⟨p', 0, none⟩, v'), (⟨p', 1, none⟩, u')] w) : Calls Try.prog 81 #[.pointer (some ⟨p, 0, none⟩), .pointer (some ⟨p', 0, none⟩)] w (RB (clocksSame n l q lk m l' q' lk') w) := by
  obtain ⟨h1, h2, ao, cap, rfl, h3⟩ := h
  obtain ⟨g1, g2, ao', cap', rfl, g3⟩ := h'
  have H3 := Lib.hid h3
  have G3 := Lib.hid g3
  rw [fl_length] at h1 g1
  have h2' : n ≤ 9223372036854775807 := h2
  have g2' : m ≤ 9223372036854775807 := g2
  clear h3 g3 h2 g2
  have HB := Lib.hid hb
  have HB' := Lib.hid hb'
  have HBK := Lib.hid hbk
  have HBK' := Lib.hid hbk'
  have HK := Lib.hid hk
  have HK' := Lib.hid hk'
  clear hb hb' hbk hbk' hk hk'
  simp only [Held, and_true] at hp
  by_cases he : n = m
  case neg =>
    have d1 : ((n : Int) != (m : Int)) = true := by simp; omega
    have HE := Lib.hid he
    clear he
    go_enter Try.func81, Try.ntmps81
    go_wp2_with fail
    go_quiet (fail)
    go_wp2
    go_ret
    exact ⟨_, ret_bool (by unfold clocksSame rowsSame; simp [HE.out]), rfl⟩
  subst he
  clear g2'
  have d1 : ((n : Int) != (n : Int)) = false := by simp
  obtain ⟨t, hu⟩ : ∃ t, rowsSame (numSame lk lk') q q' = t := ⟨_, rfl⟩
  have HU := Lib.hid hu
  clear hu
  cases t
  · go_enter Try.func81, Try.ntmps81
    go_wp2_with fail
    go_quiet ((go_at_call 133; exact RB.quiet (l01SameAll_lit HU.out HK.out HK'.out HBK.out HBK'.out)))
    go_wp2
    go_ret
    exact ⟨_, ret_bool (by unfold clocksSame; rw [HU.out, Bool.and_false]), rfl⟩
  go_enter Try.func81, Try.ntmps81
  go_wp2_with fail
  go_quiet ((go_at_call 133; exact RB.quiet (l01SameAll_lit HU.out HK.out HK'.out HBK.out HBK'.out)))
  go_wp2
  go_loopw [34] (fun i wr => ∃ k c : Nat, k ≤ n ∧ i = .int .i64 (k : Int) ∧ (∀ j, j < k → clockSame l l' j = true) ∧ wr = w.drewN c) (fun i _ => n - (intOf i).toNat)
  case atStart => exact ⟨0, _, Nat.zero_le _, rfl, fun j hj => absurd hj (Nat.not_lt_zero _), rfl⟩
  case round =>
    obtain ⟨k, c, hk, rfl, hall, rfl⟩ := hrel
    have HA := Lib.hid hall
    clear hall
    by_cases hlt : k < n
    · have hlt' : k < n := hlt
      obtain ⟨b, o, rfl, hbl, hcell⟩ := H3.out.resolve_left (by omega)
      obtain ⟨x0, hx0⟩ : ∃ x, Hid (l.getD (k * 2) 0 = x) := ⟨_, rfl⟩
      have fx0 : w.cell? ⟨b, o + k * 2, none⟩ = some (.float .f32 x0) := (hcell (k * 2) (.float .f32 x0) (by rw [← hx0.out]; exact fl_get (by omega))).1
      obtain ⟨x1, hx1⟩ : ∃ x, Hid (l.getD (k * 2 + 1) 0 = x) := ⟨_, rfl⟩
      have fx1 : w.cell? ⟨b, o + k * 2 + 1, none⟩ = some (.float .f32 x1) := (hcell (k * 2 + 1) (.float .f32 x1) (by rw [← hx1.out]; exact fl_get (by omega))).1
      clear hcell
      obtain ⟨b', o', rfl, gbl, hcell⟩ := G3.out.resolve_left (by omega)
      obtain ⟨y0, hy0⟩ : ∃ x, Hid (l'.getD (k * 2) 0 = x) := ⟨_, rfl⟩
      have fy0 : w.cell? ⟨b', o' + k * 2, none⟩ = some (.float .f32 y0) := (hcell (k * 2) (.float .f32 y0) (by rw [← hy0.out]; exact fl_get (by omega))).1
      obtain ⟨y1, hy1⟩ : ∃ x, Hid (l'.getD (k * 2 + 1) 0 = x) := ⟨_, rfl⟩
      have fy1 : w.cell? ⟨b', o' + k * 2 + 1, none⟩ = some (.float .f32 y1) := (hcell (k * 2 + 1) (.float .f32 y1) (by rw [← hy1.out]; exact fl_get (by omega))).1
      clear hcell
      have HOK : Hid (clockSame l l' k = (sameB x0 y0 && sameB x1 y1)) := by show _ = _; unfold clockSame; rw [hx0.out, hx1.out, hy0.out, hy1.out]
      have bx0 : x0 < 4294967296 := by rw [← hx0.out]; exact bit_of HB.out _
      have bx1 : x1 < 4294967296 := by rw [← hx1.out]; exact bit_of HB.out _
      have by0 : y0 < 4294967296 := by rw [← hy0.out]; exact bit_of HB'.out _
      have by1 : y1 < 4294967296 := by rw [← hy1.out]; exact bit_of HB'.out _
      cases s0 : sameB x0 y0
      · go_wp2_with fail
        go_quiet ((go_at_call 65; exact RB.quietc (l01Same_lit (by assumption) (by assumption) (by assumption))))
        go_wp2
        go_ret
        exact ⟨_, ret_bool (by unfold clocksSame rowsSame; rw [upto_false hlt (by rw [HOK.out, s0]; rfl), Bool.and_false]; rfl), by rw [World.drewN_drewN]⟩
      cases s1 : sameB x1 y1
      · go_wp2_with fail
        go_quiet ((go_at_call 65; exact RB.quietc (l01Same_lit (by assumption) (by assumption) (by assumption))))
        go_wp2
        go_ret
        exact ⟨_, ret_bool (by unfold clocksSame rowsSame; rw [upto_false hlt (by rw [HOK.out, s0, s1]; rfl), Bool.and_false]; rfl), by rw [World.drewN_drewN]⟩
      · go_wp2_with fail
        go_quiet ((go_at_call 65; exact RB.quietc (l01Same_lit (by assumption) (by assumption) (by assumption))))
        go_wp2
        go_roundw
        case rel => exact ⟨k + 1, _, hlt, by go_num, all_step HA.out (by rw [HOK.out, s0, s1]; rfl), rfl⟩
        case measure => simp [intOf]; omega
    · obtain rfl : k = n := by omega
      go_wp2
      go_ret
      exact ⟨c, ret_bool (by unfold clocksSame; rw [HU.out]; unfold rowsSame; rw [upto_true HA.out]; simp), rfl⟩

set_option maxRecDepth 100000 in
set_option maxHeartbeats 4000000 in
theorem specSameClocks_any (v u v' u' : Value) (n q m q' : Nat) (l lk l' lk' : List Nat) (w : World) (h : RowAt w v 2 n (fl l)) (hk : RowAt w u 1 q (fl lk)) (h' : RowAt w v' 2 m (fl l')) (hk' : RowAt w u' 1 q' (fl lk')) (hb : ∀ x ∈ l, x < 4294967296) (hbk : ∀ x ∈ lk, x < 4294967296) (hb' : ∀ x ∈ l', x < 4294967296) (hbk' : ∀ x ∈ lk', x < 4294967296) : Calls Try.prog 31 #[.agg #[v, u], .agg #[v', u']] w (BB (clocksSame n l q lk m l' q' lk') w) := by
  have H := Lib.hid h
  have H' := Lib.hid h'
  have HK := Lib.hid hk
  have HK' := Lib.hid hk'
  clear h h' hk hk'
  go_enter Try.func31, Try.ntmps31
  go_wp2_with fail
  refine (l05Same_any v v' u u' n m q q' l l' lk lk' _ _ _ ?_ ?_ ?_ ?_ hb hb' hbk hbk' ?_).mono ?_
  · refine RowAt.below H.out ?_
    (repeat (first | assumption | (with_reducible exact Below.refl _ _) | (with_reducible refine Below.drewN ?_ _) | (with_reducible refine Below.drew ?_) | (with_reducible refine Below.allocS ?_ _) | ((with_reducible refine Below.setCell ?_ ?_ _); rotate_left; focus (first | omega | (simp; done) | (simp; omega))) | (with_reducible refine Below.step ?_ (by assumption))))
  · refine RowAt.below H'.out ?_
    (repeat (first | assumption | (with_reducible exact Below.refl _ _) | (with_reducible refine Below.drewN ?_ _) | (with_reducible refine Below.drew ?_) | (with_reducible refine Below.allocS ?_ _) | ((with_reducible refine Below.setCell ?_ ?_ _); rotate_left; focus (first | omega | (simp; done) | (simp; omega))) | (with_reducible refine Below.step ?_ (by assumption))))
  · refine RowAt.below HK.out ?_
    (repeat (first | assumption | (with_reducible exact Below.refl _ _) | (with_reducible refine Below.drewN ?_ _) | (with_reducible refine Below.drew ?_) | (with_reducible refine Below.allocS ?_ _) | ((with_reducible refine Below.setCell ?_ ?_ _); rotate_left; focus (first | omega | (simp; done) | (simp; omega))) | (with_reducible refine Below.step ?_ (by assumption))))
  · refine RowAt.below HK'.out ?_
    (repeat (first | assumption | (with_reducible exact Below.refl _ _) | (with_reducible refine Below.drewN ?_ _) | (with_reducible refine Below.drew ?_) | (with_reducible refine Below.allocS ?_ _) | ((with_reducible refine Below.setCell ?_ ?_ _); rotate_left; focus (first | omega | (simp; done) | (simp; omega))) | (with_reducible refine Below.step ?_ (by assumption))))
  · simp [Held, go_sem]
  rintro e w1 ⟨n9, rfl, rfl⟩
  go_wp2_with fail
  go_ret
  refine ⟨rfl, ?_⟩
  (repeat (first | assumption | (with_reducible exact Below.refl _ _) | (with_reducible refine Below.drewN ?_ _) | (with_reducible refine Below.drew ?_) | (with_reducible refine Below.allocS ?_ _) | ((with_reducible refine Below.setCell ?_ ?_ _); rotate_left; focus (first | omega | (simp; done) | (simp; omega))) | (with_reducible refine Below.step ?_ (by assumption))))

set_option maxRecDepth 100000 in
set_option maxHeartbeats 4000000 in
theorem implSameClocks_any (v u v' u' : Value) (n q m q' : Nat) (l lk l' lk' : List Nat) (w : World) (h : RowAt w v 2 n (fl l)) (hk : RowAt w u 1 q (fl lk)) (h' : RowAt w v' 2 m (fl l')) (hk' : RowAt w u' 1 q' (fl lk')) : Calls Try.prog 32 #[.agg #[v, u], .agg #[v', u']] w (BB (clocksSame n l q lk m l' q' lk') w) := by
  have H := Lib.hid h
  have H' := Lib.hid h'
  have HK := Lib.hid hk
  have HK' := Lib.hid hk'
  clear h h' hk hk'
  have HQ : Hid (clocksSame n l q lk m l' q' lk' = (rowsSame (clockSame l l') n m && rowsSame (numSame lk lk') q q')) := rfl
  obtain ⟨t, hu⟩ : ∃ t, Hid (rowsSame (clockSame l l') n m = t) := ⟨_, rfl⟩
  cases t
  all_goals
    go_enter Try.func32, Try.ntmps32
    go_wp2_with fail
    refine (equalClocks_any v v' n m l l' _ ?_ ?_).mono ?_
    · refine RowAt.below H.out ?_
      (repeat (first | assumption | (with_reducible exact Below.refl _ _) | (with_reducible refine Below.drewN ?_ _) | (with_reducible refine Below.drew ?_) | (with_reducible refine Below.allocS ?_ _) | ((with_reducible refine Below.setCell ?_ ?_ _); rotate_left; focus (first | omega | (simp; done) | (simp; omega))) | (with_reducible refine Below.step ?_ (by assumption))))
    · refine RowAt.below H'.out ?_
      (repeat (first | assumption | (with_reducible exact Below.refl _ _) | (with_reducible refine Below.drewN ?_ _) | (with_reducible refine Below.drew ?_) | (with_reducible refine Below.allocS ?_ _) | ((with_reducible refine Below.setCell ?_ ?_ _); rotate_left; focus (first | omega | (simp; done) | (simp; omega))) | (with_reducible refine Below.step ?_ (by assumption))))
    rintro e w1 ⟨rfl, hb⟩
    rw [hu.out]
    have hk := Held.below hb (l := [(⟨w.heap.size, 0, none⟩, v), (⟨w.heap.size, 1, none⟩, u), (⟨w.heap.size + 1, 0, none⟩, v'), (⟨w.heap.size + 1, 1, none⟩, u')]) (by simp [Held, go_sem])
    simp only [Held, and_true] at hk
    have hB1 : Below w.heap.size w w1 := by
      refine Below.step ?_ hb
      (repeat (first | (with_reducible exact Below.refl _ _) | (with_reducible refine Below.drewN ?_ _) | (with_reducible refine Below.drew ?_) | (with_reducible refine Below.allocS ?_ _) | ((with_reducible refine Below.setCell ?_ ?_ _); rotate_left; focus (first | omega | (simp; done) | (simp; omega)))))
    go_wp2_with (first | (go_at_call 84; refine (sameList_row u u' q q' lk lk' _ ?_ ?_).mono ?_; (focus (exact RowAt.below HK.out hB1)); (focus (exact RowAt.below HK'.out hB1)); rintro e w2 ⟨rfl, hb2⟩))
    go_ret
    refine ⟨ret_bool (by rw [HQ.out, hu.out]; simp), ?_⟩
    (repeat (first | assumption | (with_reducible exact Below.refl _ _) | (with_reducible refine Below.drewN ?_ _) | (with_reducible refine Below.drew ?_) | (with_reducible refine Below.allocS ?_ _) | ((with_reducible refine Below.setCell ?_ ?_ _); rotate_left; focus (first | omega | (simp; done) | (simp; omega))) | (with_reducible refine Below.step ?_ (by assumption))))

set_option maxRecDepth 100000 in
set_option maxHeartbeats 8000000 in
theorem lawSameClocks_walk (va0 : Value) (na0 : Nat) (la0 : List Nat) (va1 : Value) (na1 : Nat) (la1 : List Nat) (vb0 : Value) (nb0 : Nat) (lb0 : List Nat) (vb1 : Value) (nb1 : Nat) (lb1 : List Nat) (w : World) (ha0 : RowAt w va0 2 na0 (fl la0)) (ha1 : RowAt w va1 1 na1 (fl la1)) (hb0 : RowAt w vb0 2 nb0 (fl lb0)) (hb1 : RowAt w vb1 1 nb1 (fl lb1)) (hba0 : ∀ x ∈ la0, x < 4294967296) (hba1 : ∀ x ∈ la1, x < 4294967296) (hbb0 : ∀ x ∈ lb0, x < 4294967296) (hbb1 : ∀ x ∈ lb1, x < 4294967296) : Calls Try.prog 8 #[.agg #[va0, va1], .agg #[vb0, vb1]] w fun e w' => e = .returned (.bool true) ∧ Below w.heap.size w w' := by
  have Ha0 := Lib.hid ha0
  have Ha1 := Lib.hid ha1
  have HBa0 := Lib.hid hba0
  clear hba0
  have HBa1 := Lib.hid hba1
  clear hba1
  have Hb0 := Lib.hid hb0
  have Hb1 := Lib.hid hb1
  have HBb0 := Lib.hid hbb0
  clear hbb0
  have HBb1 := Lib.hid hbb1
  clear hbb1
  clear ha0 ha1 hb0 hb1
  go_enter Try.func8, Try.ntmps8
  go_wp2_with fail
  refine (szClocks_any va0 na0 (fl la0) va1 na1 (fl la1) (1048576) _ ?_ ?_ (by omega)).mono ?_
  · refine RowAt.below Ha0.out ?_
    (repeat (first | assumption | (with_reducible exact Below.refl _ _) | (with_reducible refine Below.drewN ?_ _) | (with_reducible refine Below.drew ?_) | (with_reducible refine Below.allocS ?_ _) | ((with_reducible refine Below.setCell ?_ ?_ _); rotate_left; focus (first | omega | (simp; done) | (simp; omega))) | (with_reducible refine Below.step ?_ (by assumption))))
  · refine RowAt.below Ha1.out ?_
    (repeat (first | assumption | (with_reducible exact Below.refl _ _) | (with_reducible refine Below.drewN ?_ _) | (with_reducible refine Below.drew ?_) | (with_reducible refine Below.allocS ?_ _) | ((with_reducible refine Below.setCell ?_ ?_ _); rotate_left; focus (first | omega | (simp; done) | (simp; omega))) | (with_reducible refine Below.step ?_ (by assumption))))
  rintro e ws0 ⟨rfl, hcs0⟩
  have hk := Held.below hcs0 (l := [(⟨w.heap.size, 0, none⟩, va0), (⟨w.heap.size, 1, none⟩, va1), (⟨w.heap.size + 1, 0, none⟩, vb0), (⟨w.heap.size + 1, 1, none⟩, vb1)]) (by simp [Held, go_sem, *])
  simp only [Held, and_true] at hk
  have hBs0 : Below w.heap.size w ws0 := by (repeat (first | assumption | (with_reducible exact Below.refl _ _) | (with_reducible refine Below.drewN ?_ _) | (with_reducible refine Below.drew ?_) | (with_reducible refine Below.allocS ?_ _) | ((with_reducible refine Below.setCell ?_ ?_ _); rotate_left; focus (first | omega | (simp; done) | (simp; omega))) | (with_reducible refine Below.step ?_ (by assumption))))
  clear hcs0
  by_cases hs0 : na0 + na1 ≤ 1048576
  case neg =>
    rw [if_neg hs0]
    go_wp2_with fail
    go_ret
    refine ⟨rfl, ?_⟩
    (repeat (first | assumption | (with_reducible exact Below.refl _ _) | (with_reducible refine Below.drewN ?_ _) | (with_reducible refine Below.drew ?_) | (with_reducible refine Below.allocS ?_ _) | ((with_reducible refine Below.setCell ?_ ?_ _); rotate_left; focus (first | omega | (simp; done) | (simp; omega))) | (with_reducible refine Below.step ?_ (by assumption))))
  rw [if_pos hs0]
  go_wp2_with fail
  refine (szClocks_any vb0 nb0 (fl lb0) vb1 nb1 (fl lb1) (1048576 - (na0 + na1)) _ ?_ ?_ (by omega)).mono ?_
  · refine RowAt.below Hb0.out ?_
    (repeat (first | assumption | (with_reducible exact Below.refl _ _) | (with_reducible refine Below.drewN ?_ _) | (with_reducible refine Below.drew ?_) | (with_reducible refine Below.allocS ?_ _) | ((with_reducible refine Below.setCell ?_ ?_ _); rotate_left; focus (first | omega | (simp; done) | (simp; omega))) | (with_reducible refine Below.step ?_ (by assumption))))
  · refine RowAt.below Hb1.out ?_
    (repeat (first | assumption | (with_reducible exact Below.refl _ _) | (with_reducible refine Below.drewN ?_ _) | (with_reducible refine Below.drew ?_) | (with_reducible refine Below.allocS ?_ _) | ((with_reducible refine Below.setCell ?_ ?_ _); rotate_left; focus (first | omega | (simp; done) | (simp; omega))) | (with_reducible refine Below.step ?_ (by assumption))))
  rintro e ws1 ⟨rfl, hcs1⟩
  have hk := Held.below hcs1 (l := [(⟨w.heap.size, 0, none⟩, va0), (⟨w.heap.size, 1, none⟩, va1), (⟨w.heap.size + 1, 0, none⟩, vb0), (⟨w.heap.size + 1, 1, none⟩, vb1)]) (by simp [Held, go_sem, *])
  simp only [Held, and_true] at hk
  have hBs1 : Below w.heap.size w ws1 := by (repeat (first | assumption | (with_reducible exact Below.refl _ _) | (with_reducible refine Below.drewN ?_ _) | (with_reducible refine Below.drew ?_) | (with_reducible refine Below.allocS ?_ _) | ((with_reducible refine Below.setCell ?_ ?_ _); rotate_left; focus (first | omega | (simp; done) | (simp; omega))) | (with_reducible refine Below.step ?_ (by assumption))))
  clear hcs1
  by_cases hs1 : nb0 + nb1 ≤ 1048576 - (na0 + na1)
  case neg =>
    rw [if_neg hs1]
    go_wp2_with fail
    go_ret
    refine ⟨rfl, ?_⟩
    (repeat (first | assumption | (with_reducible exact Below.refl _ _) | (with_reducible refine Below.drewN ?_ _) | (with_reducible refine Below.drew ?_) | (with_reducible refine Below.allocS ?_ _) | ((with_reducible refine Below.setCell ?_ ?_ _); rotate_left; focus (first | omega | (simp; done) | (simp; omega))) | (with_reducible refine Below.step ?_ (by assumption))))
  rw [if_pos hs1]
  go_wp2_with fail
  have hst : stableV [(1, 21, (fun v w => ∃ s0 s1, v = .agg #[s0, s1] ∧ RowAt w s0 2 na0 (fl la0) ∧ RowAt w s1 1 na1 (fl la1))), (3, 23, (fun v w => ∃ s0 s1, v = .agg #[s0, s1] ∧ RowAt w s0 2 nb0 (fl lb0) ∧ RowAt w s1 1 nb1 (fl lb1)))] := by
    intro q hq
    rcases List.mem_cons.1 hq with rfl | hq
    · intro v w w' hb hh
      obtain ⟨s0, s1, rfl, r0, r1⟩ := hh; exact ⟨s0, s1, rfl, r0.below hb, r1.below hb⟩
    obtain rfl := List.mem_singleton.1 hq
    intro v w w' hb hh
    obtain ⟨s0, s1, rfl, r0, r1⟩ := hh; exact ⟨s0, s1, rfl, r0.below hb, r1.below hb⟩
  refine region_calmV ws1 [(⟨w.heap.size, 0, none⟩, va0), (⟨w.heap.size, 1, none⟩, va1), (⟨w.heap.size + 1, 0, none⟩, vb0), (⟨w.heap.size + 1, 1, none⟩, vb1)] (fun f _ v => (f = 28 ∧ ∃ y0 y1 : Value, v = .agg #[y0, y1]) ∨ (f = 31 ∧ v = .bool (clocksSame na0 la0 na1 la1 nb0 lb0 nb1 lb1))) [(1, 21, (fun v w => ∃ s0 s1, v = .agg #[s0, s1] ∧ RowAt w s0 2 na0 (fl la0) ∧ RowAt w s1 1 na1 (fl la1))), (3, 23, (fun v w => ∃ s0 s1, v = .agg #[s0, s1] ∧ RowAt w s0 2 nb0 (fl lb0) ∧ RowAt w s1 1 nb1 (fl lb1)))] (by kernel_rfl) (by kernel_rfl) (by kernel_rfl) ⟨by simp [Held, go_sem, *], by (repeat (first | assumption | (with_reducible exact Below.refl _ _) | (with_reducible refine Below.drewN ?_ _) | (with_reducible refine Below.drew ?_) | (with_reducible refine Below.allocS ?_ _) | ((with_reducible refine Below.setCell ?_ ?_ _); rotate_left; focus (first | omega | (simp; done) | (simp; omega))) | (with_reducible refine Below.step ?_ (by assumption))))⟩ ?_
  repeat (first | (refine calmV_plain hst rfl rfl ?_ (fun K hK w1 hC => ?_); (focus (intro _ _; simp [RVF]; done)); have hC' := hC.1; simp only [Held, and_true] at hC'; go_wp2_with (first | (refine wpList_fbin rfl rfl rfl rfl rfl (fun r n hr => ?_)) | (refine wpList_widen rfl rfl Try.underlying85 Try.underlying23 rfl (fun r n hr => ?_))); refine ⟨rfl, (by first | exact Below.refl _ _ | exact below_drewN _), hK _ ?_⟩; clear hC hC' hK K w1) | (refine calmV_check rfl rfl rfl ?_ ?_; (focus (intro _ _; simp [RVF]; done))) | (refine calmV_skip rfl ?_ ?_; (focus (intro _ _; simp [RVF]; done)); simp [Act.put]))
  refine calmV_call (f := 28) (args := _) hst rfl (by (intro w1; simp [execOp, resolve, invoke, go_sem]; with_reducible rfl)) (fun w1 hC hD => ?_) ?_
  (focus (refine (toClocks_any va0 na0 va1 na1 la0 la1 _ ?_ ?_ (by omega) (by omega)).mono ?_; (focus (refine RowAt.below Ha0.out ?_; have hB9 := hC.2; (repeat (first | assumption | (with_reducible exact Below.refl _ _) | (with_reducible refine Below.drewN ?_ _) | (with_reducible refine Below.drew ?_) | (with_reducible refine Below.allocS ?_ _) | ((with_reducible refine Below.setCell ?_ ?_ _); rotate_left; focus (first | omega | (simp; done) | (simp; omega))) | (with_reducible refine Below.step ?_ (by assumption)))); done)); (focus (refine RowAt.below Ha1.out ?_; have hB9 := hC.2; (repeat (first | assumption | (with_reducible exact Below.refl _ _) | (with_reducible refine Below.drewN ?_ _) | (with_reducible refine Below.drew ?_) | (with_reducible refine Below.allocS ?_ _) | ((with_reducible refine Below.setCell ?_ ?_ _); rotate_left; focus (first | omega | (simp; done) | (simp; omega))) | (with_reducible refine Below.step ?_ (by assumption)))); done)); rintro e w2 ⟨g'0, g'1, rfl, o'0, o'1, o'ne0, hb2⟩; refine ⟨_, rfl, .inl ⟨rfl, _, _, rfl⟩, ?_, hb2⟩; simp [RVF, Act.put, Act.eval]; exact ⟨_, _, ⟨rfl, rfl⟩, ownsRow_rowAt o'0, ownsRow_rowAt o'1⟩)); (intro v hv; simp at hv; obtain ⟨y0, y1, rfl⟩ := hv)
  repeat (first | (refine calmV_plain hst rfl rfl ?_ (fun K hK w1 hC => ?_); (focus (intro _ _; simp [RVF]; done)); have hC' := hC.1; simp only [Held, and_true] at hC'; go_wp2_with (first | (refine wpList_fbin rfl rfl rfl rfl rfl (fun r n hr => ?_)) | (refine wpList_widen rfl rfl Try.underlying85 Try.underlying23 rfl (fun r n hr => ?_))); refine ⟨rfl, (by first | exact Below.refl _ _ | exact below_drewN _), hK _ ?_⟩; clear hC hC' hK K w1) | (refine calmV_check rfl rfl rfl ?_ ?_; (focus (intro _ _; simp [RVF]; done))) | (refine calmV_skip rfl ?_ ?_; (focus (intro _ _; simp [RVF]; done)); simp [Act.put]))
  refine calmV_call (f := 28) (args := _) hst rfl (by (intro w1; simp [execOp, resolve, invoke, go_sem]; with_reducible rfl)) (fun w1 hC hD => ?_) ?_
  (focus (refine (toClocks_any vb0 nb0 vb1 nb1 lb0 lb1 _ ?_ ?_ (by omega) (by omega)).mono ?_; (focus (refine RowAt.below Hb0.out ?_; have hB9 := hC.2; (repeat (first | assumption | (with_reducible exact Below.refl _ _) | (with_reducible refine Below.drewN ?_ _) | (with_reducible refine Below.drew ?_) | (with_reducible refine Below.allocS ?_ _) | ((with_reducible refine Below.setCell ?_ ?_ _); rotate_left; focus (first | omega | (simp; done) | (simp; omega))) | (with_reducible refine Below.step ?_ (by assumption)))); done)); (focus (refine RowAt.below Hb1.out ?_; have hB9 := hC.2; (repeat (first | assumption | (with_reducible exact Below.refl _ _) | (with_reducible refine Below.drewN ?_ _) | (with_reducible refine Below.drew ?_) | (with_reducible refine Below.allocS ?_ _) | ((with_reducible refine Below.setCell ?_ ?_ _); rotate_left; focus (first | omega | (simp; done) | (simp; omega))) | (with_reducible refine Below.step ?_ (by assumption)))); done)); rintro e w2 ⟨g'0, g'1, rfl, o'0, o'1, o'ne0, hb2⟩; refine ⟨_, rfl, .inl ⟨rfl, _, _, rfl⟩, ?_, hb2⟩; simp [RVF, Act.put, Act.eval]; exact ⟨_, _, ⟨rfl, rfl⟩, ownsRow_rowAt o'0, ownsRow_rowAt o'1⟩)); (intro v hv; simp at hv; obtain ⟨y0, y1, rfl⟩ := hv)
  refine calmV_call (f := 31) (args := _) hst rfl (by (intro w1; simp [execOp, resolve, invoke, go_sem]; with_reducible rfl)) (fun w1 hC hD => ?_) ?_
  (focus (have hfa := RVF_get (depV hD (ia := 1) (by kernel_rfl)) (List.mem_cons_self); simp [Act.put, Act.eval] at hfa; have hfb := RVF_get (depV hD (ia := 3) (by kernel_rfl)) (List.mem_cons_of_mem _ (List.mem_singleton.2 rfl)); simp [Act.put, Act.eval] at hfb; obtain ⟨ta0, ta1, ⟨rfl, rfl⟩, ra0, ra1⟩ := hfa; obtain ⟨tb0, tb1, ⟨rfl, rfl⟩, rb0, rb1⟩ := hfb; refine (specSameClocks_any _ _ _ _ na0 na1 nb0 nb1 la0 la1 lb0 lb1 _ (by assumption) (by assumption) (by assumption) (by assumption) HBa0.out HBa1.out HBb0.out HBb1.out).mono ?_; rintro e w2 ⟨rfl, hb2⟩; exact ⟨_, rfl, .inr ⟨rfl, rfl⟩, (by simp [RVF]), hb2⟩)); (intro v hv; simp at hv; subst hv)
  repeat (first | (refine calmV_plain hst rfl rfl ?_ (fun K hK w1 hC => ?_); (focus (intro _ _; simp [RVF]; done)); have hC' := hC.1; simp only [Held, and_true] at hC'; go_wp2_with (first | (refine wpList_fbin rfl rfl rfl rfl rfl (fun r n hr => ?_)) | (refine wpList_widen rfl rfl Try.underlying85 Try.underlying23 rfl (fun r n hr => ?_))); refine ⟨rfl, (by first | exact Below.refl _ _ | exact below_drewN _), hK _ ?_⟩; clear hC hC' hK K w1) | (refine calmV_check rfl rfl rfl ?_ ?_; (focus (intro _ _; simp [RVF]; done))) | (refine calmV_skip rfl ?_ ?_; (focus (intro _ _; simp [RVF]; done)); simp [Act.put]))
  refine calmV_nil ?_
  intro w2 hC hF
  have hC' := hC.1
  simp only [Held, and_true] at hC'
  have hBw2 : Below w.heap.size w w2 := by
    have hB := hC.2
    (repeat (first | assumption | (with_reducible exact Below.refl _ _) | (with_reducible refine Below.drewN ?_ _) | (with_reducible refine Below.drew ?_) | (with_reducible refine Below.allocS ?_ _) | ((with_reducible refine Below.setCell ?_ ?_ _); rotate_left; focus (first | omega | (simp; done) | (simp; omega))) | (with_reducible refine Below.step ?_ (by assumption))))
  have hz2 := hC.2.size
  clear hC hF hst
  go_wp2_with fail
  refine (toClocks_any va0 na0 va1 na1 la0 la1 _ ?_ ?_ (by omega) (by omega)).mono ?_
  · refine RowAt.below Ha0.out ?_
    (repeat (first | assumption | (with_reducible exact Below.refl _ _) | (with_reducible refine Below.drewN ?_ _) | (with_reducible refine Below.drew ?_) | (with_reducible refine Below.allocS ?_ _) | ((with_reducible refine Below.setCell ?_ ?_ _); rotate_left; focus (first | omega | (simp; done) | (simp; omega))) | (with_reducible refine Below.step ?_ (by assumption))))
  · refine RowAt.below Ha1.out ?_
    (repeat (first | assumption | (with_reducible exact Below.refl _ _) | (with_reducible refine Below.drewN ?_ _) | (with_reducible refine Below.drew ?_) | (with_reducible refine Below.allocS ?_ _) | ((with_reducible refine Below.setCell ?_ ?_ _); rotate_left; focus (first | omega | (simp; done) | (simp; omega))) | (with_reducible refine Below.step ?_ (by assumption))))
  rintro e w3 ⟨ga0, ga1, rfl, oa0, oa1, oane0, c3⟩
  have hk := Held.below c3 (l := [(⟨w.heap.size, 0, none⟩, va0), (⟨w.heap.size, 1, none⟩, va1), (⟨w.heap.size + 1, 0, none⟩, vb0), (⟨w.heap.size + 1, 1, none⟩, vb1)]) (by simp [Held, go_sem, *])
  simp only [Held, and_true] at hk
  have hBw3 : Below w.heap.size w w3 := by (repeat (first | assumption | (with_reducible exact Below.refl _ _) | (with_reducible refine Below.drewN ?_ _) | (with_reducible refine Below.drew ?_) | (with_reducible refine Below.allocS ?_ _) | ((with_reducible refine Below.setCell ?_ ?_ _); rotate_left; focus (first | omega | (simp; done) | (simp; omega))) | (with_reducible refine Below.step ?_ (by assumption))))
  have hb3 : ¬ w.heap.size = w3.heap.size := by omega
  have hb3' : ¬ w.heap.size + 1 = w3.heap.size := by omega
  go_wp2_with fail
  refine (toClocks_any vb0 nb0 vb1 nb1 lb0 lb1 _ ?_ ?_ (by omega) (by omega)).mono ?_
  · refine RowAt.below Hb0.out ?_
    (repeat (first | assumption | (with_reducible exact Below.refl _ _) | (with_reducible refine Below.drewN ?_ _) | (with_reducible refine Below.drew ?_) | (with_reducible refine Below.allocS ?_ _) | ((with_reducible refine Below.setCell ?_ ?_ _); rotate_left; focus (first | omega | (simp; done) | (simp; omega))) | (with_reducible refine Below.step ?_ (by assumption))))
  · refine RowAt.below Hb1.out ?_
    (repeat (first | assumption | (with_reducible exact Below.refl _ _) | (with_reducible refine Below.drewN ?_ _) | (with_reducible refine Below.drew ?_) | (with_reducible refine Below.allocS ?_ _) | ((with_reducible refine Below.setCell ?_ ?_ _); rotate_left; focus (first | omega | (simp; done) | (simp; omega))) | (with_reducible refine Below.step ?_ (by assumption))))
  rintro e w4 ⟨gb0, gb1, rfl, ob0, ob1, obne0, c4⟩
  have hk := Held.below c4 (l := [(⟨w.heap.size, 0, none⟩, va0), (⟨w.heap.size, 1, none⟩, va1), (⟨w.heap.size + 1, 0, none⟩, vb0), (⟨w.heap.size + 1, 1, none⟩, vb1), (⟨w3.heap.size, 0, none⟩, .slice (some ⟨ga0, 0, none⟩) na0 na0), (⟨w3.heap.size, 1, none⟩, .slice (some ⟨ga1, 0, none⟩) na1 na1)]) (by simp [Held, go_sem, *])
  simp only [Held, and_true] at hk
  have hBw4 : Below w.heap.size w w4 := by (repeat (first | assumption | (with_reducible exact Below.refl _ _) | (with_reducible refine Below.drewN ?_ _) | (with_reducible refine Below.drew ?_) | (with_reducible refine Below.allocS ?_ _) | ((with_reducible refine Below.setCell ?_ ?_ _); rotate_left; focus (first | omega | (simp; done) | (simp; omega))) | (with_reducible refine Below.step ?_ (by assumption))))
  have hb4 : ¬ w.heap.size = w4.heap.size := by omega
  have hb4' : ¬ w.heap.size + 1 = w4.heap.size := by omega
  have hb4'' : ¬ w3.heap.size = w4.heap.size := by omega
  have q4 : Below w3.heap.size w3 w4 := by
    refine Below.step ?_ c4
    (repeat (first | (with_reducible exact Below.refl _ _) | (with_reducible refine Below.drewN ?_ _) | (with_reducible refine Below.drew ?_) | (with_reducible refine Below.allocS ?_ _) | ((with_reducible refine Below.setCell ?_ ?_ _); rotate_left; focus (first | omega | (simp; done) | (simp; omega)))))
  have Ra0 := Lib.hid ((ownsRow_rowAt oa0).below q4)
  have Ra1 := Lib.hid ((ownsRow_rowAt oa1).below q4)
  have Rb0 := Lib.hid (ownsRow_rowAt ob0)
  have Rb1 := Lib.hid (ownsRow_rowAt ob1)
  clear oa0 oa1 ob0 ob1
  go_wp2_with fail
  refine (implSameClocks_any _ _ _ _ na0 na1 nb0 nb1 la0 la1 lb0 lb1 _ (Ra0.out.below (by (repeat (first | (with_reducible exact Below.refl _ _) | (with_reducible refine Below.drewN ?_ _) | (with_reducible refine Below.drew ?_) | (with_reducible refine Below.allocS ?_ _) | ((with_reducible refine Below.setCell ?_ ?_ _); rotate_left; focus (first | omega | (simp; done) | (simp; omega))))))) (Ra1.out.below (by (repeat (first | (with_reducible exact Below.refl _ _) | (with_reducible refine Below.drewN ?_ _) | (with_reducible refine Below.drew ?_) | (with_reducible refine Below.allocS ?_ _) | ((with_reducible refine Below.setCell ?_ ?_ _); rotate_left; focus (first | omega | (simp; done) | (simp; omega))))))) (Rb0.out.below (by (repeat (first | (with_reducible exact Below.refl _ _) | (with_reducible refine Below.drewN ?_ _) | (with_reducible refine Below.drew ?_) | (with_reducible refine Below.allocS ?_ _) | ((with_reducible refine Below.setCell ?_ ?_ _); rotate_left; focus (first | omega | (simp; done) | (simp; omega))))))) (Rb1.out.below (by (repeat (first | (with_reducible exact Below.refl _ _) | (with_reducible refine Below.drewN ?_ _) | (with_reducible refine Below.drew ?_) | (with_reducible refine Below.allocS ?_ _) | ((with_reducible refine Below.setCell ?_ ?_ _); rotate_left; focus (first | omega | (simp; done) | (simp; omega)))))))).mono ?_
  rintro e w5 ⟨rfl, c5⟩
  have hk := Held.below c5 (l := [(⟨w.heap.size, 0, none⟩, va0), (⟨w.heap.size, 1, none⟩, va1), (⟨w.heap.size + 1, 0, none⟩, vb0), (⟨w.heap.size + 1, 1, none⟩, vb1), (⟨w3.heap.size, 0, none⟩, .slice (some ⟨ga0, 0, none⟩) na0 na0), (⟨w3.heap.size, 1, none⟩, .slice (some ⟨ga1, 0, none⟩) na1 na1), (⟨w4.heap.size, 0, none⟩, .slice (some ⟨gb0, 0, none⟩) nb0 nb0), (⟨w4.heap.size, 1, none⟩, .slice (some ⟨gb1, 0, none⟩) nb1 nb1)]) (by simp [Held, go_sem, *])
  simp only [Held, and_true] at hk
  have hBw5 : Below w.heap.size w w5 := by (repeat (first | assumption | (with_reducible exact Below.refl _ _) | (with_reducible refine Below.drewN ?_ _) | (with_reducible refine Below.drew ?_) | (with_reducible refine Below.allocS ?_ _) | ((with_reducible refine Below.setCell ?_ ?_ _); rotate_left; focus (first | omega | (simp; done) | (simp; omega))) | (with_reducible refine Below.step ?_ (by assumption))))
  have q5 : Below w4.heap.size w4 w5 := by
    refine Below.step ?_ c5
    (repeat (first | (with_reducible exact Below.refl _ _) | (with_reducible refine Below.drewN ?_ _) | (with_reducible refine Below.drew ?_) | (with_reducible refine Below.allocS ?_ _) | ((with_reducible refine Below.setCell ?_ ?_ _); rotate_left; focus (first | omega | (simp; done) | (simp; omega)))))
  replace Ra0 := Lib.hid (Ra0.out.below q5)
  replace Ra1 := Lib.hid (Ra1.out.below q5)
  replace Rb0 := Lib.hid (Rb0.out.below q5)
  replace Rb1 := Lib.hid (Rb1.out.below q5)
  go_wp2_with fail
  have hst : stableV [(2, 37, (fun v w => ∃ s0 s1, v = .agg #[s0, s1] ∧ RowAt w s0 2 na0 (fl la0) ∧ RowAt w s1 1 na1 (fl la1)))] := by
    intro q hq
    obtain rfl := List.mem_singleton.1 hq
    intro v w w' hb hh
    obtain ⟨s0, s1, rfl, r0, r1⟩ := hh; exact ⟨s0, s1, rfl, r0.below hb, r1.below hb⟩
  refine region_calmV w5 [(⟨w.heap.size, 0, none⟩, va0), (⟨w.heap.size, 1, none⟩, va1), (⟨w.heap.size + 1, 0, none⟩, vb0), (⟨w.heap.size + 1, 1, none⟩, vb1), (⟨w3.heap.size, 0, none⟩, .slice (some ⟨ga0, 0, none⟩) na0 na0), (⟨w3.heap.size, 1, none⟩, .slice (some ⟨ga1, 0, none⟩) na1 na1), (⟨w4.heap.size, 0, none⟩, .slice (some ⟨gb0, 0, none⟩) nb0 nb0), (⟨w4.heap.size, 1, none⟩, .slice (some ⟨gb1, 0, none⟩) nb1 nb1)] (fun f _ v => (f = 28 ∧ ∃ s0 s1, v = .agg #[s0, s1]) ∨ (f = 30 ∧ v = .bool true)) [(2, 37, (fun v w => ∃ s0 s1, v = .agg #[s0, s1] ∧ RowAt w s0 2 na0 (fl la0) ∧ RowAt w s1 1 na1 (fl la1)))] (by kernel_rfl) (by kernel_rfl) (by kernel_rfl) ⟨by simp [Held, go_sem, *], by (repeat (first | assumption | (with_reducible exact Below.refl _ _) | (with_reducible refine Below.drewN ?_ _) | (with_reducible refine Below.drew ?_) | (with_reducible refine Below.allocS ?_ _) | ((with_reducible refine Below.setCell ?_ ?_ _); rotate_left; focus (first | omega | (simp; done) | (simp; omega))) | (with_reducible refine Below.step ?_ (by assumption))))⟩ ?_
  repeat (first | (first | (refine calmV_plain hst rfl rfl ?_ (fun K hK w1 hC => ?_); (focus (intro _ _; simp [RVF]; done)); have hC' := hC.1; simp only [Held, and_true] at hC'; go_wp2_with (first | (refine wpList_fbin rfl rfl rfl rfl rfl (fun r n hr => ?_)) | (refine wpList_widen rfl rfl Try.underlying85 Try.underlying23 rfl (fun r n hr => ?_))); refine ⟨rfl, (by first | exact Below.refl _ _ | exact below_drewN _), hK _ ?_⟩; clear hC hC' hK K w1) | (refine calmV_check rfl rfl rfl ?_ ?_; (focus (intro _ _; simp [RVF]; done))) | (refine calmV_skip rfl ?_ ?_; (focus (intro _ _; simp [RVF]; done)); simp [Act.put])) | (refine calmV_call (f := 28) (args := _) hst rfl (by (intro w1; simp [execOp, resolve, invoke, go_sem]; with_reducible rfl)) (fun w1 hC hD => ?_) ?_; (focus (refine (toClocks_any va0 na0 va1 na1 la0 la1 _ ?_ ?_ (by omega) (by omega)).mono ?_; (focus (refine RowAt.below Ha0.out ?_; have hB9 := hC.2; (repeat (first | assumption | (with_reducible exact Below.refl _ _) | (with_reducible refine Below.drewN ?_ _) | (with_reducible refine Below.drew ?_) | (with_reducible refine Below.allocS ?_ _) | ((with_reducible refine Below.setCell ?_ ?_ _); rotate_left; focus (first | omega | (simp; done) | (simp; omega))) | (with_reducible refine Below.step ?_ (by assumption)))); done)); (focus (refine RowAt.below Ha1.out ?_; have hB9 := hC.2; (repeat (first | assumption | (with_reducible exact Below.refl _ _) | (with_reducible refine Below.drewN ?_ _) | (with_reducible refine Below.drew ?_) | (with_reducible refine Below.allocS ?_ _) | ((with_reducible refine Below.setCell ?_ ?_ _); rotate_left; focus (first | omega | (simp; done) | (simp; omega))) | (with_reducible refine Below.step ?_ (by assumption)))); done)); rintro e w2 ⟨g'0, g'1, rfl, o'0, o'1, o'ne0, hb2⟩; exact ⟨_, rfl, .inl ⟨rfl, _, _, rfl⟩, (by simp [RVF, Act.put, Act.eval]; exact ⟨_, _, ⟨rfl, rfl⟩, ownsRow_rowAt o'0, ownsRow_rowAt o'1⟩), hb2⟩)); (intro v hv; simp at hv; obtain ⟨s0, s1, rfl⟩ := hv)) | (refine calmV_call (f := 30) (args := _) hst rfl (by (intro w1; simp [execOp, resolve, invoke, go_sem]; with_reducible rfl)) (fun w1 hC hD => ?_) ?_; (focus (have hf := RVF_get (depV hD (ia := 2) (by kernel_rfl)) (List.mem_singleton.2 rfl); simp [Act.put, Act.eval] at hf; obtain ⟨t0, t1, ⟨rfl, rfl⟩, hf0, hf1⟩ := hf; refine (eqClocks_any _ _ na0 _ _ na1 la0 la0 la1 la1 _ ?_ ?_ rfl ?_ ?_ rfl).mono ?_; (focus (exact Ra0.out.below hC.2)); (focus (exact hf0)); (focus (exact Ra1.out.below hC.2)); (focus (exact hf1)); rintro e w2 ⟨rfl, hb2⟩; exact ⟨_, rfl, .inr ⟨rfl, rfl⟩, (by simp [RVF]), hb2⟩)); (intro v hv; simp at hv; subst hv)))
  refine calmV_nil ?_
  intro w6 hC hF
  have hC' := hC.1
  simp only [Held, and_true] at hC'
  have hB6 := hC.2
  have hBw6 : Below w.heap.size w w6 := by (repeat (first | assumption | (with_reducible exact Below.refl _ _) | (with_reducible refine Below.drewN ?_ _) | (with_reducible refine Below.drew ?_) | (with_reducible refine Below.allocS ?_ _) | ((with_reducible refine Below.setCell ?_ ?_ _); rotate_left; focus (first | omega | (simp; done) | (simp; omega))) | (with_reducible refine Below.step ?_ (by assumption))))
  replace Rb0 := Lib.hid (Rb0.out.below hB6)
  replace Rb1 := Lib.hid (Rb1.out.below hB6)
  clear hC hF hst
  go_wp2_with fail
  have hst : stableV [(2, 42, (fun v w => ∃ s0 s1, v = .agg #[s0, s1] ∧ RowAt w s0 2 nb0 (fl lb0) ∧ RowAt w s1 1 nb1 (fl lb1)))] := by
    intro q hq
    obtain rfl := List.mem_singleton.1 hq
    intro v w w' hb hh
    obtain ⟨s0, s1, rfl, r0, r1⟩ := hh; exact ⟨s0, s1, rfl, r0.below hb, r1.below hb⟩
  refine region_calmV w6 [(⟨w.heap.size, 0, none⟩, va0), (⟨w.heap.size, 1, none⟩, va1), (⟨w.heap.size + 1, 0, none⟩, vb0), (⟨w.heap.size + 1, 1, none⟩, vb1), (⟨w3.heap.size, 0, none⟩, .slice (some ⟨ga0, 0, none⟩) na0 na0), (⟨w3.heap.size, 1, none⟩, .slice (some ⟨ga1, 0, none⟩) na1 na1), (⟨w4.heap.size, 0, none⟩, .slice (some ⟨gb0, 0, none⟩) nb0 nb0), (⟨w4.heap.size, 1, none⟩, .slice (some ⟨gb1, 0, none⟩) nb1 nb1)] (fun f _ v => (f = 28 ∧ ∃ s0 s1, v = .agg #[s0, s1]) ∨ (f = 30 ∧ v = .bool true)) [(2, 42, (fun v w => ∃ s0 s1, v = .agg #[s0, s1] ∧ RowAt w s0 2 nb0 (fl lb0) ∧ RowAt w s1 1 nb1 (fl lb1)))] (by kernel_rfl) (by kernel_rfl) (by kernel_rfl) ⟨by simp [Held, go_sem, *], by (repeat (first | assumption | (with_reducible exact Below.refl _ _) | (with_reducible refine Below.drewN ?_ _) | (with_reducible refine Below.drew ?_) | (with_reducible refine Below.allocS ?_ _) | ((with_reducible refine Below.setCell ?_ ?_ _); rotate_left; focus (first | omega | (simp; done) | (simp; omega))) | (with_reducible refine Below.step ?_ (by assumption))))⟩ ?_
  repeat (first | (first | (refine calmV_plain hst rfl rfl ?_ (fun K hK w1 hC => ?_); (focus (intro _ _; simp [RVF]; done)); have hC' := hC.1; simp only [Held, and_true] at hC'; go_wp2_with (first | (refine wpList_fbin rfl rfl rfl rfl rfl (fun r n hr => ?_)) | (refine wpList_widen rfl rfl Try.underlying85 Try.underlying23 rfl (fun r n hr => ?_))); refine ⟨rfl, (by first | exact Below.refl _ _ | exact below_drewN _), hK _ ?_⟩; clear hC hC' hK K w1) | (refine calmV_check rfl rfl rfl ?_ ?_; (focus (intro _ _; simp [RVF]; done))) | (refine calmV_skip rfl ?_ ?_; (focus (intro _ _; simp [RVF]; done)); simp [Act.put])) | (refine calmV_call (f := 28) (args := _) hst rfl (by (intro w1; simp [execOp, resolve, invoke, go_sem]; with_reducible rfl)) (fun w1 hC hD => ?_) ?_; (focus (refine (toClocks_any vb0 nb0 vb1 nb1 lb0 lb1 _ ?_ ?_ (by omega) (by omega)).mono ?_; (focus (refine RowAt.below Hb0.out ?_; have hB9 := hC.2; (repeat (first | assumption | (with_reducible exact Below.refl _ _) | (with_reducible refine Below.drewN ?_ _) | (with_reducible refine Below.drew ?_) | (with_reducible refine Below.allocS ?_ _) | ((with_reducible refine Below.setCell ?_ ?_ _); rotate_left; focus (first | omega | (simp; done) | (simp; omega))) | (with_reducible refine Below.step ?_ (by assumption)))); done)); (focus (refine RowAt.below Hb1.out ?_; have hB9 := hC.2; (repeat (first | assumption | (with_reducible exact Below.refl _ _) | (with_reducible refine Below.drewN ?_ _) | (with_reducible refine Below.drew ?_) | (with_reducible refine Below.allocS ?_ _) | ((with_reducible refine Below.setCell ?_ ?_ _); rotate_left; focus (first | omega | (simp; done) | (simp; omega))) | (with_reducible refine Below.step ?_ (by assumption)))); done)); rintro e w2 ⟨g'0, g'1, rfl, o'0, o'1, o'ne0, hb2⟩; exact ⟨_, rfl, .inl ⟨rfl, _, _, rfl⟩, (by simp [RVF, Act.put, Act.eval]; exact ⟨_, _, ⟨rfl, rfl⟩, ownsRow_rowAt o'0, ownsRow_rowAt o'1⟩), hb2⟩)); (intro v hv; simp at hv; obtain ⟨s0, s1, rfl⟩ := hv)) | (refine calmV_call (f := 30) (args := _) hst rfl (by (intro w1; simp [execOp, resolve, invoke, go_sem]; with_reducible rfl)) (fun w1 hC hD => ?_) ?_; (focus (have hf := RVF_get (depV hD (ia := 2) (by kernel_rfl)) (List.mem_singleton.2 rfl); simp [Act.put, Act.eval] at hf; obtain ⟨t0, t1, ⟨rfl, rfl⟩, hf0, hf1⟩ := hf; refine (eqClocks_any _ _ nb0 _ _ nb1 lb0 lb0 lb1 lb1 _ ?_ ?_ rfl ?_ ?_ rfl).mono ?_; (focus (exact Rb0.out.below hC.2)); (focus (exact hf0)); (focus (exact Rb1.out.below hC.2)); (focus (exact hf1)); rintro e w2 ⟨rfl, hb2⟩; exact ⟨_, rfl, .inr ⟨rfl, rfl⟩, (by simp [RVF]), hb2⟩)); (intro v hv; simp at hv; subst hv)))
  refine calmV_nil ?_
  intro w' hC hF
  have hC' := hC.1
  simp only [Held, and_true] at hC'
  go_wp2_with fail
  go_ret
  refine ⟨rfl, ?_⟩
  have hB := hC.2
  (repeat (first | assumption | (with_reducible exact Below.refl _ _) | (with_reducible refine Below.drewN ?_ _) | (with_reducible refine Below.drew ?_) | (with_reducible refine Below.allocS ?_ _) | ((with_reducible refine Below.setCell ?_ ?_ _); rotate_left; focus (first | omega | (simp; done) | (simp; omega))) | (with_reducible refine Below.step ?_ (by assumption))))

end Go.Proofs.Ytbmabpnolheghaa
