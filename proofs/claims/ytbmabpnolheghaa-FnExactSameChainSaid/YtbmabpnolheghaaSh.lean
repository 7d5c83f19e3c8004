/-
  The walks of rows of balls that are the same, and the law SameRow.
-/
import Derived.Test.YtbmabpnolheghaaSd
import Derived.BigQuiet
set_option linter.unusedVariables false
set_option linter.unusedSimpArgs false
namespace Go.Proofs.Ytbmabpnolheghaa
open Go.RowKit

def ballSame (l m : List Nat) (k : Nat) : Bool := same3 (l.getD (k * 3) 0) (l.getD (k * 3 + 1) 0) (l.getD (k * 3 + 2) 0) (m.getD (k * 3) 0) (m.getD (k * 3 + 1) 0) (m.getD (k * 3 + 2) 0)
def rowSame (n : Nat) (l : List Nat) (z : Nat) (n' : Nat) (l' : List Nat) (z' : Nat) : Bool := (decide (n = n') && upto (ballSame l l') n) && sameB z z'
theorem bit_of {l : List Nat} (h : ∀ x ∈ l, x < 4294967296) (j : Nat) : l.getD j 0 < 4294967296 := by
  rw [List.getD_eq_getElem?_getD]
  cases hg : l[j]? with
  | none => decide
  | some x => exact h x (List.mem_of_getElem? hg)
set_option maxRecDepth 100000 in
set_option maxHeartbeats 4000000 in
theorem sameBall_any (x0 x1 x2 y0 y1 y2 : Nat) (w : World) : Calls Try.prog 67 #[.agg #[.float .f32 x0, .float .f32 x1, .float .f32 x2], .agg #[.float .f32 y0, .float .f32 y1, .float .f32 y2]] w (BB (same3 x0 x1 x2 y0 y1 y2) w) := by
  have hH : Hid (same3 x0 x1 x2 y0 y1 y2 = ((sameB x0 y0 && sameB x1 y1) && sameB x2 y2)) := rfl
  cases s0 : sameB x0 y0 <;> cases s1 : sameB x1 y1 <;> cases s2 : sameB x2 y2
  all_goals
    go_enter Try.func67, Try.ntmps67
    go_wp2_with (first | (go_at_call 68; refine (SameNumber_any _ _ _).mono ?_; rintro e w' ⟨n9, rfl, rfl⟩))
    go_ret
    refine ⟨ret_bool (by rw [hH.out]; simp [s0, s1, s2]), ?_⟩
    (repeat (first | assumption | (with_reducible exact Below.refl _ _) | (with_reducible refine Below.drewN ?_ _) | (with_reducible refine Below.drew ?_) | (with_reducible refine Below.allocS ?_ _) | ((with_reducible refine Below.setCell ?_ ?_ _); rotate_left; focus (first | omega | (simp; done) | (simp; omega))) | (with_reducible refine Below.step ?_ (by assumption))))
set_option maxRecDepth 100000 in
set_option maxHeartbeats 4000000 in
theorem equalBalls_any (v v' : Value) (n m : Nat) (l l' : List Nat) (w : World) (h : RowAt w v 3 n (fl l)) (h' : RowAt w v' 3 m (fl l')) :
    Calls Try.prog 66 #[v, v', .func (.func 67) #[] #[]] w (BB (decide (n = m) && upto (ballSame l l') n) w) := by
  obtain ⟨h1, h2, ao, cap, rfl, h3⟩ := h
  obtain ⟨g1, g2, ao', cap', rfl, g3⟩ := h'
  have H3 := Lib.hid h3
  have G3 := Lib.hid g3
  rw [fl_length] at h1 g1
  have h2' : n ≤ 9223372036854775807 := h2
  have g2' : m ≤ 9223372036854775807 := g2
  clear h3 g3
  by_cases he : n = m
  case neg =>
    have d1 : ((n : Int) != (m : Int)) = true := by simp; omega
    have HE := Lib.hid he
    clear he
    go_enter Try.func66, Try.ntmps66
    go_wp2
    go_ret
    exact ⟨ret_bool (by simp [HE.out]), Below.refl _ _⟩
  have d1 : ((n : Int) != (m : Int)) = false := by simp; omega
  have HE := Lib.hid he
  have hnm : n ≤ m := Nat.le_of_eq he
  have hmn : m ≤ n := Nat.le_of_eq he.symm
  clear he
  go_enter Try.func66, Try.ntmps66
  go_wp2
  clear d1
  go_loopw [17] (fun i wr => ∃ k : Nat, k ≤ n ∧ i = .int .i64 (k : Int) ∧ (∀ j, j < k → ballSame l l' j = true) ∧ Below w.heap.size w wr) (fun i _ => n - (intOf i).toNat)
  case atStart => exact ⟨0, Nat.zero_le _, rfl, fun j hj => absurd hj (Nat.not_lt_zero _), by (repeat (first | assumption | (with_reducible exact Below.refl _ _) | (with_reducible refine Below.drewN ?_ _) | (with_reducible refine Below.drew ?_) | (with_reducible refine Below.allocS ?_ _) | ((with_reducible refine Below.setCell ?_ ?_ _); rotate_left; focus (first | omega | (simp; done) | (simp; omega))) | (with_reducible refine Below.step ?_ (by assumption))))⟩
  case round =>
    obtain ⟨k, hk, rfl, hall, hbel⟩ := hrel
    have HA := Lib.hid hall
    clear hall
    by_cases hlt : k < n
    · have hlt' : k < m := by omega
      obtain ⟨b, o, rfl, hbl, hcell⟩ := H3.out.resolve_left (by omega)
      obtain ⟨x0, hx0⟩ : ∃ x, Hid (l.getD (k * 3) 0 = x) := ⟨_, rfl⟩
      have fx0 : wr.cell? ⟨b, o + k * 3, none⟩ = some (.float .f32 x0) := by rw [hbel.cell (p := ⟨b, o + k * 3, none⟩) hbl]; exact (hcell (k * 3) (.float .f32 x0) (by rw [← hx0.out]; exact fl_get (by omega))).1
      obtain ⟨x1, hx1⟩ : ∃ x, Hid (l.getD (k * 3 + 1) 0 = x) := ⟨_, rfl⟩
      have fx1 : wr.cell? ⟨b, o + k * 3 + 1, none⟩ = some (.float .f32 x1) := by rw [hbel.cell (p := ⟨b, o + k * 3 + 1, none⟩) hbl]; exact (hcell (k * 3 + 1) (.float .f32 x1) (by rw [← hx1.out]; exact fl_get (by omega))).1
      obtain ⟨x2, hx2⟩ : ∃ x, Hid (l.getD (k * 3 + 2) 0 = x) := ⟨_, rfl⟩
      have fx2 : wr.cell? ⟨b, o + k * 3 + 2, none⟩ = some (.float .f32 x2) := by rw [hbel.cell (p := ⟨b, o + k * 3 + 2, none⟩) hbl]; exact (hcell (k * 3 + 2) (.float .f32 x2) (by rw [← hx2.out]; exact fl_get (by omega))).1
      clear hcell
      have hblw : b < wr.heap.size := Nat.lt_of_lt_of_le hbl hbel.size
      obtain ⟨b', o', rfl, gbl, hcell⟩ := G3.out.resolve_left (by omega)
      obtain ⟨y0, hy0⟩ : ∃ x, Hid (l'.getD (k * 3) 0 = x) := ⟨_, rfl⟩
      have fy0 : wr.cell? ⟨b', o' + k * 3, none⟩ = some (.float .f32 y0) := by rw [hbel.cell (p := ⟨b', o' + k * 3, none⟩) gbl]; exact (hcell (k * 3) (.float .f32 y0) (by rw [← hy0.out]; exact fl_get (by omega))).1
      obtain ⟨y1, hy1⟩ : ∃ x, Hid (l'.getD (k * 3 + 1) 0 = x) := ⟨_, rfl⟩
      have fy1 : wr.cell? ⟨b', o' + k * 3 + 1, none⟩ = some (.float .f32 y1) := by rw [hbel.cell (p := ⟨b', o' + k * 3 + 1, none⟩) gbl]; exact (hcell (k * 3 + 1) (.float .f32 y1) (by rw [← hy1.out]; exact fl_get (by omega))).1
      obtain ⟨y2, hy2⟩ : ∃ x, Hid (l'.getD (k * 3 + 2) 0 = x) := ⟨_, rfl⟩
      have fy2 : wr.cell? ⟨b', o' + k * 3 + 2, none⟩ = some (.float .f32 y2) := by rw [hbel.cell (p := ⟨b', o' + k * 3 + 2, none⟩) gbl]; exact (hcell (k * 3 + 2) (.float .f32 y2) (by rw [← hy2.out]; exact fl_get (by omega))).1
      clear hcell
      have gblw : b' < wr.heap.size := Nat.lt_of_lt_of_le gbl hbel.size
      have HOK : Hid (ballSame l l' k = same3 x0 x1 x2 y0 y1 y2) := by show _ = _; unfold ballSame; rw [hx0.out, hx1.out, hx2.out, hy0.out, hy1.out, hy2.out]
      cases hs : same3 x0 x1 x2 y0 y1 y2
      · go_wp2_with (first | (go_at_call 67; refine (sameBall_any x0 x1 x2 y0 y1 y2 _).mono ?_; rintro e w' ⟨rfl, hb9⟩; rw [hs]))
        go_ret
        refine ⟨ret_bool (by rw [upto_false hlt (by rw [HOK.out]; exact hs), Bool.and_false]), ?_⟩
        (repeat (first | assumption | (with_reducible exact Below.refl _ _) | (with_reducible refine Below.drewN ?_ _) | (with_reducible refine Below.drew ?_) | (with_reducible refine Below.allocS ?_ _) | ((with_reducible refine Below.setCell ?_ ?_ _); rotate_left; focus (first | omega | (simp; done) | (simp; omega))) | (with_reducible refine Below.step ?_ (by assumption))))
      · go_wp2_with (first | (go_at_call 67; refine (sameBall_any x0 x1 x2 y0 y1 y2 _).mono ?_; rintro e w' ⟨rfl, hb9⟩; rw [hs]))
        go_roundw
        case rel => exact ⟨k + 1, hlt, by go_num, all_step HA.out (by rw [HOK.out]; exact hs), by (repeat (first | assumption | (with_reducible exact Below.refl _ _) | (with_reducible refine Below.drewN ?_ _) | (with_reducible refine Below.drew ?_) | (with_reducible refine Below.allocS ?_ _) | ((with_reducible refine Below.setCell ?_ ?_ _); rotate_left; focus (first | omega | (simp; done) | (simp; omega))) | (with_reducible refine Below.step ?_ (by assumption))))⟩
        case measure => simp [intOf]; omega
    · obtain rfl : k = n := by omega
      go_wp2
      go_ret
      exact ⟨ret_bool (by rw [upto_true HA.out]; simp [HE.out]), hbel⟩

set_option maxRecDepth 100000 in
set_option maxHeartbeats 4000000 in
theorem implSameRow_any (v v' : Value) (n m : Nat) (l l' : List Nat) (z z' : Nat) (w : World) (h : RowAt w v 3 n (fl l)) (h' : RowAt w v' 3 m (fl l')) : Calls Try.prog 20 #[.agg #[v, .float .f32 z], .agg #[v', .float .f32 z']] w (BB (rowSame n l z m l' z') w) := by
  have H := Lib.hid h
  have H' := Lib.hid h'
  clear h h'
  have HQ : Hid (rowSame n l z m l' z' = ((decide (n = m) && upto (ballSame l l') n) && sameB z z')) := rfl
  obtain ⟨u, hu⟩ : ∃ u, Hid ((decide (n = m) && upto (ballSame l l') n) = u) := ⟨_, rfl⟩
  cases u
  all_goals
    go_enter Try.func20, Try.ntmps20
    go_wp2_with fail
    refine (equalBalls_any v v' n m l l' _ ?_ ?_).mono ?_
    · refine RowAt.below H.out ?_
      (repeat (first | assumption | (with_reducible exact Below.refl _ _) | (with_reducible refine Below.drewN ?_ _) | (with_reducible refine Below.drew ?_) | (with_reducible refine Below.allocS ?_ _) | ((with_reducible refine Below.setCell ?_ ?_ _); rotate_left; focus (first | omega | (simp; done) | (simp; omega))) | (with_reducible refine Below.step ?_ (by assumption))))
    · refine RowAt.below H'.out ?_
      (repeat (first | assumption | (with_reducible exact Below.refl _ _) | (with_reducible refine Below.drewN ?_ _) | (with_reducible refine Below.drew ?_) | (with_reducible refine Below.allocS ?_ _) | ((with_reducible refine Below.setCell ?_ ?_ _); rotate_left; focus (first | omega | (simp; done) | (simp; omega))) | (with_reducible refine Below.step ?_ (by assumption))))
    rintro e w1 ⟨rfl, hb⟩
    rw [hu.out]
    have hk := Held.below hb (l := [(⟨w.heap.size, 0, none⟩, v), (⟨w.heap.size, 1, none⟩, .float .f32 z), (⟨w.heap.size + 1, 0, none⟩, v'), (⟨w.heap.size + 1, 1, none⟩, .float .f32 z')]) (by simp [Held, go_sem])
    simp only [Held, and_true] at hk
    go_wp2_with (first | (go_at_call 68; refine (SameNumber_any _ _ _).mono ?_; rintro e w' ⟨n9, rfl, rfl⟩))
    go_ret
    refine ⟨ret_bool (by rw [HQ.out, hu.out]; simp), ?_⟩
    (repeat (first | assumption | (with_reducible exact Below.refl _ _) | (with_reducible refine Below.drewN ?_ _) | (with_reducible refine Below.drew ?_) | (with_reducible refine Below.allocS ?_ _) | ((with_reducible refine Below.setCell ?_ ?_ _); rotate_left; focus (first | omega | (simp; done) | (simp; omega))) | (with_reducible refine Below.step ?_ (by assumption))))

set_option maxRecDepth 100000 in
set_option maxHeartbeats 4000000 in
theorem specSameRow_any (v v' : Value) (n m : Nat) (l l' : List Nat) (z z' : Nat) (w : World) (h : RowAt w v 3 n (fl l)) (h' : RowAt w v' 3 m (fl l')) (hb : ∀ x ∈ l, x < 4294967296) (hb' : ∀ x ∈ l', x < 4294967296) (hz : z < 4294967296) (hz' : z' < 4294967296) : Calls Try.prog 19 #[.agg #[v, .float .f32 z], .agg #[v', .float .f32 z']] w (BB (rowSame n l z m l' z') w) := by
  obtain ⟨h1, h2, ao, cap, rfl, h3⟩ := h
  obtain ⟨g1, g2, ao', cap', rfl, g3⟩ := h'
  have H3 := Lib.hid h3
  have G3 := Lib.hid g3
  rw [fl_length] at h1 g1
  have h2' : n ≤ 9223372036854775807 := h2
  have g2' : m ≤ 9223372036854775807 := g2
  clear h3 g3
  have HB := Lib.hid hb
  have HB' := Lib.hid hb'
  clear hb hb'
  have HQ : Hid (rowSame n l z m l' z' = ((decide (n = m) && upto (ballSame l l') n) && sameB z z')) := rfl
  by_cases he : n = m
  case neg =>
    have d1 : ((n : Int) != (m : Int)) = true := by simp; omega
    have HE := Lib.hid he
    clear he
    go_enter Try.func19, Try.ntmps19
    go_wp2
    go_ret
    refine ⟨ret_bool (by rw [HQ.out]; simp [HE.out]), ?_⟩
    (repeat (first | assumption | (with_reducible exact Below.refl _ _) | (with_reducible refine Below.drewN ?_ _) | (with_reducible refine Below.drew ?_) | (with_reducible refine Below.allocS ?_ _) | ((with_reducible refine Below.setCell ?_ ?_ _); rotate_left; focus (first | omega | (simp; done) | (simp; omega))) | (with_reducible refine Below.step ?_ (by assumption))))
  subst he
  clear g2'
  cases hs : sameB z z'
  · have HS := Lib.hid hs
    go_enter Try.func19, Try.ntmps19
    go_wp2_with (first | (go_at_call 65; refine (l01Same_lit (by assumption) (by assumption) (by assumption)).mono ?_; rintro e w' ⟨n9, rfl, rfl⟩))
    go_ret
    refine ⟨ret_bool (by rw [HQ.out, HS.out, Bool.and_false]), ?_⟩
    (repeat (first | assumption | (with_reducible exact Below.refl _ _) | (with_reducible refine Below.drewN ?_ _) | (with_reducible refine Below.drew ?_) | (with_reducible refine Below.allocS ?_ _) | ((with_reducible refine Below.setCell ?_ ?_ _); rotate_left; focus (first | omega | (simp; done) | (simp; omega))) | (with_reducible refine Below.step ?_ (by assumption))))
  have HS := Lib.hid hs
  go_enter Try.func19, Try.ntmps19
  go_wp2_with (first | (go_at_call 65; refine (l01Same_lit (by assumption) (by assumption) (by assumption)).mono ?_; rintro e w' ⟨n9, rfl, rfl⟩))
  go_loopw [5] (fun i wr => ∃ k : Nat, k ≤ n ∧ i = .int .i64 (k : Int) ∧ (∀ j, j < k → ballSame l l' j = true) ∧ Below w.heap.size w wr ∧ Held [(⟨w.heap.size, 0, none⟩, .slice ao n cap), (⟨w.heap.size, 1, none⟩, .float .f32 z), (⟨w.heap.size + 1, 0, none⟩, .slice ao' n cap'), (⟨w.heap.size + 1, 1, none⟩, .float .f32 z')] wr) (fun i _ => n - (intOf i).toNat)
  case atStart => exact ⟨0, Nat.zero_le _, rfl, fun j hj => absurd hj (Nat.not_lt_zero _), by (repeat (first | assumption | (with_reducible exact Below.refl _ _) | (with_reducible refine Below.drewN ?_ _) | (with_reducible refine Below.drew ?_) | (with_reducible refine Below.allocS ?_ _) | ((with_reducible refine Below.setCell ?_ ?_ _); rotate_left; focus (first | omega | (simp; done) | (simp; omega))) | (with_reducible refine Below.step ?_ (by assumption)))), by simp [Held, go_sem]⟩
  case round =>
    obtain ⟨k, hk, rfl, hall, hbel, hbx⟩ := hrel
    have HA := Lib.hid hall
    have HBX := Lib.hid hbx
    simp only [Held, and_true] at hbx
    clear hall
    by_cases hlt : k < n
    · have hlt' : k < n := hlt
      obtain ⟨b, o, rfl, hbl, hcell⟩ := H3.out.resolve_left (by omega)
      obtain ⟨x0, hx0⟩ : ∃ x, Hid (l.getD (k * 3) 0 = x) := ⟨_, rfl⟩
      have fx0 : wr.cell? ⟨b, o + k * 3, none⟩ = some (.float .f32 x0) := by rw [hbel.cell (p := ⟨b, o + k * 3, none⟩) hbl]; exact (hcell (k * 3) (.float .f32 x0) (by rw [← hx0.out]; exact fl_get (by omega))).1
      obtain ⟨x1, hx1⟩ : ∃ x, Hid (l.getD (k * 3 + 1) 0 = x) := ⟨_, rfl⟩
      have fx1 : wr.cell? ⟨b, o + k * 3 + 1, none⟩ = some (.float .f32 x1) := by rw [hbel.cell (p := ⟨b, o + k * 3 + 1, none⟩) hbl]; exact (hcell (k * 3 + 1) (.float .f32 x1) (by rw [← hx1.out]; exact fl_get (by omega))).1
      obtain ⟨x2, hx2⟩ : ∃ x, Hid (l.getD (k * 3 + 2) 0 = x) := ⟨_, rfl⟩
      have fx2 : wr.cell? ⟨b, o + k * 3 + 2, none⟩ = some (.float .f32 x2) := by rw [hbel.cell (p := ⟨b, o + k * 3 + 2, none⟩) hbl]; exact (hcell (k * 3 + 2) (.float .f32 x2) (by rw [← hx2.out]; exact fl_get (by omega))).1
      clear hcell
      have hblw : b < wr.heap.size := Nat.lt_of_lt_of_le hbl hbel.size
      obtain ⟨b', o', rfl, gbl, hcell⟩ := G3.out.resolve_left (by omega)
      obtain ⟨y0, hy0⟩ : ∃ x, Hid (l'.getD (k * 3) 0 = x) := ⟨_, rfl⟩
      have fy0 : wr.cell? ⟨b', o' + k * 3, none⟩ = some (.float .f32 y0) := by rw [hbel.cell (p := ⟨b', o' + k * 3, none⟩) gbl]; exact (hcell (k * 3) (.float .f32 y0) (by rw [← hy0.out]; exact fl_get (by omega))).1
      obtain ⟨y1, hy1⟩ : ∃ x, Hid (l'.getD (k * 3 + 1) 0 = x) := ⟨_, rfl⟩
      have fy1 : wr.cell? ⟨b', o' + k * 3 + 1, none⟩ = some (.float .f32 y1) := by rw [hbel.cell (p := ⟨b', o' + k * 3 + 1, none⟩) gbl]; exact (hcell (k * 3 + 1) (.float .f32 y1) (by rw [← hy1.out]; exact fl_get (by omega))).1
      obtain ⟨y2, hy2⟩ : ∃ x, Hid (l'.getD (k * 3 + 2) 0 = x) := ⟨_, rfl⟩
      have fy2 : wr.cell? ⟨b', o' + k * 3 + 2, none⟩ = some (.float .f32 y2) := by rw [hbel.cell (p := ⟨b', o' + k * 3 + 2, none⟩) gbl]; exact (hcell (k * 3 + 2) (.float .f32 y2) (by rw [← hy2.out]; exact fl_get (by omega))).1
      clear hcell
      have gblw : b' < wr.heap.size := Nat.lt_of_lt_of_le gbl hbel.size
      have HOK : Hid (ballSame l l' k = same3 x0 x1 x2 y0 y1 y2) := by show _ = _; unfold ballSame; rw [hx0.out, hx1.out, hx2.out, hy0.out, hy1.out, hy2.out]
      have bx0 : x0 < 4294967296 := by rw [← hx0.out]; exact bit_of HB.out _
      have bx1 : x1 < 4294967296 := by rw [← hx1.out]; exact bit_of HB.out _
      have bx2 : x2 < 4294967296 := by rw [← hx2.out]; exact bit_of HB.out _
      have by0 : y0 < 4294967296 := by rw [← hy0.out]; exact bit_of HB'.out _
      have by1 : y1 < 4294967296 := by rw [← hy1.out]; exact bit_of HB'.out _
      have by2 : y2 < 4294967296 := by rw [← hy2.out]; exact bit_of HB'.out _
      cases s0 : sameB x0 y0
      · go_wp2_with fail
        go_quiet ((go_at_call 65; exact RB.quiet (l01Same_lit (by assumption) (by assumption) (by assumption))))
        go_wp2
        go_ret
        refine ⟨ret_bool (by rw [HQ.out, upto_false hlt (by rw [HOK.out]; unfold same3; simp [s0])]; simp), ?_⟩
        (repeat (first | assumption | (with_reducible exact Below.refl _ _) | (with_reducible refine Below.drewN ?_ _) | (with_reducible refine Below.drew ?_) | (with_reducible refine Below.allocS ?_ _) | ((with_reducible refine Below.setCell ?_ ?_ _); rotate_left; focus (first | omega | (simp; done) | (simp; omega))) | (with_reducible refine Below.step ?_ (by assumption))))
      cases s1 : sameB x1 y1
      · go_wp2_with fail
        go_quiet ((go_at_call 65; exact RB.quiet (l01Same_lit (by assumption) (by assumption) (by assumption))))
        go_wp2
        go_ret
        refine ⟨ret_bool (by rw [HQ.out, upto_false hlt (by rw [HOK.out]; unfold same3; simp [s0, s1])]; simp), ?_⟩
        (repeat (first | assumption | (with_reducible exact Below.refl _ _) | (with_reducible refine Below.drewN ?_ _) | (with_reducible refine Below.drew ?_) | (with_reducible refine Below.allocS ?_ _) | ((with_reducible refine Below.setCell ?_ ?_ _); rotate_left; focus (first | omega | (simp; done) | (simp; omega))) | (with_reducible refine Below.step ?_ (by assumption))))
      cases s2 : sameB x2 y2
      · go_wp2_with fail
        go_quiet ((go_at_call 65; exact RB.quiet (l01Same_lit (by assumption) (by assumption) (by assumption))))
        go_wp2
        go_ret
        refine ⟨ret_bool (by rw [HQ.out, upto_false hlt (by rw [HOK.out]; unfold same3; simp [s0, s1, s2])]; simp), ?_⟩
        (repeat (first | assumption | (with_reducible exact Below.refl _ _) | (with_reducible refine Below.drewN ?_ _) | (with_reducible refine Below.drew ?_) | (with_reducible refine Below.allocS ?_ _) | ((with_reducible refine Below.setCell ?_ ?_ _); rotate_left; focus (first | omega | (simp; done) | (simp; omega))) | (with_reducible refine Below.step ?_ (by assumption))))
      · go_wp2_with fail
        go_quiet ((go_at_call 65; exact RB.quiet (l01Same_lit (by assumption) (by assumption) (by assumption))))
        go_wp2
        go_roundw
        case rel => exact ⟨k + 1, hlt, by go_num, all_step HA.out (by rw [HOK.out]; unfold same3; simp [s0, s1, s2]), by (repeat (first | assumption | (with_reducible exact Below.refl _ _) | (with_reducible refine Below.drewN ?_ _) | (with_reducible refine Below.drew ?_) | (with_reducible refine Below.allocS ?_ _) | ((with_reducible refine Below.setCell ?_ ?_ _); rotate_left; focus (first | omega | (simp; done) | (simp; omega))) | (with_reducible refine Below.step ?_ (by assumption)))), by simp [Held, go_sem, *]⟩
        case measure => simp [intOf]; omega
    · obtain rfl : k = n := by omega
      go_wp2
      go_ret
      exact ⟨ret_bool (by rw [HQ.out, upto_true HA.out, HS.out]; simp), hbel⟩

set_option maxRecDepth 100000 in
set_option maxHeartbeats 8000000 in
theorem lawSameRow_walk (va0 : Value) (na0 : Nat) (la0 : List Nat) (za1 : Nat) (vb0 : Value) (nb0 : Nat) (lb0 : List Nat) (zb1 : Nat) (w : World) (ha0 : RowAt w va0 3 na0 (fl la0)) (hb0 : RowAt w vb0 3 nb0 (fl lb0)) (hba0 : ∀ x ∈ la0, x < 4294967296) (hba1 : za1 < 4294967296) (hbb0 : ∀ x ∈ lb0, x < 4294967296) (hbb1 : zb1 < 4294967296) : Calls Try.prog 4 #[.agg #[va0, .float .f32 za1], .agg #[vb0, .float .f32 zb1]] w fun e w' => e = .returned (.bool true) ∧ Below w.heap.size w w' := by
  have Ha0 := Lib.hid ha0
  have HBa0 := Lib.hid hba0
  clear hba0
  have HBa1 := Lib.hid hba1
  clear hba1
  have Hb0 := Lib.hid hb0
  have HBb0 := Lib.hid hbb0
  clear hbb0
  have HBb1 := Lib.hid hbb1
  clear hbb1
  clear ha0 hb0
  go_enter Try.func4, Try.ntmps4
  go_wp2_with fail
  refine (szRow_any va0 na0 (fl la0) za1 (1048576) _ ?_ (by omega)).mono ?_
  · refine RowAt.below Ha0.out ?_
    (repeat (first | assumption | (with_reducible exact Below.refl _ _) | (with_reducible refine Below.drewN ?_ _) | (with_reducible refine Below.drew ?_) | (with_reducible refine Below.allocS ?_ _) | ((with_reducible refine Below.setCell ?_ ?_ _); rotate_left; focus (first | omega | (simp; done) | (simp; omega))) | (with_reducible refine Below.step ?_ (by assumption))))
  rintro e ws0 ⟨rfl, hcs0⟩
  have hk := Held.below hcs0 (l := [(⟨w.heap.size, 0, none⟩, va0), (⟨w.heap.size, 1, none⟩, .float .f32 za1), (⟨w.heap.size + 1, 0, none⟩, vb0), (⟨w.heap.size + 1, 1, none⟩, .float .f32 zb1)]) (by simp [Held, go_sem, *])
  simp only [Held, and_true] at hk
  have hBs0 : Below w.heap.size w ws0 := by (repeat (first | assumption | (with_reducible exact Below.refl _ _) | (with_reducible refine Below.drewN ?_ _) | (with_reducible refine Below.drew ?_) | (with_reducible refine Below.allocS ?_ _) | ((with_reducible refine Below.setCell ?_ ?_ _); rotate_left; focus (first | omega | (simp; done) | (simp; omega))) | (with_reducible refine Below.step ?_ (by assumption))))
  clear hcs0
  by_cases hs0 : na0 ≤ 1048576
  case neg =>
    rw [if_neg hs0]
    go_wp2_with fail
    go_ret
    refine ⟨rfl, ?_⟩
    (repeat (first | assumption | (with_reducible exact Below.refl _ _) | (with_reducible refine Below.drewN ?_ _) | (with_reducible refine Below.drew ?_) | (with_reducible refine Below.allocS ?_ _) | ((with_reducible refine Below.setCell ?_ ?_ _); rotate_left; focus (first | omega | (simp; done) | (simp; omega))) | (with_reducible refine Below.step ?_ (by assumption))))
  rw [if_pos hs0]
  go_wp2_with fail
  refine (szRow_any vb0 nb0 (fl lb0) zb1 (1048576 - (na0)) _ ?_ (by omega)).mono ?_
  · refine RowAt.below Hb0.out ?_
    (repeat (first | assumption | (with_reducible exact Below.refl _ _) | (with_reducible refine Below.drewN ?_ _) | (with_reducible refine Below.drew ?_) | (with_reducible refine Below.allocS ?_ _) | ((with_reducible refine Below.setCell ?_ ?_ _); rotate_left; focus (first | omega | (simp; done) | (simp; omega))) | (with_reducible refine Below.step ?_ (by assumption))))
  rintro e ws1 ⟨rfl, hcs1⟩
  have hk := Held.below hcs1 (l := [(⟨w.heap.size, 0, none⟩, va0), (⟨w.heap.size, 1, none⟩, .float .f32 za1), (⟨w.heap.size + 1, 0, none⟩, vb0), (⟨w.heap.size + 1, 1, none⟩, .float .f32 zb1)]) (by simp [Held, go_sem, *])
  simp only [Held, and_true] at hk
  have hBs1 : Below w.heap.size w ws1 := by (repeat (first | assumption | (with_reducible exact Below.refl _ _) | (with_reducible refine Below.drewN ?_ _) | (with_reducible refine Below.drew ?_) | (with_reducible refine Below.allocS ?_ _) | ((with_reducible refine Below.setCell ?_ ?_ _); rotate_left; focus (first | omega | (simp; done) | (simp; omega))) | (with_reducible refine Below.step ?_ (by assumption))))
  clear hcs1
  by_cases hs1 : nb0 ≤ 1048576 - (na0)
  case neg =>
    rw [if_neg hs1]
    go_wp2_with fail
    go_ret
    refine ⟨rfl, ?_⟩
    (repeat (first | assumption | (with_reducible exact Below.refl _ _) | (with_reducible refine Below.drewN ?_ _) | (with_reducible refine Below.drew ?_) | (with_reducible refine Below.allocS ?_ _) | ((with_reducible refine Below.setCell ?_ ?_ _); rotate_left; focus (first | omega | (simp; done) | (simp; omega))) | (with_reducible refine Below.step ?_ (by assumption))))
  rw [if_pos hs1]
  go_wp2_with fail
  have hst : stableV [(1, 21, (fun v w => ∃ s0, v = .agg #[s0, .float .f32 za1] ∧ RowAt w s0 3 na0 (fl la0))), (3, 23, (fun v w => ∃ s0, v = .agg #[s0, .float .f32 zb1] ∧ RowAt w s0 3 nb0 (fl lb0)))] := by
    intro q hq
    rcases List.mem_cons.1 hq with rfl | hq
    · intro v w w' hb hh
      obtain ⟨s0, rfl, r0⟩ := hh; exact ⟨s0, rfl, r0.below hb⟩
    obtain rfl := List.mem_singleton.1 hq
    intro v w w' hb hh
    obtain ⟨s0, rfl, r0⟩ := hh; exact ⟨s0, rfl, r0.below hb⟩
  refine region_calmV ws1 [(⟨w.heap.size, 0, none⟩, va0), (⟨w.heap.size, 1, none⟩, .float .f32 za1), (⟨w.heap.size + 1, 0, none⟩, vb0), (⟨w.heap.size + 1, 1, none⟩, .float .f32 zb1)] (fun f _ v => (f = 16 ∧ ∃ y0 y1 : Value, v = .agg #[y0, y1]) ∨ (f = 19 ∧ v = .bool (rowSame na0 la0 za1 nb0 lb0 zb1))) [(1, 21, (fun v w => ∃ s0, v = .agg #[s0, .float .f32 za1] ∧ RowAt w s0 3 na0 (fl la0))), (3, 23, (fun v w => ∃ s0, v = .agg #[s0, .float .f32 zb1] ∧ RowAt w s0 3 nb0 (fl lb0)))] (by kernel_rfl) (by kernel_rfl) (by kernel_rfl) ⟨by simp [Held, go_sem, *], by (repeat (first | assumption | (with_reducible exact Below.refl _ _) | (with_reducible refine Below.drewN ?_ _) | (with_reducible refine Below.drew ?_) | (with_reducible refine Below.allocS ?_ _) | ((with_reducible refine Below.setCell ?_ ?_ _); rotate_left; focus (first | omega | (simp; done) | (simp; omega))) | (with_reducible refine Below.step ?_ (by assumption))))⟩ ?_
  repeat (first | (refine calmV_plain hst rfl rfl ?_ (fun K hK w1 hC => ?_); (focus (intro _ _; simp [RVF]; done)); have hC' := hC.1; simp only [Held, and_true] at hC'; go_wp2_with (first | (refine wpList_fbin rfl rfl rfl rfl rfl (fun r n hr => ?_)) | (refine wpList_widen rfl rfl Try.underlying85 Try.underlying23 rfl (fun r n hr => ?_))); refine ⟨rfl, (by first | exact Below.refl _ _ | exact below_drewN _), hK _ ?_⟩; clear hC hC' hK K w1) | (refine calmV_check rfl rfl rfl ?_ ?_; (focus (intro _ _; simp [RVF]; done))) | (refine calmV_skip rfl ?_ ?_; (focus (intro _ _; simp [RVF]; done)); simp [Act.put]))
  refine calmV_call (f := 16) (args := _) hst rfl (by (intro w1; simp [execOp, resolve, invoke, go_sem]; with_reducible rfl)) (fun w1 hC hD => ?_) ?_
  (focus (refine (toRow_any va0 na0 la0 za1 _ ?_ (by omega)).mono ?_; (focus (refine RowAt.below Ha0.out ?_; have hB9 := hC.2; (repeat (first | assumption | (with_reducible exact Below.refl _ _) | (with_reducible refine Below.drewN ?_ _) | (with_reducible refine Below.drew ?_) | (with_reducible refine Below.allocS ?_ _) | ((with_reducible refine Below.setCell ?_ ?_ _); rotate_left; focus (first | omega | (simp; done) | (simp; omega))) | (with_reducible refine Below.step ?_ (by assumption)))); done)); rintro e w2 ⟨g'0, rfl, o'0, hb2⟩; refine ⟨_, rfl, .inl ⟨rfl, _, _, rfl⟩, ?_, hb2⟩; simp [RVF, Act.put, Act.eval]; exact ownsRow_rowAt o'0)); (intro v hv; simp at hv; obtain ⟨y0, y1, rfl⟩ := hv)
  repeat (first | (refine calmV_plain hst rfl rfl ?_ (fun K hK w1 hC => ?_); (focus (intro _ _; simp [RVF]; done)); have hC' := hC.1; simp only [Held, and_true] at hC'; go_wp2_with (first | (refine wpList_fbin rfl rfl rfl rfl rfl (fun r n hr => ?_)) | (refine wpList_widen rfl rfl Try.underlying85 Try.underlying23 rfl (fun r n hr => ?_))); refine ⟨rfl, (by first | exact Below.refl _ _ | exact below_drewN _), hK _ ?_⟩; clear hC hC' hK K w1) | (refine calmV_check rfl rfl rfl ?_ ?_; (focus (intro _ _; simp [RVF]; done))) | (refine calmV_skip rfl ?_ ?_; (focus (intro _ _; simp [RVF]; done)); simp [Act.put]))
  refine calmV_call (f := 16) (args := _) hst rfl (by (intro w1; simp [execOp, resolve, invoke, go_sem]; with_reducible rfl)) (fun w1 hC hD => ?_) ?_
  (focus (refine (toRow_any vb0 nb0 lb0 zb1 _ ?_ (by omega)).mono ?_; (focus (refine RowAt.below Hb0.out ?_; have hB9 := hC.2; (repeat (first | assumption | (with_reducible exact Below.refl _ _) | (with_reducible refine Below.drewN ?_ _) | (with_reducible refine Below.drew ?_) | (with_reducible refine Below.allocS ?_ _) | ((with_reducible refine Below.setCell ?_ ?_ _); rotate_left; focus (first | omega | (simp; done) | (simp; omega))) | (with_reducible refine Below.step ?_ (by assumption)))); done)); rintro e w2 ⟨g'0, rfl, o'0, hb2⟩; refine ⟨_, rfl, .inl ⟨rfl, _, _, rfl⟩, ?_, hb2⟩; simp [RVF, Act.put, Act.eval]; exact ownsRow_rowAt o'0)); (intro v hv; simp at hv; obtain ⟨y0, y1, rfl⟩ := hv)
  refine calmV_call (f := 19) (args := _) hst rfl (by (intro w1; simp [execOp, resolve, invoke, go_sem]; with_reducible rfl)) (fun w1 hC hD => ?_) ?_
  (focus (have hfa := RVF_get (depV hD (ia := 1) (by kernel_rfl)) (List.mem_cons_self); simp [Act.put, Act.eval] at hfa; have hfb := RVF_get (depV hD (ia := 3) (by kernel_rfl)) (List.mem_cons_of_mem _ (List.mem_singleton.2 rfl)); simp [Act.put, Act.eval] at hfb; (first | (obtain ⟨ta0, ⟨rfl, rfl⟩, ra0⟩ := hfa) | (obtain ⟨rfl, ra0⟩ := hfa)); (first | (obtain ⟨tb0, ⟨rfl, rfl⟩, rb0⟩ := hfb) | (obtain ⟨rfl, rb0⟩ := hfb)); refine (specSameRow_any _ _ na0 nb0 la0 lb0 za1 zb1 _ (by assumption) (by assumption) HBa0.out HBb0.out HBa1.out HBb1.out).mono ?_; rintro e w2 ⟨rfl, hb2⟩; exact ⟨_, rfl, .inr ⟨rfl, rfl⟩, (by simp [RVF]), hb2⟩)); (intro v hv; simp at hv; subst hv)
  repeat (first | (refine calmV_plain hst rfl rfl ?_ (fun K hK w1 hC => ?_); (focus (intro _ _; simp [RVF]; done)); have hC' := hC.1; simp only [Held, and_true] at hC'; go_wp2_with (first | (refine wpList_fbin rfl rfl rfl rfl rfl (fun r n hr => ?_)) | (refine wpList_widen rfl rfl Try.underlying85 Try.underlying23 rfl (fun r n hr => ?_))); refine ⟨rfl, (by first | exact Below.refl _ _ | exact below_drewN _), hK _ ?_⟩; clear hC hC' hK K w1) | (refine calmV_check rfl rfl rfl ?_ ?_; (focus (intro _ _; simp [RVF]; done))) | (refine calmV_skip rfl ?_ ?_; (focus (intro _ _; simp [RVF]; done)); simp [Act.put]))
  refine calmV_nil ?_
  intro w2 hC hF
  have hC' := hC.1
  simp only [Held, and_true] at hC'
  have hBw2 : Below w.heap.size w w2 := by
    have hB := hC.2
    (repeat (first | assumption | (with_reducible exact Below.refl _ _) | (with_reducible refine Below.drewN ?_ _) | (with_reducible refine Below.drew ?_) | (with_reducible refine Below.allocS ?_ _) | ((with_reducible refine Below.setCell ?_ ?_ _); rotate_left; focus (first | omega | (simp; done) | (simp; omega))) | (with_reducible refine Below.step ?_ (by assumption))))
  have hz2 := hC.2.size
  clear hC hF hst
  go_wp2_with fail
  refine (toRow_any va0 na0 la0 za1 _ ?_ (by omega)).mono ?_
  · refine RowAt.below Ha0.out ?_
    (repeat (first | assumption | (with_reducible exact Below.refl _ _) | (with_reducible refine Below.drewN ?_ _) | (with_reducible refine Below.drew ?_) | (with_reducible refine Below.allocS ?_ _) | ((with_reducible refine Below.setCell ?_ ?_ _); rotate_left; focus (first | omega | (simp; done) | (simp; omega))) | (with_reducible refine Below.step ?_ (by assumption))))
  rintro e w3 ⟨ga0, rfl, oa0, c3⟩
  have hk := Held.below c3 (l := [(⟨w.heap.size, 0, none⟩, va0), (⟨w.heap.size, 1, none⟩, .float .f32 za1), (⟨w.heap.size + 1, 0, none⟩, vb0), (⟨w.heap.size + 1, 1, none⟩, .float .f32 zb1)]) (by simp [Held, go_sem, *])
  simp only [Held, and_true] at hk
  have hBw3 : Below w.heap.size w w3 := by (repeat (first | assumption | (with_reducible exact Below.refl _ _) | (with_reducible refine Below.drewN ?_ _) | (with_reducible refine Below.drew ?_) | (with_reducible refine Below.allocS ?_ _) | ((with_reducible refine Below.setCell ?_ ?_ _); rotate_left; focus (first | omega | (simp; done) | (simp; omega))) | (with_reducible refine Below.step ?_ (by assumption))))
  have hb3 : ¬ w.heap.size = w3.heap.size := by omega
  have hb3' : ¬ w.heap.size + 1 = w3.heap.size := by omega
  go_wp2_with fail
  refine (toRow_any vb0 nb0 lb0 zb1 _ ?_ (by omega)).mono ?_
  · refine RowAt.below Hb0.out ?_
    (repeat (first | assumption | (with_reducible exact Below.refl _ _) | (with_reducible refine Below.drewN ?_ _) | (with_reducible refine Below.drew ?_) | (with_reducible refine Below.allocS ?_ _) | ((with_reducible refine Below.setCell ?_ ?_ _); rotate_left; focus (first | omega | (simp; done) | (simp; omega))) | (with_reducible refine Below.step ?_ (by assumption))))
  rintro e w4 ⟨gb0, rfl, ob0, c4⟩
  have hk := Held.below c4 (l := [(⟨w.heap.size, 0, none⟩, va0), (⟨w.heap.size, 1, none⟩, .float .f32 za1), (⟨w.heap.size + 1, 0, none⟩, vb0), (⟨w.heap.size + 1, 1, none⟩, .float .f32 zb1), (⟨w3.heap.size, 0, none⟩, .slice (some ⟨ga0, 0, none⟩) na0 na0), (⟨w3.heap.size, 1, none⟩, .float .f32 za1)]) (by simp [Held, go_sem, *])
  simp only [Held, and_true] at hk
  have hBw4 : Below w.heap.size w w4 := by (repeat (first | assumption | (with_reducible exact Below.refl _ _) | (with_reducible refine Below.drewN ?_ _) | (with_reducible refine Below.drew ?_) | (with_reducible refine Below.allocS ?_ _) | ((with_reducible refine Below.setCell ?_ ?_ _); rotate_left; focus (first | omega | (simp; done) | (simp; omega))) | (with_reducible refine Below.step ?_ (by assumption))))
  have hb4 : ¬ w.heap.size = w4.heap.size := by omega
  have hb4' : ¬ w.heap.size + 1 = w4.heap.size := by omega
  have hb4'' : ¬ w3.heap.size = w4.heap.size := by omega
  have q4 : Below w3.heap.size w3 w4 := by
    refine Below.step ?_ c4
    (repeat (first | (with_reducible exact Below.refl _ _) | (with_reducible refine Below.drewN ?_ _) | (with_reducible refine Below.drew ?_) | (with_reducible refine Below.allocS ?_ _) | ((with_reducible refine Below.setCell ?_ ?_ _); rotate_left; focus (first | omega | (simp; done) | (simp; omega)))))
  have Ra0 := Lib.hid ((ownsRow_rowAt oa0).below q4)
  have Rb0 := Lib.hid (ownsRow_rowAt ob0)
  clear oa0 ob0
  go_wp2_with fail
  refine (implSameRow_any _ _ na0 nb0 la0 lb0 za1 zb1 _ (Ra0.out.below (by (repeat (first | (with_reducible exact Below.refl _ _) | (with_reducible refine Below.drewN ?_ _) | (with_reducible refine Below.drew ?_) | (with_reducible refine Below.allocS ?_ _) | ((with_reducible refine Below.setCell ?_ ?_ _); rotate_left; focus (first | omega | (simp; done) | (simp; omega))))))) (Rb0.out.below (by (repeat (first | (with_reducible exact Below.refl _ _) | (with_reducible refine Below.drewN ?_ _) | (with_reducible refine Below.drew ?_) | (with_reducible refine Below.allocS ?_ _) | ((with_reducible refine Below.setCell ?_ ?_ _); rotate_left; focus (first | omega | (simp; done) | (simp; omega)))))))).mono ?_
  rintro e w5 ⟨rfl, c5⟩
  have hk := Held.below c5 (l := [(⟨w.heap.size, 0, none⟩, va0), (⟨w.heap.size, 1, none⟩, .float .f32 za1), (⟨w.heap.size + 1, 0, none⟩, vb0), (⟨w.heap.size + 1, 1, none⟩, .float .f32 zb1), (⟨w3.heap.size, 0, none⟩, .slice (some ⟨ga0, 0, none⟩) na0 na0), (⟨w3.heap.size, 1, none⟩, .float .f32 za1), (⟨w4.heap.size, 0, none⟩, .slice (some ⟨gb0, 0, none⟩) nb0 nb0), (⟨w4.heap.size, 1, none⟩, .float .f32 zb1)]) (by simp [Held, go_sem, *])
  simp only [Held, and_true] at hk
  have hBw5 : Below w.heap.size w w5 := by (repeat (first | assumption | (with_reducible exact Below.refl _ _) | (with_reducible refine Below.drewN ?_ _) | (with_reducible refine Below.drew ?_) | (with_reducible refine Below.allocS ?_ _) | ((with_reducible refine Below.setCell ?_ ?_ _); rotate_left; focus (first | omega | (simp; done) | (simp; omega))) | (with_reducible refine Below.step ?_ (by assumption))))
  have q5 : Below w4.heap.size w4 w5 := by
    refine Below.step ?_ c5
    (repeat (first | (with_reducible exact Below.refl _ _) | (with_reducible refine Below.drewN ?_ _) | (with_reducible refine Below.drew ?_) | (with_reducible refine Below.allocS ?_ _) | ((with_reducible refine Below.setCell ?_ ?_ _); rotate_left; focus (first | omega | (simp; done) | (simp; omega)))))
  replace Ra0 := Lib.hid (Ra0.out.below q5)
  replace Rb0 := Lib.hid (Rb0.out.below q5)
  go_wp2_with fail
  have hst : stableV [(2, 37, (fun v w => ∃ s0, v = .agg #[s0, .float .f32 za1] ∧ RowAt w s0 3 na0 (fl la0)))] := by
    intro q hq
    obtain rfl := List.mem_singleton.1 hq
    intro v w w' hb hh
    obtain ⟨s0, rfl, r0⟩ := hh; exact ⟨s0, rfl, r0.below hb⟩
  refine region_calmV w5 [(⟨w.heap.size, 0, none⟩, va0), (⟨w.heap.size, 1, none⟩, .float .f32 za1), (⟨w.heap.size + 1, 0, none⟩, vb0), (⟨w.heap.size + 1, 1, none⟩, .float .f32 zb1), (⟨w3.heap.size, 0, none⟩, .slice (some ⟨ga0, 0, none⟩) na0 na0), (⟨w3.heap.size, 1, none⟩, .float .f32 za1), (⟨w4.heap.size, 0, none⟩, .slice (some ⟨gb0, 0, none⟩) nb0 nb0), (⟨w4.heap.size, 1, none⟩, .float .f32 zb1)] (fun f _ v => (f = 16 ∧ ∃ s0, v = .agg #[s0, .float .f32 za1]) ∨ (f = 18 ∧ v = .bool true)) [(2, 37, (fun v w => ∃ s0, v = .agg #[s0, .float .f32 za1] ∧ RowAt w s0 3 na0 (fl la0)))] (by kernel_rfl) (by kernel_rfl) (by kernel_rfl) ⟨by simp [Held, go_sem, *], by (repeat (first | assumption | (with_reducible exact Below.refl _ _) | (with_reducible refine Below.drewN ?_ _) | (with_reducible refine Below.drew ?_) | (with_reducible refine Below.allocS ?_ _) | ((with_reducible refine Below.setCell ?_ ?_ _); rotate_left; focus (first | omega | (simp; done) | (simp; omega))) | (with_reducible refine Below.step ?_ (by assumption))))⟩ ?_
  repeat (first | (first | (refine calmV_plain hst rfl rfl ?_ (fun K hK w1 hC => ?_); (focus (intro _ _; simp [RVF]; done)); have hC' := hC.1; simp only [Held, and_true] at hC'; go_wp2_with (first | (refine wpList_fbin rfl rfl rfl rfl rfl (fun r n hr => ?_)) | (refine wpList_widen rfl rfl Try.underlying85 Try.underlying23 rfl (fun r n hr => ?_))); refine ⟨rfl, (by first | exact Below.refl _ _ | exact below_drewN _), hK _ ?_⟩; clear hC hC' hK K w1) | (refine calmV_check rfl rfl rfl ?_ ?_; (focus (intro _ _; simp [RVF]; done))) | (refine calmV_skip rfl ?_ ?_; (focus (intro _ _; simp [RVF]; done)); simp [Act.put])) | (refine calmV_call (f := 16) (args := _) hst rfl (by (intro w1; simp [execOp, resolve, invoke, go_sem]; with_reducible rfl)) (fun w1 hC hD => ?_) ?_; (focus (refine (toRow_any va0 na0 la0 za1 _ ?_ (by omega)).mono ?_; (focus (refine RowAt.below Ha0.out ?_; have hB9 := hC.2; (repeat (first | assumption | (with_reducible exact Below.refl _ _) | (with_reducible refine Below.drewN ?_ _) | (with_reducible refine Below.drew ?_) | (with_reducible refine Below.allocS ?_ _) | ((with_reducible refine Below.setCell ?_ ?_ _); rotate_left; focus (first | omega | (simp; done) | (simp; omega))) | (with_reducible refine Below.step ?_ (by assumption)))); done)); rintro e w2 ⟨g'0, rfl, o'0, hb2⟩; exact ⟨_, rfl, .inl ⟨rfl, _, rfl⟩, (by simp [RVF, Act.put, Act.eval]; exact ownsRow_rowAt o'0), hb2⟩)); (intro v hv; simp at hv; obtain ⟨s0, rfl⟩ := hv)) | (refine calmV_call (f := 18) (args := _) hst rfl (by (intro w1; simp [execOp, resolve, invoke, go_sem]; with_reducible rfl)) (fun w1 hC hD => ?_) ?_; (focus (have hf := RVF_get (depV hD (ia := 2) (by kernel_rfl)) (List.mem_singleton.2 rfl); simp [Act.put, Act.eval] at hf; refine (eqRow_any _ _ na0 la0 la0 za1 za1 _ ?_ ?_ rfl rfl).mono ?_; (focus (exact Ra0.out.below hC.2)); (focus (exact hf)); rintro e w2 ⟨rfl, hb2⟩; exact ⟨_, rfl, .inr ⟨rfl, rfl⟩, (by simp [RVF]), hb2⟩)); (intro v hv; simp at hv; subst hv)))
  refine calmV_nil ?_
  intro w6 hC hF
  have hC' := hC.1
  simp only [Held, and_true] at hC'
  have hB6 := hC.2
  have hBw6 : Below w.heap.size w w6 := by (repeat (first | assumption | (with_reducible exact Below.refl _ _) | (with_reducible refine Below.drewN ?_ _) | (with_reducible refine Below.drew ?_) | (with_reducible refine Below.allocS ?_ _) | ((with_reducible refine Below.setCell ?_ ?_ _); rotate_left; focus (first | omega | (simp; done) | (simp; omega))) | (with_reducible refine Below.step ?_ (by assumption))))
  replace Rb0 := Lib.hid (Rb0.out.below hB6)
  clear hC hF hst
  go_wp2_with fail
  have hst : stableV [(2, 42, (fun v w => ∃ s0, v = .agg #[s0, .float .f32 zb1] ∧ RowAt w s0 3 nb0 (fl lb0)))] := by
    intro q hq
    obtain rfl := List.mem_singleton.1 hq
    intro v w w' hb hh
    obtain ⟨s0, rfl, r0⟩ := hh; exact ⟨s0, rfl, r0.below hb⟩
  refine region_calmV w6 [(⟨w.heap.size, 0, none⟩, va0), (⟨w.heap.size, 1, none⟩, .float .f32 za1), (⟨w.heap.size + 1, 0, none⟩, vb0), (⟨w.heap.size + 1, 1, none⟩, .float .f32 zb1), (⟨w3.heap.size, 0, none⟩, .slice (some ⟨ga0, 0, none⟩) na0 na0), (⟨w3.heap.size, 1, none⟩, .float .f32 za1), (⟨w4.heap.size, 0, none⟩, .slice (some ⟨gb0, 0, none⟩) nb0 nb0), (⟨w4.heap.size, 1, none⟩, .float .f32 zb1)] (fun f _ v => (f = 16 ∧ ∃ s0, v = .agg #[s0, .float .f32 zb1]) ∨ (f = 18 ∧ v = .bool true)) [(2, 42, (fun v w => ∃ s0, v = .agg #[s0, .float .f32 zb1] ∧ RowAt w s0 3 nb0 (fl lb0)))] (by kernel_rfl) (by kernel_rfl) (by kernel_rfl) ⟨by simp [Held, go_sem, *], by (repeat (first | assumption | (with_reducible exact Below.refl _ _) | (with_reducible refine Below.drewN ?_ _) | (with_reducible refine Below.drew ?_) | (with_reducible refine Below.allocS ?_ _) | ((with_reducible refine Below.setCell ?_ ?_ _); rotate_left; focus (first | omega | (simp; done) | (simp; omega))) | (with_reducible refine Below.step ?_ (by assumption))))⟩ ?_
  repeat (first | (first | (refine calmV_plain hst rfl rfl ?_ (fun K hK w1 hC => ?_); (focus (intro _ _; simp [RVF]; done)); have hC' := hC.1; simp only [Held, and_true] at hC'; go_wp2_with (first | (refine wpList_fbin rfl rfl rfl rfl rfl (fun r n hr => ?_)) | (refine wpList_widen rfl rfl Try.underlying85 Try.underlying23 rfl (fun r n hr => ?_))); refine ⟨rfl, (by first | exact Below.refl _ _ | exact below_drewN _), hK _ ?_⟩; clear hC hC' hK K w1) | (refine calmV_check rfl rfl rfl ?_ ?_; (focus (intro _ _; simp [RVF]; done))) | (refine calmV_skip rfl ?_ ?_; (focus (intro _ _; simp [RVF]; done)); simp [Act.put])) | (refine calmV_call (f := 16) (args := _) hst rfl (by (intro w1; simp [execOp, resolve, invoke, go_sem]; with_reducible rfl)) (fun w1 hC hD => ?_) ?_; (focus (refine (toRow_any vb0 nb0 lb0 zb1 _ ?_ (by omega)).mono ?_; (focus (refine RowAt.below Hb0.out ?_; have hB9 := hC.2; (repeat (first | assumption | (with_reducible exact Below.refl _ _) | (with_reducible refine Below.drewN ?_ _) | (with_reducible refine Below.drew ?_) | (with_reducible refine Below.allocS ?_ _) | ((with_reducible refine Below.setCell ?_ ?_ _); rotate_left; focus (first | omega | (simp; done) | (simp; omega))) | (with_reducible refine Below.step ?_ (by assumption)))); done)); rintro e w2 ⟨g'0, rfl, o'0, hb2⟩; exact ⟨_, rfl, .inl ⟨rfl, _, rfl⟩, (by simp [RVF, Act.put, Act.eval]; exact ownsRow_rowAt o'0), hb2⟩)); (intro v hv; simp at hv; obtain ⟨s0, rfl⟩ := hv)) | (refine calmV_call (f := 18) (args := _) hst rfl (by (intro w1; simp [execOp, resolve, invoke, go_sem]; with_reducible rfl)) (fun w1 hC hD => ?_) ?_; (focus (have hf := RVF_get (depV hD (ia := 2) (by kernel_rfl)) (List.mem_singleton.2 rfl); simp [Act.put, Act.eval] at hf; refine (eqRow_any _ _ nb0 lb0 lb0 zb1 zb1 _ ?_ ?_ rfl rfl).mono ?_; (focus (exact Rb0.out.below hC.2)); (focus (exact hf)); rintro e w2 ⟨rfl, hb2⟩; exact ⟨_, rfl, .inr ⟨rfl, rfl⟩, (by simp [RVF]), hb2⟩)); (intro v hv; simp at hv; subst hv)))
  refine calmV_nil ?_
  intro w' hC hF
  have hC' := hC.1
  simp only [Held, and_true] at hC'
  go_wp2_with fail
  go_ret
  refine ⟨rfl, ?_⟩
  have hB := hC.2
  (repeat (first | assumption | (with_reducible exact Below.refl _ _) | (with_reducible refine Below.drewN ?_ _) | (with_reducible refine Below.drew ?_) | (with_reducible refine Below.allocS ?_ _) | ((with_reducible refine Below.setCell ?_ ?_ _); rotate_left; focus (first | omega | (simp; done) | (simp; omega))) | (with_reducible refine Below.step ?_ (by assumption))))

end Go.Proofs.Ytbmabpnolheghaa
