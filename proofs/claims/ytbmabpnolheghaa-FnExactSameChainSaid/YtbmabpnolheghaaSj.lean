/-
  The walks of chains that are the same.
-/
import Derived.Test.YtbmabpnolheghaaSi
set_option linter.unusedVariables false
set_option linter.unusedSimpArgs false
namespace Go.Proofs.Ytbmabpnolheghaa
open Go.RowKit

def vecSame (l m : List Nat) (k : Nat) : Bool := sameB (l.getD (k * 3) 0) (m.getD (k * 3) 0) && sameB (l.getD (k * 3 + 1) 0) (m.getD (k * 3 + 1) 0) && sameB (l.getD (k * 3 + 2) 0) (m.getD (k * 3 + 2) 0)
def iAt (xs : List Value) (j : Nat) : Int := match xs[j]? with
  | some (.int _ n) => n
  | _ => 0
def fAt (xs : List Value) (j : Nat) : Nat := match xs[j]? with
  | some (.float _ x) => x
  | _ => 0
theorem iAt_of {xs : List Value} {j : Nat} {k : IntKind} {n : Int} (h : xs[j]? = some (.int k n)) : iAt xs j = n := by unfold iAt; rw [h]
theorem fAt_of {xs : List Value} {j : Nat} {k : FloatKind} {x : Nat} (h : xs[j]? = some (.float k x)) : fAt xs j = x := by unfold fAt; rw [h]
def rodSame (xs ys : List Value) (k : Nat) : Bool := ((iAt xs (k * 3) == iAt ys (k * 3)) && (iAt xs (k * 3 + 1) == iAt ys (k * 3 + 1))) && sameB (fAt xs (k * 3 + 2)) (fAt ys (k * 3 + 2))
def chainSame (n0 : Nat) (l0 : List Nat) (n1 : Nat) (l1 : List Nat) (n2 : Nat) (l2 : List Nat) (n3 : Nat) (l3 : List Value) (m0 : Nat) (k0 : List Nat) (m1 : Nat) (k1 : List Nat) (m2 : Nat) (k2 : List Nat) (m3 : Nat) (k3 : List Value) : Bool :=
  ((rowsSame (vecSame l0 k0) n0 m0 && rowsSame (vecSame l1 k1) n1 m1) && rowsSame (numSame l2 k2) n2 m2) && rowsSame (rodSame l3 k3) n3 m3
set_option maxRecDepth 100000 in
theorem implSameVec_any (x0 x1 x2 y0 y1 y2 : Nat) (w : World) : Calls Try.prog 91 #[.agg #[.float .f32 x0, .float .f32 x1, .float .f32 x2], .agg #[.float .f32 y0, .float .f32 y1, .float .f32 y2]] w (BB (same3 x0 x1 x2 y0 y1 y2) w) := by
  go_enter Try.func91, Try.ntmps91
  go_wp2_with fail
  go_region_held3 (fun w' => w'.cell? ⟨w.heap.size, 0, none⟩ = some (.float .f32 x0) ∧ w'.cell? ⟨w.heap.size, 1, none⟩ = some (.float .f32 x1) ∧ w'.cell? ⟨w.heap.size, 2, none⟩ = some (.float .f32 x2) ∧ w'.cell? ⟨w.heap.size + 1, 0, none⟩ = some (.float .f32 y0) ∧ w'.cell? ⟨w.heap.size + 1, 1, none⟩ = some (.float .f32 y1) ∧ w'.cell? ⟨w.heap.size + 1, 2, none⟩ = some (.float .f32 y2)) (simp [go_sem]) (first | (go_at_call 71; refine (numbersVector_any _ _ _ _).mono ?_; rintro e w' ⟨rfl, rfl⟩) | (go_at_call 84; refine (sameList3_any x0 x1 x2 y0 y1 y2 _ _ _ ?_ ?_ ?_ ?_ ?_ ?_).mono ?_; (simp [go_sem]); (simp [go_sem]); (simp [go_sem]); (simp [go_sem]); (simp [go_sem]); (simp [go_sem]); rintro e w' ⟨n, rfl, rfl⟩))
  go_wp2
  go_ret
  refine ⟨rfl, ?_⟩
  (repeat (first | (with_reducible exact Below.refl _ _) | (with_reducible refine Below.drewN ?_ _) | (with_reducible refine Below.drew ?_) | (with_reducible refine Below.allocS ?_ _) | ((with_reducible refine Below.setCell ?_ ?_ _); rotate_left; focus (first | omega | (simp; done) | (simp; omega))) | (with_reducible refine Below.step ?_ (by assumption))))

set_option maxRecDepth 100000 in
set_option maxHeartbeats 40000000 in
theorem l01VSm_any (x0 x1 x2 y0 y1 y2 : Nat) (w : World) (bx0 : x0 < 4294967296) (bx1 : x1 < 4294967296) (bx2 : x2 < 4294967296) (by0 : y0 < 4294967296) (by1 : y1 < 4294967296) (by2 : y2 < 4294967296) : Calls Try.prog 165 #[.agg #[.float .f32 x0, .float .f32 x1, .float .f32 x2], .agg #[.float .f32 y0, .float .f32 y1, .float .f32 y2]] w (BB (same3 x0 x1 x2 y0 y1 y2) w) := by
  go_enter Try.func165, Try.ntmps165
  go_wp2_with (first | (go_at_call 65; refine (l01Same_any _ _ _ (by assumption) (by assumption)).mono ?_; rintro e w' ⟨n, rfl, rfl⟩) | go_in)
  all_goals (go_ret; unfold same3; refine ⟨by simp [*], ?_⟩; (repeat (first | (with_reducible exact Below.refl _ _) | (with_reducible refine Below.drewN ?_ _) | (with_reducible refine Below.drew ?_) | (with_reducible refine Below.allocS ?_ _) | ((with_reducible refine Below.setCell ?_ ?_ _); rotate_left; focus (first | omega | (simp; done) | (simp; omega))) | (with_reducible refine Below.step ?_ (by assumption)))))

set_option maxRecDepth 100000 in
set_option maxHeartbeats 4000000 in
theorem equalVecs_any (v v' : Value) (n m : Nat) (l l' : List Nat) (w : World) (h : RowAt w v 3 n (fl l)) (h' : RowAt w v' 3 m (fl l')) :
    Calls Try.prog 90 #[v, v', .func (.func 91) #[] #[]] w (BB (rowsSame (vecSame l l') n m) w) := by
  obtain ⟨h1, h2, ao, cap, rfl, h3⟩ := h
  obtain ⟨g1, g2, ao', cap', rfl, g3⟩ := h'
  have H3 := Lib.hid h3
  have G3 := Lib.hid g3
  rw [fl_length] at h1 g1
  have h2' : n ≤ 9223372036854775807 := h2
  have g2' : m ≤ 9223372036854775807 := g2
  clear h3 g3 h2 g2
  by_cases he : n = m
  case neg =>
    have d1 : ((n : Int) != (m : Int)) = true := by simp; omega
    have HE := Lib.hid he
    clear he
    go_enter Try.func90, Try.ntmps90
    go_wp2
    go_ret
    exact ⟨ret_bool (by unfold rowsSame; simp [HE.out]), Below.refl _ _⟩
  have d1 : ((n : Int) != (m : Int)) = false := by simp; omega
  have HE := Lib.hid he
  have hnm : n ≤ m := Nat.le_of_eq he
  have hmn : m ≤ n := Nat.le_of_eq he.symm
  clear he
  go_enter Try.func90, Try.ntmps90
  go_wp2
  clear d1
  go_loopw [17] (fun i wr => ∃ k : Nat, k ≤ n ∧ i = .int .i64 (k : Int) ∧ (∀ j, j < k → vecSame l l' j = true) ∧ Below w.heap.size w wr) (fun i _ => n - (intOf i).toNat)
  case atStart => exact ⟨0, Nat.zero_le _, rfl, fun j hj => absurd hj (Nat.not_lt_zero _), by (repeat (first | assumption | (with_reducible exact Below.refl _ _) | (with_reducible refine Below.drewN ?_ _) | (with_reducible refine Below.drew ?_) | (with_reducible refine Below.allocS ?_ _) | ((with_reducible refine Below.setCell ?_ ?_ _); rotate_left; focus (first | omega | (simp; done) | (simp; omega))) | (with_reducible refine Below.step ?_ (by assumption))))⟩
  case round =>
    obtain ⟨k, hk, rfl, hall, hbel⟩ := hrel
    have HA := Lib.hid hall
    clear hall
    by_cases hlt : k < n
    · have hlt' : k < m := by omega
      obtain ⟨b, o, rfl, hbl, hcell⟩ := H3.out.resolve_left (by omega)
      obtain ⟨x0, hx0⟩ : ∃ x, Hid (l.getD (k * 3) 0 = x) := ⟨_, rfl⟩
      have fx0 : wr.cell? ⟨b, o + k * 3, none⟩ = some (.float .f32 x0) := by rw [hbel.cell (p := ⟨b, o + k * 3, none⟩) hbl]; exact (hcell (k * 3) (.float .f32 x0) (by rw [← hx0.out]; exact fl_get (by omega))).1
      obtain ⟨x1, hx1⟩ : ∃ x, Hid (l.getD (k * 3 + 1) 0 = x) := ⟨_, rfl⟩
      have fx1 : wr.cell? ⟨b, o + k * 3 + 1, none⟩ = some (.float .f32 x1) := by rw [hbel.cell (p := ⟨b, o + k * 3 + 1, none⟩) hbl]; exact (hcell (k * 3 + 1) (.float .f32 x1) (by rw [← hx1.out]; exact fl_get (by omega))).1
      obtain ⟨x2, hx2⟩ : ∃ x, Hid (l.getD (k * 3 + 2) 0 = x) := ⟨_, rfl⟩
      have fx2 : wr.cell? ⟨b, o + k * 3 + 2, none⟩ = some (.float .f32 x2) := by rw [hbel.cell (p := ⟨b, o + k * 3 + 2, none⟩) hbl]; exact (hcell (k * 3 + 2) (.float .f32 x2) (by rw [← hx2.out]; exact fl_get (by omega))).1
      clear hcell
      have hblw : b < wr.heap.size := Nat.lt_of_lt_of_le hbl hbel.size
      obtain ⟨b', o', rfl, gbl, hcell⟩ := G3.out.resolve_left (by omega)
      obtain ⟨y0, hy0⟩ : ∃ x, Hid (l'.getD (k * 3) 0 = x) := ⟨_, rfl⟩
      have fy0 : wr.cell? ⟨b', o' + k * 3, none⟩ = some (.float .f32 y0) := by rw [hbel.cell (p := ⟨b', o' + k * 3, none⟩) gbl]; exact (hcell (k * 3) (.float .f32 y0) (by rw [← hy0.out]; exact fl_get (by omega))).1
      obtain ⟨y1, hy1⟩ : ∃ x, Hid (l'.getD (k * 3 + 1) 0 = x) := ⟨_, rfl⟩
      have fy1 : wr.cell? ⟨b', o' + k * 3 + 1, none⟩ = some (.float .f32 y1) := by rw [hbel.cell (p := ⟨b', o' + k * 3 + 1, none⟩) gbl]; exact (hcell (k * 3 + 1) (.float .f32 y1) (by rw [← hy1.out]; exact fl_get (by omega))).1
      obtain ⟨y2, hy2⟩ : ∃ x, Hid (l'.getD (k * 3 + 2) 0 = x) := ⟨_, rfl⟩
      have fy2 : wr.cell? ⟨b', o' + k * 3 + 2, none⟩ = some (.float .f32 y2) := by rw [hbel.cell (p := ⟨b', o' + k * 3 + 2, none⟩) gbl]; exact (hcell (k * 3 + 2) (.float .f32 y2) (by rw [← hy2.out]; exact fl_get (by omega))).1
      clear hcell
      have gblw : b' < wr.heap.size := Nat.lt_of_lt_of_le gbl hbel.size
      have HOK : Hid (vecSame l l' k = (sameB x0 y0 && sameB x1 y1 && sameB x2 y2)) := by show _ = _; unfold vecSame; rw [hx0.out, hx1.out, hx2.out, hy0.out, hy1.out, hy2.out]
      cases hs : (sameB x0 y0 && sameB x1 y1 && sameB x2 y2)
      · go_wp2_with (first | (go_at_call 91; refine (implSameVec_any x0 x1 x2 y0 y1 y2 _).mono ?_; rintro e w' ⟨rfl, hb9⟩; rw [show same3 x0 x1 x2 y0 y1 y2 = _ from hs]))
        go_ret
        refine ⟨ret_bool (by unfold rowsSame; rw [upto_false hlt (by rw [HOK.out]; exact hs), Bool.and_false]), ?_⟩
        (repeat (first | assumption | (with_reducible exact Below.refl _ _) | (with_reducible refine Below.drewN ?_ _) | (with_reducible refine Below.drew ?_) | (with_reducible refine Below.allocS ?_ _) | ((with_reducible refine Below.setCell ?_ ?_ _); rotate_left; focus (first | omega | (simp; done) | (simp; omega))) | (with_reducible refine Below.step ?_ (by assumption))))
      · go_wp2_with (first | (go_at_call 91; refine (implSameVec_any x0 x1 x2 y0 y1 y2 _).mono ?_; rintro e w' ⟨rfl, hb9⟩; rw [show same3 x0 x1 x2 y0 y1 y2 = _ from hs]))
        go_roundw
        case rel => exact ⟨k + 1, hlt, by go_num, all_step HA.out (by rw [HOK.out]; exact hs), by (repeat (first | assumption | (with_reducible exact Below.refl _ _) | (with_reducible refine Below.drewN ?_ _) | (with_reducible refine Below.drew ?_) | (with_reducible refine Below.allocS ?_ _) | ((with_reducible refine Below.setCell ?_ ?_ _); rotate_left; focus (first | omega | (simp; done) | (simp; omega))) | (with_reducible refine Below.step ?_ (by assumption))))⟩
        case measure => simp [intOf]; omega
    · obtain rfl : k = n := by omega
      go_wp2
      go_ret
      exact ⟨ret_bool (by unfold rowsSame; rw [upto_true HA.out]; simp [HE.out]), hbel⟩

set_option maxRecDepth 100000 in
set_option maxHeartbeats 4000000 in
theorem sameRod_any (p q p' q' : Int) (x y : Nat) (w : World) : Calls Try.prog 93 #[.agg #[.int .i64 p, .int .i64 q, .float .f32 x], .agg #[.int .i64 p', .int .i64 q', .float .f32 y]] w (BB (((p == p') && (q == q')) && sameB x y) w) := by
  cases s0 : (p == p') <;> cases s1 : (q == q') <;> cases s2 : sameB x y
  all_goals
    go_enter Try.func93, Try.ntmps93
    go_wp2_with (first | (go_at_call 68; refine (SameNumber_any _ _ _).mono ?_; rintro e w' ⟨n9, rfl, rfl⟩))
    go_ret
    refine ⟨ret_bool (by simp [s0, s1, s2]), ?_⟩
    (repeat (first | assumption | (with_reducible exact Below.refl _ _) | (with_reducible refine Below.drewN ?_ _) | (with_reducible refine Below.drew ?_) | (with_reducible refine Below.allocS ?_ _) | ((with_reducible refine Below.setCell ?_ ?_ _); rotate_left; focus (first | omega | (simp; done) | (simp; omega))) | (with_reducible refine Below.step ?_ (by assumption))))
set_option maxRecDepth 100000 in
set_option maxHeartbeats 4000000 in
theorem equalRods_any (v v' : Value) (n m : Nat) (l l' : List Value) (w : World) (h : RowAt w v 3 n l) (h' : RowAt w v' 3 m l') (hl : RodL l) (hl' : RodL l') :
    Calls Try.prog 92 #[v, v', .func (.func 93) #[] #[]] w (BB (rowsSame (rodSame l l') n m) w) := by
  obtain ⟨h1, h2, ao, cap, rfl, h3⟩ := h
  obtain ⟨g1, g2, ao', cap', rfl, g3⟩ := h'
  have H3 := Lib.hid h3
  have G3 := Lib.hid g3
  have h2' : n ≤ 9223372036854775807 := h2
  have g2' : m ≤ 9223372036854775807 := g2
  clear h3 g3 h2 g2
  have HL := Lib.hid hl
  have HL' := Lib.hid hl'
  clear hl hl'
  by_cases he : n = m
  case neg =>
    have d1 : ((n : Int) != (m : Int)) = true := by simp; omega
    have HE := Lib.hid he
    clear he
    go_enter Try.func92, Try.ntmps92
    go_wp2
    go_ret
    exact ⟨ret_bool (by unfold rowsSame; simp [HE.out]), Below.refl _ _⟩
  have d1 : ((n : Int) != (m : Int)) = false := by simp; omega
  have HE := Lib.hid he
  have hnm : n ≤ m := Nat.le_of_eq he
  have hmn : m ≤ n := Nat.le_of_eq he.symm
  clear he
  go_enter Try.func92, Try.ntmps92
  go_wp2
  clear d1
  go_loopw [17] (fun i wr => ∃ k : Nat, k ≤ n ∧ i = .int .i64 (k : Int) ∧ (∀ j, j < k → rodSame l l' j = true) ∧ Below w.heap.size w wr) (fun i _ => n - (intOf i).toNat)
  case atStart => exact ⟨0, Nat.zero_le _, rfl, fun j hj => absurd hj (Nat.not_lt_zero _), by (repeat (first | assumption | (with_reducible exact Below.refl _ _) | (with_reducible refine Below.drewN ?_ _) | (with_reducible refine Below.drew ?_) | (with_reducible refine Below.allocS ?_ _) | ((with_reducible refine Below.setCell ?_ ?_ _); rotate_left; focus (first | omega | (simp; done) | (simp; omega))) | (with_reducible refine Below.step ?_ (by assumption))))⟩
  case round =>
    obtain ⟨k, hk, rfl, hall, hbel⟩ := hrel
    have HA := Lib.hid hall
    clear hall
    by_cases hlt : k < n
    · have hlt' : k < m := by omega
      obtain ⟨b, o, rfl, hbl, hcell⟩ := H3.out.resolve_left (by omega)
      obtain ⟨p, q, x, e0x, e1x, e2x⟩ := HL.out k (by omega)
      have fx0 : wr.cell? ⟨b, o + k * 3, none⟩ = some (.int .i64 p) := by rw [hbel.cell (p := ⟨b, o + k * 3, none⟩) hbl]; exact (hcell (k * 3) _ e0x).1
      have fx1 : wr.cell? ⟨b, o + k * 3 + 1, none⟩ = some (.int .i64 q) := by rw [hbel.cell (p := ⟨b, o + k * 3 + 1, none⟩) hbl]; exact (hcell (k * 3 + 1) _ e1x).1
      have fx2 : wr.cell? ⟨b, o + k * 3 + 2, none⟩ = some (.float .f32 x) := by rw [hbel.cell (p := ⟨b, o + k * 3 + 2, none⟩) hbl]; exact (hcell (k * 3 + 2) _ e2x).1
      clear hcell
      have hblw : b < wr.heap.size := Nat.lt_of_lt_of_le hbl hbel.size
      obtain ⟨b', o', rfl, gbl, hcell⟩ := G3.out.resolve_left (by omega)
      obtain ⟨p', q', y, e0y, e1y, e2y⟩ := HL'.out k (by omega)
      have fy0 : wr.cell? ⟨b', o' + k * 3, none⟩ = some (.int .i64 p') := by rw [hbel.cell (p := ⟨b', o' + k * 3, none⟩) gbl]; exact (hcell (k * 3) _ e0y).1
      have fy1 : wr.cell? ⟨b', o' + k * 3 + 1, none⟩ = some (.int .i64 q') := by rw [hbel.cell (p := ⟨b', o' + k * 3 + 1, none⟩) gbl]; exact (hcell (k * 3 + 1) _ e1y).1
      have fy2 : wr.cell? ⟨b', o' + k * 3 + 2, none⟩ = some (.float .f32 y) := by rw [hbel.cell (p := ⟨b', o' + k * 3 + 2, none⟩) gbl]; exact (hcell (k * 3 + 2) _ e2y).1
      clear hcell
      have gblw : b' < wr.heap.size := Nat.lt_of_lt_of_le gbl hbel.size
      have HOK : Hid (rodSame l l' k = (((p == p') && (q == q')) && sameB x y)) := by show _ = _; unfold rodSame; rw [iAt_of e0x, iAt_of e0y, iAt_of e1x, iAt_of e1y, fAt_of e2x, fAt_of e2y]
      clear e0x e1x e2x e0y e1y e2y
      cases hs : (((p == p') && (q == q')) && sameB x y)
      · go_wp2_with (first | (go_at_call 93; refine (sameRod_any p q p' q' x y _).mono ?_; rintro e w' ⟨rfl, hb9⟩; rw [hs]))
        go_ret
        refine ⟨ret_bool (by unfold rowsSame; rw [upto_false hlt (by rw [HOK.out]; exact hs), Bool.and_false]), ?_⟩
        (repeat (first | assumption | (with_reducible exact Below.refl _ _) | (with_reducible refine Below.drewN ?_ _) | (with_reducible refine Below.drew ?_) | (with_reducible refine Below.allocS ?_ _) | ((with_reducible refine Below.setCell ?_ ?_ _); rotate_left; focus (first | omega | (simp; done) | (simp; omega))) | (with_reducible refine Below.step ?_ (by assumption))))
      · go_wp2_with (first | (go_at_call 93; refine (sameRod_any p q p' q' x y _).mono ?_; rintro e w' ⟨rfl, hb9⟩; rw [hs]))
        go_roundw
        case rel => exact ⟨k + 1, hlt, by go_num, all_step HA.out (by rw [HOK.out]; exact hs), by (repeat (first | assumption | (with_reducible exact Below.refl _ _) | (with_reducible refine Below.drewN ?_ _) | (with_reducible refine Below.drew ?_) | (with_reducible refine Below.allocS ?_ _) | ((with_reducible refine Below.setCell ?_ ?_ _); rotate_left; focus (first | omega | (simp; done) | (simp; omega))) | (with_reducible refine Below.step ?_ (by assumption))))⟩
        case measure => simp [intOf]; omega
    · obtain rfl : k = n := by omega
      go_wp2
      go_ret
      exact ⟨ret_bool (by unfold rowsSame; rw [upto_true HA.out]; simp [HE.out]), hbel⟩

set_option maxRecDepth 100000 in
set_option maxHeartbeats 4000000 in
theorem implSameChain_any (v0 : Value) (n0 : Nat) (l0 : List Nat) (v1 : Value) (n1 : Nat) (l1 : List Nat) (v2 : Value) (n2 : Nat) (l2 : List Nat) (v3 : Value) (n3 : Nat) (l3 : List Value) (u0 : Value) (m0 : Nat) (k0 : List Nat) (u1 : Value) (m1 : Nat) (k1 : List Nat) (u2 : Value) (m2 : Nat) (k2 : List Nat) (u3 : Value) (m3 : Nat) (k3 : List Value) (w : World) (h0 : RowAt w v0 3 n0 (fl l0)) (h1 : RowAt w v1 3 n1 (fl l1)) (h2 : RowAt w v2 1 n2 (fl l2)) (h3 : RowAt w v3 3 n3 l3) (g0 : RowAt w u0 3 m0 (fl k0)) (g1 : RowAt w u1 3 m1 (fl k1)) (g2 : RowAt w u2 1 m2 (fl k2)) (g3 : RowAt w u3 3 m3 k3) (hR : RodL l3) (gR : RodL k3) : Calls Try.prog 36 #[.agg #[v0, v1, v2, v3], .agg #[u0, u1, u2, u3]] w (BB (chainSame n0 l0 n1 l1 n2 l2 n3 l3 m0 k0 m1 k1 m2 k2 m3 k3) w) := by
  have H0 := Lib.hid h0
  have G0 := Lib.hid g0
  have H1 := Lib.hid h1
  have G1 := Lib.hid g1
  have H2 := Lib.hid h2
  have G2 := Lib.hid g2
  have H3 := Lib.hid h3
  have G3 := Lib.hid g3
  have HR := Lib.hid hR
  have GR := Lib.hid gR
  clear h0 h1 h2 h3 g0 g1 g2 g3 hR gR
  have HQ : Hid (chainSame n0 l0 n1 l1 n2 l2 n3 l3 m0 k0 m1 k1 m2 k2 m3 k3 = (((rowsSame (vecSame l0 k0) n0 m0 && rowsSame (vecSame l1 k1) n1 m1) && rowsSame (numSame l2 k2) n2 m2) && rowsSame (rodSame l3 k3) n3 m3)) := rfl
  obtain ⟨t, hu⟩ : ∃ t, rowsSame (vecSame l0 k0) n0 m0 = t := ⟨_, rfl⟩
  have T0 := Lib.hid hu
  clear hu
  cases t
  case false =>
    go_enter Try.func36, Try.ntmps36
    go_wp2_with fail
    refine (equalVecs_any v0 u0 n0 m0 l0 k0 _ ?_ ?_).mono ?_
    · refine RowAt.below H0.out ?_
      (repeat (first | assumption | (with_reducible exact Below.refl _ _) | (with_reducible refine Below.drewN ?_ _) | (with_reducible refine Below.drew ?_) | (with_reducible refine Below.allocS ?_ _) | ((with_reducible refine Below.setCell ?_ ?_ _); rotate_left; focus (first | omega | (simp; done) | (simp; omega))) | (with_reducible refine Below.step ?_ (by assumption))))
    · refine RowAt.below G0.out ?_
      (repeat (first | assumption | (with_reducible exact Below.refl _ _) | (with_reducible refine Below.drewN ?_ _) | (with_reducible refine Below.drew ?_) | (with_reducible refine Below.allocS ?_ _) | ((with_reducible refine Below.setCell ?_ ?_ _); rotate_left; focus (first | omega | (simp; done) | (simp; omega))) | (with_reducible refine Below.step ?_ (by assumption))))
    rintro e w1 ⟨rfl, c1⟩
    rw [T0.out]
    have hk := Held.below c1 (l := [(⟨w.heap.size, 0, none⟩, v0), (⟨w.heap.size, 1, none⟩, v1), (⟨w.heap.size, 2, none⟩, v2), (⟨w.heap.size, 3, none⟩, v3), (⟨w.heap.size + 1, 0, none⟩, u0), (⟨w.heap.size + 1, 1, none⟩, u1), (⟨w.heap.size + 1, 2, none⟩, u2), (⟨w.heap.size + 1, 3, none⟩, u3)]) (by simp [Held, go_sem, *])
    simp only [Held, and_true] at hk
    have hB1 : Below w.heap.size w w1 := by (repeat (first | assumption | (with_reducible exact Below.refl _ _) | (with_reducible refine Below.drewN ?_ _) | (with_reducible refine Below.drew ?_) | (with_reducible refine Below.allocS ?_ _) | ((with_reducible refine Below.setCell ?_ ?_ _); rotate_left; focus (first | omega | (simp; done) | (simp; omega))) | (with_reducible refine Below.step ?_ (by assumption))))
    clear c1
    go_wp2_with fail
    go_ret
    refine ⟨ret_bool (by rw [HQ.out, T0.out]; simp), ?_⟩
    (repeat (first | assumption | (with_reducible exact Below.refl _ _) | (with_reducible refine Below.drewN ?_ _) | (with_reducible refine Below.drew ?_) | (with_reducible refine Below.allocS ?_ _) | ((with_reducible refine Below.setCell ?_ ?_ _); rotate_left; focus (first | omega | (simp; done) | (simp; omega))) | (with_reducible refine Below.step ?_ (by assumption))))
  obtain ⟨t, hu⟩ : ∃ t, rowsSame (vecSame l1 k1) n1 m1 = t := ⟨_, rfl⟩
  have T1 := Lib.hid hu
  clear hu
  cases t
  case false =>
    go_enter Try.func36, Try.ntmps36
    go_wp2_with fail
    refine (equalVecs_any v0 u0 n0 m0 l0 k0 _ ?_ ?_).mono ?_
    · refine RowAt.below H0.out ?_
      (repeat (first | assumption | (with_reducible exact Below.refl _ _) | (with_reducible refine Below.drewN ?_ _) | (with_reducible refine Below.drew ?_) | (with_reducible refine Below.allocS ?_ _) | ((with_reducible refine Below.setCell ?_ ?_ _); rotate_left; focus (first | omega | (simp; done) | (simp; omega))) | (with_reducible refine Below.step ?_ (by assumption))))
    · refine RowAt.below G0.out ?_
      (repeat (first | assumption | (with_reducible exact Below.refl _ _) | (with_reducible refine Below.drewN ?_ _) | (with_reducible refine Below.drew ?_) | (with_reducible refine Below.allocS ?_ _) | ((with_reducible refine Below.setCell ?_ ?_ _); rotate_left; focus (first | omega | (simp; done) | (simp; omega))) | (with_reducible refine Below.step ?_ (by assumption))))
    rintro e w1 ⟨rfl, c1⟩
    rw [T0.out]
    have hk := Held.below c1 (l := [(⟨w.heap.size, 0, none⟩, v0), (⟨w.heap.size, 1, none⟩, v1), (⟨w.heap.size, 2, none⟩, v2), (⟨w.heap.size, 3, none⟩, v3), (⟨w.heap.size + 1, 0, none⟩, u0), (⟨w.heap.size + 1, 1, none⟩, u1), (⟨w.heap.size + 1, 2, none⟩, u2), (⟨w.heap.size + 1, 3, none⟩, u3)]) (by simp [Held, go_sem, *])
    simp only [Held, and_true] at hk
    have hB1 : Below w.heap.size w w1 := by (repeat (first | assumption | (with_reducible exact Below.refl _ _) | (with_reducible refine Below.drewN ?_ _) | (with_reducible refine Below.drew ?_) | (with_reducible refine Below.allocS ?_ _) | ((with_reducible refine Below.setCell ?_ ?_ _); rotate_left; focus (first | omega | (simp; done) | (simp; omega))) | (with_reducible refine Below.step ?_ (by assumption))))
    clear c1
    go_wp2_with fail
    refine (equalVecs_any v1 u1 n1 m1 l1 k1 _ ?_ ?_).mono ?_
    · refine RowAt.below H1.out ?_
      (repeat (first | assumption | (with_reducible exact Below.refl _ _) | (with_reducible refine Below.drewN ?_ _) | (with_reducible refine Below.drew ?_) | (with_reducible refine Below.allocS ?_ _) | ((with_reducible refine Below.setCell ?_ ?_ _); rotate_left; focus (first | omega | (simp; done) | (simp; omega))) | (with_reducible refine Below.step ?_ (by assumption))))
    · refine RowAt.below G1.out ?_
      (repeat (first | assumption | (with_reducible exact Below.refl _ _) | (with_reducible refine Below.drewN ?_ _) | (with_reducible refine Below.drew ?_) | (with_reducible refine Below.allocS ?_ _) | ((with_reducible refine Below.setCell ?_ ?_ _); rotate_left; focus (first | omega | (simp; done) | (simp; omega))) | (with_reducible refine Below.step ?_ (by assumption))))
    rintro e w2 ⟨rfl, c2⟩
    rw [T1.out]
    have hk := Held.below c2 (l := [(⟨w.heap.size, 0, none⟩, v0), (⟨w.heap.size, 1, none⟩, v1), (⟨w.heap.size, 2, none⟩, v2), (⟨w.heap.size, 3, none⟩, v3), (⟨w.heap.size + 1, 0, none⟩, u0), (⟨w.heap.size + 1, 1, none⟩, u1), (⟨w.heap.size + 1, 2, none⟩, u2), (⟨w.heap.size + 1, 3, none⟩, u3)]) (by simp [Held, go_sem, *])
    simp only [Held, and_true] at hk
    have hB2 : Below w.heap.size w w2 := by (repeat (first | assumption | (with_reducible exact Below.refl _ _) | (with_reducible refine Below.drewN ?_ _) | (with_reducible refine Below.drew ?_) | (with_reducible refine Below.allocS ?_ _) | ((with_reducible refine Below.setCell ?_ ?_ _); rotate_left; focus (first | omega | (simp; done) | (simp; omega))) | (with_reducible refine Below.step ?_ (by assumption))))
    clear c2
    go_wp2_with fail
    go_ret
    refine ⟨ret_bool (by rw [HQ.out, T0.out, T1.out]; simp), ?_⟩
    (repeat (first | assumption | (with_reducible exact Below.refl _ _) | (with_reducible refine Below.drewN ?_ _) | (with_reducible refine Below.drew ?_) | (with_reducible refine Below.allocS ?_ _) | ((with_reducible refine Below.setCell ?_ ?_ _); rotate_left; focus (first | omega | (simp; done) | (simp; omega))) | (with_reducible refine Below.step ?_ (by assumption))))
  obtain ⟨t, hu⟩ : ∃ t, rowsSame (numSame l2 k2) n2 m2 = t := ⟨_, rfl⟩
  have T2 := Lib.hid hu
  clear hu
  cases t
  case false =>
    go_enter Try.func36, Try.ntmps36
    go_wp2_with fail
    refine (equalVecs_any v0 u0 n0 m0 l0 k0 _ ?_ ?_).mono ?_
    · refine RowAt.below H0.out ?_
      (repeat (first | assumption | (with_reducible exact Below.refl _ _) | (with_reducible refine Below.drewN ?_ _) | (with_reducible refine Below.drew ?_) | (with_reducible refine Below.allocS ?_ _) | ((with_reducible refine Below.setCell ?_ ?_ _); rotate_left; focus (first | omega | (simp; done) | (simp; omega))) | (with_reducible refine Below.step ?_ (by assumption))))
    · refine RowAt.below G0.out ?_
      (repeat (first | assumption | (with_reducible exact Below.refl _ _) | (with_reducible refine Below.drewN ?_ _) | (with_reducible refine Below.drew ?_) | (with_reducible refine Below.allocS ?_ _) | ((with_reducible refine Below.setCell ?_ ?_ _); rotate_left; focus (first | omega | (simp; done) | (simp; omega))) | (with_reducible refine Below.step ?_ (by assumption))))
    rintro e w1 ⟨rfl, c1⟩
    rw [T0.out]
    have hk := Held.below c1 (l := [(⟨w.heap.size, 0, none⟩, v0), (⟨w.heap.size, 1, none⟩, v1), (⟨w.heap.size, 2, none⟩, v2), (⟨w.heap.size, 3, none⟩, v3), (⟨w.heap.size + 1, 0, none⟩, u0), (⟨w.heap.size + 1, 1, none⟩, u1), (⟨w.heap.size + 1, 2, none⟩, u2), (⟨w.heap.size + 1, 3, none⟩, u3)]) (by simp [Held, go_sem, *])
    simp only [Held, and_true] at hk
    have hB1 : Below w.heap.size w w1 := by (repeat (first | assumption | (with_reducible exact Below.refl _ _) | (with_reducible refine Below.drewN ?_ _) | (with_reducible refine Below.drew ?_) | (with_reducible refine Below.allocS ?_ _) | ((with_reducible refine Below.setCell ?_ ?_ _); rotate_left; focus (first | omega | (simp; done) | (simp; omega))) | (with_reducible refine Below.step ?_ (by assumption))))
    clear c1
    go_wp2_with fail
    refine (equalVecs_any v1 u1 n1 m1 l1 k1 _ ?_ ?_).mono ?_
    · refine RowAt.below H1.out ?_
      (repeat (first | assumption | (with_reducible exact Below.refl _ _) | (with_reducible refine Below.drewN ?_ _) | (with_reducible refine Below.drew ?_) | (with_reducible refine Below.allocS ?_ _) | ((with_reducible refine Below.setCell ?_ ?_ _); rotate_left; focus (first | omega | (simp; done) | (simp; omega))) | (with_reducible refine Below.step ?_ (by assumption))))
    · refine RowAt.below G1.out ?_
      (repeat (first | assumption | (with_reducible exact Below.refl _ _) | (with_reducible refine Below.drewN ?_ _) | (with_reducible refine Below.drew ?_) | (with_reducible refine Below.allocS ?_ _) | ((with_reducible refine Below.setCell ?_ ?_ _); rotate_left; focus (first | omega | (simp; done) | (simp; omega))) | (with_reducible refine Below.step ?_ (by assumption))))
    rintro e w2 ⟨rfl, c2⟩
    rw [T1.out]
    have hk := Held.below c2 (l := [(⟨w.heap.size, 0, none⟩, v0), (⟨w.heap.size, 1, none⟩, v1), (⟨w.heap.size, 2, none⟩, v2), (⟨w.heap.size, 3, none⟩, v3), (⟨w.heap.size + 1, 0, none⟩, u0), (⟨w.heap.size + 1, 1, none⟩, u1), (⟨w.heap.size + 1, 2, none⟩, u2), (⟨w.heap.size + 1, 3, none⟩, u3)]) (by simp [Held, go_sem, *])
    simp only [Held, and_true] at hk
    have hB2 : Below w.heap.size w w2 := by (repeat (first | assumption | (with_reducible exact Below.refl _ _) | (with_reducible refine Below.drewN ?_ _) | (with_reducible refine Below.drew ?_) | (with_reducible refine Below.allocS ?_ _) | ((with_reducible refine Below.setCell ?_ ?_ _); rotate_left; focus (first | omega | (simp; done) | (simp; omega))) | (with_reducible refine Below.step ?_ (by assumption))))
    clear c2
    go_wp2_with fail
    refine (sameList_row v2 u2 n2 m2 l2 k2 _ ?_ ?_).mono ?_
    · refine RowAt.below H2.out ?_
      (repeat (first | assumption | (with_reducible exact Below.refl _ _) | (with_reducible refine Below.drewN ?_ _) | (with_reducible refine Below.drew ?_) | (with_reducible refine Below.allocS ?_ _) | ((with_reducible refine Below.setCell ?_ ?_ _); rotate_left; focus (first | omega | (simp; done) | (simp; omega))) | (with_reducible refine Below.step ?_ (by assumption))))
    · refine RowAt.below G2.out ?_
      (repeat (first | assumption | (with_reducible exact Below.refl _ _) | (with_reducible refine Below.drewN ?_ _) | (with_reducible refine Below.drew ?_) | (with_reducible refine Below.allocS ?_ _) | ((with_reducible refine Below.setCell ?_ ?_ _); rotate_left; focus (first | omega | (simp; done) | (simp; omega))) | (with_reducible refine Below.step ?_ (by assumption))))
    rintro e w3 ⟨rfl, c3⟩
    rw [T2.out]
    have hk := Held.below c3 (l := [(⟨w.heap.size, 0, none⟩, v0), (⟨w.heap.size, 1, none⟩, v1), (⟨w.heap.size, 2, none⟩, v2), (⟨w.heap.size, 3, none⟩, v3), (⟨w.heap.size + 1, 0, none⟩, u0), (⟨w.heap.size + 1, 1, none⟩, u1), (⟨w.heap.size + 1, 2, none⟩, u2), (⟨w.heap.size + 1, 3, none⟩, u3)]) (by simp [Held, go_sem, *])
    simp only [Held, and_true] at hk
    have hB3 : Below w.heap.size w w3 := by (repeat (first | assumption | (with_reducible exact Below.refl _ _) | (with_reducible refine Below.drewN ?_ _) | (with_reducible refine Below.drew ?_) | (with_reducible refine Below.allocS ?_ _) | ((with_reducible refine Below.setCell ?_ ?_ _); rotate_left; focus (first | omega | (simp; done) | (simp; omega))) | (with_reducible refine Below.step ?_ (by assumption))))
    clear c3
    go_wp2_with fail
    go_ret
    refine ⟨ret_bool (by rw [HQ.out, T0.out, T1.out, T2.out]; simp), ?_⟩
    (repeat (first | assumption | (with_reducible exact Below.refl _ _) | (with_reducible refine Below.drewN ?_ _) | (with_reducible refine Below.drew ?_) | (with_reducible refine Below.allocS ?_ _) | ((with_reducible refine Below.setCell ?_ ?_ _); rotate_left; focus (first | omega | (simp; done) | (simp; omega))) | (with_reducible refine Below.step ?_ (by assumption))))
  obtain ⟨t, hu⟩ : ∃ t, rowsSame (rodSame l3 k3) n3 m3 = t := ⟨_, rfl⟩
  have T3 := Lib.hid hu
  clear hu
  cases t
  case false =>
    go_enter Try.func36, Try.ntmps36
    go_wp2_with fail
    refine (equalVecs_any v0 u0 n0 m0 l0 k0 _ ?_ ?_).mono ?_
    · refine RowAt.below H0.out ?_
      (repeat (first | assumption | (with_reducible exact Below.refl _ _) | (with_reducible refine Below.drewN ?_ _) | (with_reducible refine Below.drew ?_) | (with_reducible refine Below.allocS ?_ _) | ((with_reducible refine Below.setCell ?_ ?_ _); rotate_left; focus (first | omega | (simp; done) | (simp; omega))) | (with_reducible refine Below.step ?_ (by assumption))))
    · refine RowAt.below G0.out ?_
      (repeat (first | assumption | (with_reducible exact Below.refl _ _) | (with_reducible refine Below.drewN ?_ _) | (with_reducible refine Below.drew ?_) | (with_reducible refine Below.allocS ?_ _) | ((with_reducible refine Below.setCell ?_ ?_ _); rotate_left; focus (first | omega | (simp; done) | (simp; omega))) | (with_reducible refine Below.step ?_ (by assumption))))
    rintro e w1 ⟨rfl, c1⟩
    rw [T0.out]
    have hk := Held.below c1 (l := [(⟨w.heap.size, 0, none⟩, v0), (⟨w.heap.size, 1, none⟩, v1), (⟨w.heap.size, 2, none⟩, v2), (⟨w.heap.size, 3, none⟩, v3), (⟨w.heap.size + 1, 0, none⟩, u0), (⟨w.heap.size + 1, 1, none⟩, u1), (⟨w.heap.size + 1, 2, none⟩, u2), (⟨w.heap.size + 1, 3, none⟩, u3)]) (by simp [Held, go_sem, *])
    simp only [Held, and_true] at hk
    have hB1 : Below w.heap.size w w1 := by (repeat (first | assumption | (with_reducible exact Below.refl _ _) | (with_reducible refine Below.drewN ?_ _) | (with_reducible refine Below.drew ?_) | (with_reducible refine Below.allocS ?_ _) | ((with_reducible refine Below.setCell ?_ ?_ _); rotate_left; focus (first | omega | (simp; done) | (simp; omega))) | (with_reducible refine Below.step ?_ (by assumption))))
    clear c1
    go_wp2_with fail
    refine (equalVecs_any v1 u1 n1 m1 l1 k1 _ ?_ ?_).mono ?_
    · refine RowAt.below H1.out ?_
      (repeat (first | assumption | (with_reducible exact Below.refl _ _) | (with_reducible refine Below.drewN ?_ _) | (with_reducible refine Below.drew ?_) | (with_reducible refine Below.allocS ?_ _) | ((with_reducible refine Below.setCell ?_ ?_ _); rotate_left; focus (first | omega | (simp; done) | (simp; omega))) | (with_reducible refine Below.step ?_ (by assumption))))
    · refine RowAt.below G1.out ?_
      (repeat (first | assumption | (with_reducible exact Below.refl _ _) | (with_reducible refine Below.drewN ?_ _) | (with_reducible refine Below.drew ?_) | (with_reducible refine Below.allocS ?_ _) | ((with_reducible refine Below.setCell ?_ ?_ _); rotate_left; focus (first | omega | (simp; done) | (simp; omega))) | (with_reducible refine Below.step ?_ (by assumption))))
    rintro e w2 ⟨rfl, c2⟩
    rw [T1.out]
    have hk := Held.below c2 (l := [(⟨w.heap.size, 0, none⟩, v0), (⟨w.heap.size, 1, none⟩, v1), (⟨w.heap.size, 2, none⟩, v2), (⟨w.heap.size, 3, none⟩, v3), (⟨w.heap.size + 1, 0, none⟩, u0), (⟨w.heap.size + 1, 1, none⟩, u1), (⟨w.heap.size + 1, 2, none⟩, u2), (⟨w.heap.size + 1, 3, none⟩, u3)]) (by simp [Held, go_sem, *])
    simp only [Held, and_true] at hk
    have hB2 : Below w.heap.size w w2 := by (repeat (first | assumption | (with_reducible exact Below.refl _ _) | (with_reducible refine Below.drewN ?_ _) | (with_reducible refine Below.drew ?_) | (with_reducible refine Below.allocS ?_ _) | ((with_reducible refine Below.setCell ?_ ?_ _); rotate_left; focus (first | omega | (simp; done) | (simp; omega))) | (with_reducible refine Below.step ?_ (by assumption))))
    clear c2
    go_wp2_with fail
    refine (sameList_row v2 u2 n2 m2 l2 k2 _ ?_ ?_).mono ?_
    · refine RowAt.below H2.out ?_
      (repeat (first | assumption | (with_reducible exact Below.refl _ _) | (with_reducible refine Below.drewN ?_ _) | (with_reducible refine Below.drew ?_) | (with_reducible refine Below.allocS ?_ _) | ((with_reducible refine Below.setCell ?_ ?_ _); rotate_left; focus (first | omega | (simp; done) | (simp; omega))) | (with_reducible refine Below.step ?_ (by assumption))))
    · refine RowAt.below G2.out ?_
      (repeat (first | assumption | (with_reducible exact Below.refl _ _) | (with_reducible refine Below.drewN ?_ _) | (with_reducible refine Below.drew ?_) | (with_reducible refine Below.allocS ?_ _) | ((with_reducible refine Below.setCell ?_ ?_ _); rotate_left; focus (first | omega | (simp; done) | (simp; omega))) | (with_reducible refine Below.step ?_ (by assumption))))
    rintro e w3 ⟨rfl, c3⟩
    rw [T2.out]
    have hk := Held.below c3 (l := [(⟨w.heap.size, 0, none⟩, v0), (⟨w.heap.size, 1, none⟩, v1), (⟨w.heap.size, 2, none⟩, v2), (⟨w.heap.size, 3, none⟩, v3), (⟨w.heap.size + 1, 0, none⟩, u0), (⟨w.heap.size + 1, 1, none⟩, u1), (⟨w.heap.size + 1, 2, none⟩, u2), (⟨w.heap.size + 1, 3, none⟩, u3)]) (by simp [Held, go_sem, *])
    simp only [Held, and_true] at hk
    have hB3 : Below w.heap.size w w3 := by (repeat (first | assumption | (with_reducible exact Below.refl _ _) | (with_reducible refine Below.drewN ?_ _) | (with_reducible refine Below.drew ?_) | (with_reducible refine Below.allocS ?_ _) | ((with_reducible refine Below.setCell ?_ ?_ _); rotate_left; focus (first | omega | (simp; done) | (simp; omega))) | (with_reducible refine Below.step ?_ (by assumption))))
    clear c3
    go_wp2_with fail
    refine (equalRods_any v3 u3 n3 m3 l3 k3 _ ?_ ?_ HR.out GR.out).mono ?_
    · refine RowAt.below H3.out ?_
      (repeat (first | assumption | (with_reducible exact Below.refl _ _) | (with_reducible refine Below.drewN ?_ _) | (with_reducible refine Below.drew ?_) | (with_reducible refine Below.allocS ?_ _) | ((with_reducible refine Below.setCell ?_ ?_ _); rotate_left; focus (first | omega | (simp; done) | (simp; omega))) | (with_reducible refine Below.step ?_ (by assumption))))
    · refine RowAt.below G3.out ?_
      (repeat (first | assumption | (with_reducible exact Below.refl _ _) | (with_reducible refine Below.drewN ?_ _) | (with_reducible refine Below.drew ?_) | (with_reducible refine Below.allocS ?_ _) | ((with_reducible refine Below.setCell ?_ ?_ _); rotate_left; focus (first | omega | (simp; done) | (simp; omega))) | (with_reducible refine Below.step ?_ (by assumption))))
    rintro e w4 ⟨rfl, c4⟩
    rw [T3.out]
    have hk := Held.below c4 (l := [(⟨w.heap.size, 0, none⟩, v0), (⟨w.heap.size, 1, none⟩, v1), (⟨w.heap.size, 2, none⟩, v2), (⟨w.heap.size, 3, none⟩, v3), (⟨w.heap.size + 1, 0, none⟩, u0), (⟨w.heap.size + 1, 1, none⟩, u1), (⟨w.heap.size + 1, 2, none⟩, u2), (⟨w.heap.size + 1, 3, none⟩, u3)]) (by simp [Held, go_sem, *])
    simp only [Held, and_true] at hk
    have hB4 : Below w.heap.size w w4 := by (repeat (first | assumption | (with_reducible exact Below.refl _ _) | (with_reducible refine Below.drewN ?_ _) | (with_reducible refine Below.drew ?_) | (with_reducible refine Below.allocS ?_ _) | ((with_reducible refine Below.setCell ?_ ?_ _); rotate_left; focus (first | omega | (simp; done) | (simp; omega))) | (with_reducible refine Below.step ?_ (by assumption))))
    clear c4
    go_wp2_with fail
    go_ret
    refine ⟨ret_bool (by rw [HQ.out, T0.out, T1.out, T2.out, T3.out]; simp), ?_⟩
    (repeat (first | assumption | (with_reducible exact Below.refl _ _) | (with_reducible refine Below.drewN ?_ _) | (with_reducible refine Below.drew ?_) | (with_reducible refine Below.allocS ?_ _) | ((with_reducible refine Below.setCell ?_ ?_ _); rotate_left; focus (first | omega | (simp; done) | (simp; omega))) | (with_reducible refine Below.step ?_ (by assumption))))
  go_enter Try.func36, Try.ntmps36
  go_wp2_with fail
  refine (equalVecs_any v0 u0 n0 m0 l0 k0 _ ?_ ?_).mono ?_
  · refine RowAt.below H0.out ?_
    (repeat (first | assumption | (with_reducible exact Below.refl _ _) | (with_reducible refine Below.drewN ?_ _) | (with_reducible refine Below.drew ?_) | (with_reducible refine Below.allocS ?_ _) | ((with_reducible refine Below.setCell ?_ ?_ _); rotate_left; focus (first | omega | (simp; done) | (simp; omega))) | (with_reducible refine Below.step ?_ (by assumption))))
  · refine RowAt.below G0.out ?_
    (repeat (first | assumption | (with_reducible exact Below.refl _ _) | (with_reducible refine Below.drewN ?_ _) | (with_reducible refine Below.drew ?_) | (with_reducible refine Below.allocS ?_ _) | ((with_reducible refine Below.setCell ?_ ?_ _); rotate_left; focus (first | omega | (simp; done) | (simp; omega))) | (with_reducible refine Below.step ?_ (by assumption))))
  rintro e w1 ⟨rfl, c1⟩
  rw [T0.out]
  have hk := Held.below c1 (l := [(⟨w.heap.size, 0, none⟩, v0), (⟨w.heap.size, 1, none⟩, v1), (⟨w.heap.size, 2, none⟩, v2), (⟨w.heap.size, 3, none⟩, v3), (⟨w.heap.size + 1, 0, none⟩, u0), (⟨w.heap.size + 1, 1, none⟩, u1), (⟨w.heap.size + 1, 2, none⟩, u2), (⟨w.heap.size + 1, 3, none⟩, u3)]) (by simp [Held, go_sem, *])
  simp only [Held, and_true] at hk
  have hB1 : Below w.heap.size w w1 := by (repeat (first | assumption | (with_reducible exact Below.refl _ _) | (with_reducible refine Below.drewN ?_ _) | (with_reducible refine Below.drew ?_) | (with_reducible refine Below.allocS ?_ _) | ((with_reducible refine Below.setCell ?_ ?_ _); rotate_left; focus (first | omega | (simp; done) | (simp; omega))) | (with_reducible refine Below.step ?_ (by assumption))))
  clear c1
  go_wp2_with fail
  refine (equalVecs_any v1 u1 n1 m1 l1 k1 _ ?_ ?_).mono ?_
  · refine RowAt.below H1.out ?_
    (repeat (first | assumption | (with_reducible exact Below.refl _ _) | (with_reducible refine Below.drewN ?_ _) | (with_reducible refine Below.drew ?_) | (with_reducible refine Below.allocS ?_ _) | ((with_reducible refine Below.setCell ?_ ?_ _); rotate_left; focus (first | omega | (simp; done) | (simp; omega))) | (with_reducible refine Below.step ?_ (by assumption))))
  · refine RowAt.below G1.out ?_
    (repeat (first | assumption | (with_reducible exact Below.refl _ _) | (with_reducible refine Below.drewN ?_ _) | (with_reducible refine Below.drew ?_) | (with_reducible refine Below.allocS ?_ _) | ((with_reducible refine Below.setCell ?_ ?_ _); rotate_left; focus (first | omega | (simp; done) | (simp; omega))) | (with_reducible refine Below.step ?_ (by assumption))))
  rintro e w2 ⟨rfl, c2⟩
  rw [T1.out]
  have hk := Held.below c2 (l := [(⟨w.heap.size, 0, none⟩, v0), (⟨w.heap.size, 1, none⟩, v1), (⟨w.heap.size, 2, none⟩, v2), (⟨w.heap.size, 3, none⟩, v3), (⟨w.heap.size + 1, 0, none⟩, u0), (⟨w.heap.size + 1, 1, none⟩, u1), (⟨w.heap.size + 1, 2, none⟩, u2), (⟨w.heap.size + 1, 3, none⟩, u3)]) (by simp [Held, go_sem, *])
  simp only [Held, and_true] at hk
  have hB2 : Below w.heap.size w w2 := by (repeat (first | assumption | (with_reducible exact Below.refl _ _) | (with_reducible refine Below.drewN ?_ _) | (with_reducible refine Below.drew ?_) | (with_reducible refine Below.allocS ?_ _) | ((with_reducible refine Below.setCell ?_ ?_ _); rotate_left; focus (first | omega | (simp; done) | (simp; omega))) | (with_reducible refine Below.step ?_ (by assumption))))
  clear c2
  go_wp2_with fail
  refine (sameList_row v2 u2 n2 m2 l2 k2 _ ?_ ?_).mono ?_
  · refine RowAt.below H2.out ?_
    (repeat (first | assumption | (with_reducible exact Below.refl _ _) | (with_reducible refine Below.drewN ?_ _) | (with_reducible refine Below.drew ?_) | (with_reducible refine Below.allocS ?_ _) | ((with_reducible refine Below.setCell ?_ ?_ _); rotate_left; focus (first | omega | (simp; done) | (simp; omega))) | (with_reducible refine Below.step ?_ (by assumption))))
  · refine RowAt.below G2.out ?_
    (repeat (first | assumption | (with_reducible exact Below.refl _ _) | (with_reducible refine Below.drewN ?_ _) | (with_reducible refine Below.drew ?_) | (with_reducible refine Below.allocS ?_ _) | ((with_reducible refine Below.setCell ?_ ?_ _); rotate_left; focus (first | omega | (simp; done) | (simp; omega))) | (with_reducible refine Below.step ?_ (by assumption))))
  rintro e w3 ⟨rfl, c3⟩
  rw [T2.out]
  have hk := Held.below c3 (l := [(⟨w.heap.size, 0, none⟩, v0), (⟨w.heap.size, 1, none⟩, v1), (⟨w.heap.size, 2, none⟩, v2), (⟨w.heap.size, 3, none⟩, v3), (⟨w.heap.size + 1, 0, none⟩, u0), (⟨w.heap.size + 1, 1, none⟩, u1), (⟨w.heap.size + 1, 2, none⟩, u2), (⟨w.heap.size + 1, 3, none⟩, u3)]) (by simp [Held, go_sem, *])
  simp only [Held, and_true] at hk
  have hB3 : Below w.heap.size w w3 := by (repeat (first | assumption | (with_reducible exact Below.refl _ _) | (with_reducible refine Below.drewN ?_ _) | (with_reducible refine Below.drew ?_) | (with_reducible refine Below.allocS ?_ _) | ((with_reducible refine Below.setCell ?_ ?_ _); rotate_left; focus (first | omega | (simp; done) | (simp; omega))) | (with_reducible refine Below.step ?_ (by assumption))))
  clear c3
  go_wp2_with fail
  refine (equalRods_any v3 u3 n3 m3 l3 k3 _ ?_ ?_ HR.out GR.out).mono ?_
  · refine RowAt.below H3.out ?_
    (repeat (first | assumption | (with_reducible exact Below.refl _ _) | (with_reducible refine Below.drewN ?_ _) | (with_reducible refine Below.drew ?_) | (with_reducible refine Below.allocS ?_ _) | ((with_reducible refine Below.setCell ?_ ?_ _); rotate_left; focus (first | omega | (simp; done) | (simp; omega))) | (with_reducible refine Below.step ?_ (by assumption))))
  · refine RowAt.below G3.out ?_
    (repeat (first | assumption | (with_reducible exact Below.refl _ _) | (with_reducible refine Below.drewN ?_ _) | (with_reducible refine Below.drew ?_) | (with_reducible refine Below.allocS ?_ _) | ((with_reducible refine Below.setCell ?_ ?_ _); rotate_left; focus (first | omega | (simp; done) | (simp; omega))) | (with_reducible refine Below.step ?_ (by assumption))))
  rintro e w4 ⟨rfl, c4⟩
  rw [T3.out]
  have hk := Held.below c4 (l := [(⟨w.heap.size, 0, none⟩, v0), (⟨w.heap.size, 1, none⟩, v1), (⟨w.heap.size, 2, none⟩, v2), (⟨w.heap.size, 3, none⟩, v3), (⟨w.heap.size + 1, 0, none⟩, u0), (⟨w.heap.size + 1, 1, none⟩, u1), (⟨w.heap.size + 1, 2, none⟩, u2), (⟨w.heap.size + 1, 3, none⟩, u3)]) (by simp [Held, go_sem, *])
  simp only [Held, and_true] at hk
  have hB4 : Below w.heap.size w w4 := by (repeat (first | assumption | (with_reducible exact Below.refl _ _) | (with_reducible refine Below.drewN ?_ _) | (with_reducible refine Below.drew ?_) | (with_reducible refine Below.allocS ?_ _) | ((with_reducible refine Below.setCell ?_ ?_ _); rotate_left; focus (first | omega | (simp; done) | (simp; omega))) | (with_reducible refine Below.step ?_ (by assumption))))
  clear c4
  go_wp2_with fail
  go_ret
  refine ⟨ret_bool (by rw [HQ.out, T0.out, T1.out, T2.out, T3.out]; simp), ?_⟩
  (repeat (first | assumption | (with_reducible exact Below.refl _ _) | (with_reducible refine Below.drewN ?_ _) | (with_reducible refine Below.drew ?_) | (with_reducible refine Below.allocS ?_ _) | ((with_reducible refine Below.setCell ?_ ?_ _); rotate_left; focus (first | omega | (simp; done) | (simp; omega))) | (with_reducible refine Below.step ?_ (by assumption))))

set_option maxRecDepth 100000 in
set_option maxHeartbeats 4000000 in
theorem l03Vectors_any (v v' : Value) (n m : Nat) (l l' : List Nat) (w : World) (h : RowAt w v 3 n (fl l)) (h' : RowAt w v' 3 m (fl l')) (hb : ∀ x ∈ l, x < 4294967296) (hb' : ∀ x ∈ l', x < 4294967296) : Calls Try.prog 135 #[v, v'] w (BB (rowsSame (vecSame l l') n m) w) := by
  obtain ⟨h1, h2, ao, cap, rfl, h3⟩ := h
  obtain ⟨g1, g2, ao', cap', rfl, g3⟩ := h'
  have H3 := Lib.hid h3
  have G3 := Lib.hid g3
  rw [fl_length] at h1 g1
  have h2' : n ≤ 9223372036854775807 := h2
  have g2' : m ≤ 9223372036854775807 := g2
  clear h3 g3 h2 g2
  have HB := Lib.hid hb
  have HB' := Lib.hid hb'
  clear hb hb'
  by_cases he : n = m
  case neg =>
    have d1 : ((n : Int) != (m : Int)) = true := by simp; omega
    have HE := Lib.hid he
    clear he
    go_enter Try.func135, Try.ntmps135
    go_wp2
    go_ret
    exact ⟨ret_bool (by unfold rowsSame; simp [HE.out]), Below.refl _ _⟩
  subst he
  clear g2'
  go_enter Try.func135, Try.ntmps135
  go_wp2
  go_loopw [13] (fun i wr => ∃ k : Nat, k ≤ n ∧ i = .int .i64 (k : Int) ∧ (∀ j, j < k → vecSame l l' j = true) ∧ Below w.heap.size w wr) (fun i _ => n - (intOf i).toNat)
  case atStart => exact ⟨0, Nat.zero_le _, rfl, fun j hj => absurd hj (Nat.not_lt_zero _), by (repeat (first | assumption | (with_reducible exact Below.refl _ _) | (with_reducible refine Below.drewN ?_ _) | (with_reducible refine Below.drew ?_) | (with_reducible refine Below.allocS ?_ _) | ((with_reducible refine Below.setCell ?_ ?_ _); rotate_left; focus (first | omega | (simp; done) | (simp; omega))) | (with_reducible refine Below.step ?_ (by assumption))))⟩
  case round =>
    obtain ⟨k, hk, rfl, hall, hbel⟩ := hrel
    have HA := Lib.hid hall
    clear hall
    by_cases hlt : k < n
    · have hlt' : k < n := hlt
      obtain ⟨b, o, rfl, hbl, hcell⟩ := H3.out.resolve_left (by omega)
      obtain ⟨x0, hx0⟩ : ∃ x, Hid (l.getD (k * 3) 0 = x) := ⟨_, rfl⟩
      have fx0 : wr.cell? ⟨b, o + k * 3, none⟩ = some (.float .f32 x0) := by rw [hbel.cell (p := ⟨b, o + k * 3, none⟩) hbl]; exact (hcell (k * 3) (.float .f32 x0) (by rw [← hx0.out]; exact fl_get (by omega))).1
      obtain ⟨x1, hx1⟩ : ∃ x, Hid (l.getD (k * 3 + 1) 0 = x) := ⟨_, rfl⟩
      have fx1 : wr.cell? ⟨b, o + k * 3 + 1, none⟩ = some (.float .f32 x1) := by rw [hbel.cell (p := ⟨b, o + k * 3 + 1, none⟩) hbl]; exact (hcell (k * 3 + 1) (.float .f32 x1) (by rw [← hx1.out]; exact fl_get (by omega))).1
      obtain ⟨x2, hx2⟩ : ∃ x, Hid (l.getD (k * 3 + 2) 0 = x) := ⟨_, rfl⟩
      have fx2 : wr.cell? ⟨b, o + k * 3 + 2, none⟩ = some (.float .f32 x2) := by rw [hbel.cell (p := ⟨b, o + k * 3 + 2, none⟩) hbl]; exact (hcell (k * 3 + 2) (.float .f32 x2) (by rw [← hx2.out]; exact fl_get (by omega))).1
      have zx0 : wr.frozen? ⟨b, o + k * 3, none⟩ = false := by rw [hbel.frozen (p := ⟨b, o + k * 3, none⟩) hbl]; exact (hcell (k * 3) (.float .f32 x0) (by rw [← hx0.out]; exact fl_get (by omega))).2
      have zx1 : wr.frozen? ⟨b, o + k * 3 + 1, none⟩ = false := by rw [hbel.frozen (p := ⟨b, o + k * 3 + 1, none⟩) hbl]; exact (hcell (k * 3 + 1) (.float .f32 x1) (by rw [← hx1.out]; exact fl_get (by omega))).2
      have zx2 : wr.frozen? ⟨b, o + k * 3 + 2, none⟩ = false := by rw [hbel.frozen (p := ⟨b, o + k * 3 + 2, none⟩) hbl]; exact (hcell (k * 3 + 2) (.float .f32 x2) (by rw [← hx2.out]; exact fl_get (by omega))).2
      clear hcell
      have hblw : b < wr.heap.size := Nat.lt_of_lt_of_le hbl hbel.size
      obtain ⟨b', o', rfl, gbl, hcell⟩ := G3.out.resolve_left (by omega)
      obtain ⟨y0, hy0⟩ : ∃ x, Hid (l'.getD (k * 3) 0 = x) := ⟨_, rfl⟩
      have fy0 : wr.cell? ⟨b', o' + k * 3, none⟩ = some (.float .f32 y0) := by rw [hbel.cell (p := ⟨b', o' + k * 3, none⟩) gbl]; exact (hcell (k * 3) (.float .f32 y0) (by rw [← hy0.out]; exact fl_get (by omega))).1
      obtain ⟨y1, hy1⟩ : ∃ x, Hid (l'.getD (k * 3 + 1) 0 = x) := ⟨_, rfl⟩
      have fy1 : wr.cell? ⟨b', o' + k * 3 + 1, none⟩ = some (.float .f32 y1) := by rw [hbel.cell (p := ⟨b', o' + k * 3 + 1, none⟩) gbl]; exact (hcell (k * 3 + 1) (.float .f32 y1) (by rw [← hy1.out]; exact fl_get (by omega))).1
      obtain ⟨y2, hy2⟩ : ∃ x, Hid (l'.getD (k * 3 + 2) 0 = x) := ⟨_, rfl⟩
      have fy2 : wr.cell? ⟨b', o' + k * 3 + 2, none⟩ = some (.float .f32 y2) := by rw [hbel.cell (p := ⟨b', o' + k * 3 + 2, none⟩) gbl]; exact (hcell (k * 3 + 2) (.float .f32 y2) (by rw [← hy2.out]; exact fl_get (by omega))).1
      have zy0 : wr.frozen? ⟨b', o' + k * 3, none⟩ = false := by rw [hbel.frozen (p := ⟨b', o' + k * 3, none⟩) gbl]; exact (hcell (k * 3) (.float .f32 y0) (by rw [← hy0.out]; exact fl_get (by omega))).2
      have zy1 : wr.frozen? ⟨b', o' + k * 3 + 1, none⟩ = false := by rw [hbel.frozen (p := ⟨b', o' + k * 3 + 1, none⟩) gbl]; exact (hcell (k * 3 + 1) (.float .f32 y1) (by rw [← hy1.out]; exact fl_get (by omega))).2
      have zy2 : wr.frozen? ⟨b', o' + k * 3 + 2, none⟩ = false := by rw [hbel.frozen (p := ⟨b', o' + k * 3 + 2, none⟩) gbl]; exact (hcell (k * 3 + 2) (.float .f32 y2) (by rw [← hy2.out]; exact fl_get (by omega))).2
      clear hcell
      have gblw : b' < wr.heap.size := Nat.lt_of_lt_of_le gbl hbel.size
      have HOK : Hid (vecSame l l' k = (sameB x0 y0 && sameB x1 y1 && sameB x2 y2)) := by show _ = _; unfold vecSame; rw [hx0.out, hx1.out, hx2.out, hy0.out, hy1.out, hy2.out]
      have B0 : Hid (x0 < 4294967296) := by show _ < _; rw [← hx0.out]; exact bit_of HB.out _
      have B1 : Hid (x1 < 4294967296) := by show _ < _; rw [← hx1.out]; exact bit_of HB.out _
      have B2 : Hid (x2 < 4294967296) := by show _ < _; rw [← hx2.out]; exact bit_of HB.out _
      have D0 : Hid (y0 < 4294967296) := by show _ < _; rw [← hy0.out]; exact bit_of HB'.out _
      have D1 : Hid (y1 < 4294967296) := by show _ < _; rw [← hy1.out]; exact bit_of HB'.out _
      have D2 : Hid (y2 < 4294967296) := by show _ < _; rw [← hy2.out]; exact bit_of HB'.out _
      have HOK2 : Hid (vecSame l l' k = same3 x0 x1 x2 y0 y1 y2) := HOK.out
      cases hs : same3 x0 x1 x2 y0 y1 y2
      · go_wp2_with fail
        refine region_calmA wr (wr.heap.size) [(⟨b, o + k * 3, none⟩, .float .f32 x0), (⟨b, o + k * 3 + 1, none⟩, .float .f32 x1), (⟨b, o + k * 3 + 2, none⟩, .float .f32 x2), (⟨b', o' + k * 3, none⟩, .float .f32 y0), (⟨b', o' + k * 3 + 1, none⟩, .float .f32 y1), (⟨b', o' + k * 3 + 2, none⟩, .float .f32 y2)] (fun _ _ v => v = .bool (same3 x0 x1 x2 y0 y1 y2)) [] (by kernel_rfl) (by kernel_rfl) (by kernel_rfl) ⟨⟨by simp [Held, go_sem, *], by (repeat (first | assumption | (with_reducible exact Below.refl _ _) | (with_reducible refine Below.drewN ?_ _) | (with_reducible refine Below.drew ?_) | (with_reducible refine Below.allocS ?_ _) | ((with_reducible refine Below.setCell ?_ ?_ _); rotate_left; focus (first | omega | (simp; done) | (simp; omega))) | (with_reducible refine Below.step ?_ (by assumption))))⟩, by (first | (simp; done) | (simp; omega) | omega)⟩ ?_
        repeat (first | (first | (refine calmA_plain rfl rfl ?_ (fun K hK w1 hC => ?_); (focus (intro _ _; simp [RA]; done)); have hC' := hC.1.1; simp only [Held, and_true] at hC'; go_wp2_with (first | (refine wpList_fbin rfl rfl rfl rfl rfl (fun r n hr => ?_)) | (refine wpList_widen rfl rfl Try.underlying85 Try.underlying23 rfl (fun r n hr => ?_))); refine ⟨rfl, (by first | exact Below.refl _ _ | exact below_drewN _), hK _ ?_⟩; clear hC hC' hK K w1) | (refine calmA_check rfl rfl rfl ?_ ?_; (focus (intro _ _; simp [RA]; done)))) | (refine calmA_call (f := 165) (args := _) rfl ?_ (by (intro w1; simp [execOp, resolve, invoke, go_sem]; with_reducible rfl)) (fun w1 hC => ?_) ?_; (focus (intro _ _; simp [RA]; done)); (focus (refine (l01VSm_any x0 x1 x2 y0 y1 y2 _ B0.out B1.out B2.out D0.out D1.out D2.out).mono ?_; rintro e w2 ⟨rfl, hb2⟩; exact ⟨_, rfl, rfl, hb2⟩)); rintro v rfl))
        refine calmA_nil ?_
        intro w' hC hF
        have hC' := hC.1.1
        simp only [Held, and_true] at hC'
        go_wp2_with fail
        go_ret
        refine ⟨ret_bool (by unfold rowsSame; rw [upto_false hlt (by rw [HOK2.out]; exact hs), Bool.and_false]), ?_⟩
        (have hB := hC.1.2; (repeat (first | assumption | (with_reducible exact Below.refl _ _) | (with_reducible refine Below.drewN ?_ _) | (with_reducible refine Below.drew ?_) | (with_reducible refine Below.allocS ?_ _) | ((with_reducible refine Below.setCell ?_ ?_ _); rotate_left; focus (first | omega | (simp; done) | (simp; omega))) | (with_reducible refine Below.step ?_ (by assumption)))))
      · go_wp2_with fail
        refine region_calmA wr (wr.heap.size) [(⟨b, o + k * 3, none⟩, .float .f32 x0), (⟨b, o + k * 3 + 1, none⟩, .float .f32 x1), (⟨b, o + k * 3 + 2, none⟩, .float .f32 x2), (⟨b', o' + k * 3, none⟩, .float .f32 y0), (⟨b', o' + k * 3 + 1, none⟩, .float .f32 y1), (⟨b', o' + k * 3 + 2, none⟩, .float .f32 y2)] (fun _ _ v => v = .bool (same3 x0 x1 x2 y0 y1 y2)) [] (by kernel_rfl) (by kernel_rfl) (by kernel_rfl) ⟨⟨by simp [Held, go_sem, *], by (repeat (first | assumption | (with_reducible exact Below.refl _ _) | (with_reducible refine Below.drewN ?_ _) | (with_reducible refine Below.drew ?_) | (with_reducible refine Below.allocS ?_ _) | ((with_reducible refine Below.setCell ?_ ?_ _); rotate_left; focus (first | omega | (simp; done) | (simp; omega))) | (with_reducible refine Below.step ?_ (by assumption))))⟩, by (first | (simp; done) | (simp; omega) | omega)⟩ ?_
        repeat (first | (first | (refine calmA_plain rfl rfl ?_ (fun K hK w1 hC => ?_); (focus (intro _ _; simp [RA]; done)); have hC' := hC.1.1; simp only [Held, and_true] at hC'; go_wp2_with (first | (refine wpList_fbin rfl rfl rfl rfl rfl (fun r n hr => ?_)) | (refine wpList_widen rfl rfl Try.underlying85 Try.underlying23 rfl (fun r n hr => ?_))); refine ⟨rfl, (by first | exact Below.refl _ _ | exact below_drewN _), hK _ ?_⟩; clear hC hC' hK K w1) | (refine calmA_check rfl rfl rfl ?_ ?_; (focus (intro _ _; simp [RA]; done)))) | (refine calmA_call (f := 165) (args := _) rfl ?_ (by (intro w1; simp [execOp, resolve, invoke, go_sem]; with_reducible rfl)) (fun w1 hC => ?_) ?_; (focus (intro _ _; simp [RA]; done)); (focus (refine (l01VSm_any x0 x1 x2 y0 y1 y2 _ B0.out B1.out B2.out D0.out D1.out D2.out).mono ?_; rintro e w2 ⟨rfl, hb2⟩; exact ⟨_, rfl, rfl, hb2⟩)); rintro v rfl))
        refine calmA_nil ?_
        intro w' hC hF
        have hC' := hC.1.1
        simp only [Held, and_true] at hC'
        have hB3 : Below w.heap.size w w' := by (have hB := hC.1.2; (repeat (first | assumption | (with_reducible exact Below.refl _ _) | (with_reducible refine Below.drewN ?_ _) | (with_reducible refine Below.drew ?_) | (with_reducible refine Below.allocS ?_ _) | ((with_reducible refine Below.setCell ?_ ?_ _); rotate_left; focus (first | omega | (simp; done) | (simp; omega))) | (with_reducible refine Below.step ?_ (by assumption)))))
        go_wp2_with fail
        go_roundw
        case rel => exact ⟨k + 1, hlt, by go_num, all_step HA.out (by rw [HOK2.out]; exact hs), hB3⟩
        case measure => simp [intOf]; omega
    · obtain rfl : k = n := by omega
      go_wp2
      go_ret
      exact ⟨ret_bool (by unfold rowsSame; rw [upto_true HA.out]; simp), hbel⟩

end Go.Proofs.Ytbmabpnolheghaa
