/-
  The law RunFires.
-/
import Derived.Test.YtbmabpnolheghaaPk
set_option linter.unusedVariables false
set_option linter.unusedSimpArgs false
namespace Go.Proofs.Ytbmabpnolheghaa
open Go.RowKit

theorem specRunFires_lit {n m : Nat} {l lk : List Nat} {J : Nat} {i : Int} {B : Bool} {Z : Nat} (hB : firesB n l m lk J i = B) (hZ : cT B (sumQ n l J i.toNat) = Z) (v v' : Value) (w : World) (h : RowAt w v 2 n (fl l)) (h' : RowAt w v' 1 m (fl lk)) : Calls Try.prog 49 #[.agg #[v, v'], .float .f32 J, .int .i64 i] w (GiveF (cN B n) (cL B (runF n l J i.toNat)) (cN B m) (cL B lk) (cN B i.toNat) (cZ B (runO n l J i.toNat)) Z B w) := by
  subst hB
  subst hZ
  exact specRunFires_any v v' n m l lk J i w h h'

theorem implRunFires_lit {n m : Nat} {l lk : List Nat} {J : Nat} {i : Int} {B : Bool} {Z : Nat} (hB : firesB n l m lk J i = B) (hZ : cT B (sumQ n l J i.toNat) = Z) (v v' : Value) (w : World) (h : RowAt w v 2 n (fl l)) (h' : RowAt w v' 1 m (fl lk)) : Calls Try.prog 50 #[.agg #[v, v'], .float .f32 J, .int .i64 i] w (GiveF (cN B n) (cL B (runF n l J i.toNat)) (cN B m) (cL B lk) (cN B i.toNat) (cZ B (runO n l J i.toNat)) Z B w) := by
  subst hB
  subst hZ
  exact implRunFires_any v v' n m l lk J i w h h'

set_option maxRecDepth 100000 in
set_option maxHeartbeats 8000000 in
theorem lawRunFires_walk (v0 : Value) (n0 : Nat) (l0 : List Nat) (v1 : Value) (n1 : Nat) (l1 : List Nat) (y2 : Nat) (i3 : Int) (w : World) (h0 : RowAt w v0 2 n0 (fl l0)) (h1 : RowAt w v1 1 n1 (fl l1)) (hb0 : ∀ x ∈ l0, x < 4294967296) (hb1 : ∀ x ∈ l1, x < 4294967296) (hb_y2 : y2 < 4294967296) (hb_i3 : (Lit.int .i64 i3).wf = true) : Calls Try.prog 12 #[.agg #[v0, v1], .float .f32 y2, .int .i64 i3] w fun e w' => e = .returned (.bool true) ∧ Below w.heap.size w w' := by
  have H0 := Lib.hid h0
  have H1 := Lib.hid h1
  have HB0 := Lib.hid hb0
  clear hb0
  have HB1 := Lib.hid hb1
  clear hb1
  clear h0 h1
  go_enter Try.func12, Try.ntmps12
  obtain ⟨B, hB⟩ : ∃ B, firesB n0 l0 n1 l1 y2 i3 = B := ⟨_, rfl⟩
  obtain ⟨Z, hZ⟩ : ∃ Z, cT B (sumQ n0 l0 y2 i3.toNat) = Z := ⟨_, rfl⟩
  have hN9 : cN B n0 ≤ 12 ∧ cN B n1 ≤ 144 ∧ cN B i3.toNat ≤ 64 := by
    cases B
    · exact ⟨Nat.zero_le _, Nat.zero_le _, Nat.zero_le _⟩
    · unfold firesB at hB
      simp only [Bool.and_eq_true] at hB
      obtain ⟨c1, c2, c3, c4, c5⟩ := clocks_parts hB.1.1.1
      refine ⟨c2, (by have := sq_small c2; show n1 ≤ 144; omega), ?_⟩
      have h9 := hB.1.2
      unfold inZ at h9
      simp at h9
      show i3.toNat ≤ 64
      omega
  have HBB := Lib.hid hB
  have HZZ := Lib.hid hZ
  clear hB hZ
  go_wp2_with fail
  refine (szClocks_any v0 n0 (fl l0) v1 n1 (fl l1) (1048576) _ ?_ ?_ (by omega)).mono ?_
  · refine RowAt.below H0.out ?_
    (repeat (first | assumption | (with_reducible exact Below.refl _ _) | (with_reducible refine Below.drewN ?_ _) | (with_reducible refine Below.drew ?_) | (with_reducible refine Below.allocS ?_ _) | ((with_reducible refine Below.setCell ?_ ?_ _); rotate_left; focus (first | omega | (simp; done) | (simp; omega))) | (with_reducible refine Below.step ?_ (by assumption))))
  · refine RowAt.below H1.out ?_
    (repeat (first | assumption | (with_reducible exact Below.refl _ _) | (with_reducible refine Below.drewN ?_ _) | (with_reducible refine Below.drew ?_) | (with_reducible refine Below.allocS ?_ _) | ((with_reducible refine Below.setCell ?_ ?_ _); rotate_left; focus (first | omega | (simp; done) | (simp; omega))) | (with_reducible refine Below.step ?_ (by assumption))))
  rintro e ws0 ⟨rfl, hcs0⟩
  have hk := Held.below hcs0 (l := [(⟨w.heap.size, 0, none⟩, v0), (⟨w.heap.size, 1, none⟩, v1)]) (by simp [Held, go_sem, *])
  simp only [Held, and_true] at hk
  have hBs0 : Below w.heap.size w ws0 := by (repeat (first | assumption | (with_reducible exact Below.refl _ _) | (with_reducible refine Below.drewN ?_ _) | (with_reducible refine Below.drew ?_) | (with_reducible refine Below.allocS ?_ _) | ((with_reducible refine Below.setCell ?_ ?_ _); rotate_left; focus (first | omega | (simp; done) | (simp; omega))) | (with_reducible refine Below.step ?_ (by assumption))))
  clear hcs0
  by_cases hs0 : n0 + n1 ≤ 1048576
  case neg =>
    rw [if_neg hs0]
    go_wp2_with fail
    go_ret
    refine ⟨rfl, ?_⟩
    (repeat (first | assumption | (with_reducible exact Below.refl _ _) | (with_reducible refine Below.drewN ?_ _) | (with_reducible refine Below.drew ?_) | (with_reducible refine Below.allocS ?_ _) | ((with_reducible refine Below.setCell ?_ ?_ _); rotate_left; focus (first | omega | (simp; done) | (simp; omega))) | (with_reducible refine Below.step ?_ (by assumption))))
  rw [if_pos hs0]
  go_wp2_with fail
  refine (toClocks_any v0 n0 v1 n1 l0 l1 _ ?_ ?_ (by omega) (by omega)).mono ?_
  · refine RowAt.below H0.out ?_
    (repeat (first | assumption | (with_reducible exact Below.refl _ _) | (with_reducible refine Below.drewN ?_ _) | (with_reducible refine Below.drew ?_) | (with_reducible refine Below.allocS ?_ _) | ((with_reducible refine Below.setCell ?_ ?_ _); rotate_left; focus (first | omega | (simp; done) | (simp; omega))) | (with_reducible refine Below.step ?_ (by assumption))))
  · refine RowAt.below H1.out ?_
    (repeat (first | assumption | (with_reducible exact Below.refl _ _) | (with_reducible refine Below.drewN ?_ _) | (with_reducible refine Below.drew ?_) | (with_reducible refine Below.allocS ?_ _) | ((with_reducible refine Below.setCell ?_ ?_ _); rotate_left; focus (first | omega | (simp; done) | (simp; omega))) | (with_reducible refine Below.step ?_ (by assumption))))
  rintro e w1 ⟨ga0, ga1, rfl, oa0, oa1, oane0, c1⟩
  have hkN := Held.below c1 (l := [(⟨w.heap.size, 0, none⟩, v0), (⟨w.heap.size, 1, none⟩, v1)]) (by simp [Held, go_sem, *])
  (try clear hk)
  have hk := hkN
  clear hkN
  simp only [Held, and_true] at hk
  have hBw1 : Below w.heap.size w w1 := by (repeat (first | assumption | (with_reducible exact Below.refl _ _) | (with_reducible refine Below.drewN ?_ _) | (with_reducible refine Below.drew ?_) | (with_reducible refine Below.allocS ?_ _) | ((with_reducible refine Below.setCell ?_ ?_ _); rotate_left; focus (first | omega | (simp; done) | (simp; omega))) | (with_reducible refine Below.step ?_ (by assumption))))
  have hzw1_0 : w.heap.size < w1.heap.size := by omega
  go_wp2_with fail
  refine (specRunFires_lit HBB.out HZZ.out _ _ _ (ownsRow_rowAt oa0) (ownsRow_rowAt oa1)).mono ?_
  rintro e w2 ⟨u00, u01, u1, u2, rfl, ow_u00, ow_u01, ow_u1, ne_u00_u01, ne_u00_u1, ne_u01_u1, qu2, c2⟩
  have Hqu2 := Lib.hid qu2
  clear qu2
  obtain ⟨a_u00, k_u00, d_u00, rfl⟩ := ownsRow_shape ow_u00
  obtain ⟨a_u01, k_u01, d_u01, rfl⟩ := ownsRow_shape ow_u01
  have hkN := Held.below c2 (l := [(⟨w.heap.size, 0, none⟩, v0), (⟨w.heap.size, 1, none⟩, v1)]) (by simp [Held, go_sem, *])
  (try clear hk)
  have hk := hkN
  clear hkN
  simp only [Held, and_true] at hk
  have hBw2 : Below w.heap.size w w2 := by (repeat (first | assumption | (with_reducible exact Below.refl _ _) | (with_reducible refine Below.drewN ?_ _) | (with_reducible refine Below.drew ?_) | (with_reducible refine Below.allocS ?_ _) | ((with_reducible refine Below.setCell ?_ ?_ _); rotate_left; focus (first | omega | (simp; done) | (simp; omega))) | (with_reducible refine Below.step ?_ (by assumption))))
  have hzw2_0 : w.heap.size < w2.heap.size := by omega
  have Lu00 := Lib.hid (ownsRow_lt ow_u00)
  (try simp only [World.size_alloc, World.size_setCell, World.heap_drewN] at Lu00)
  have Ou00 := Lib.hid ow_u00
  have Ru00 := Lib.hid (ownsRow_rowAt ow_u00)
  clear ow_u00
  have Lu01 := Lib.hid (ownsRow_lt ow_u01)
  (try simp only [World.size_alloc, World.size_setCell, World.heap_drewN] at Lu01)
  have Ou01 := Lib.hid ow_u01
  have Ru01 := Lib.hid (ownsRow_rowAt ow_u01)
  clear ow_u01
  have Lu1 := Lib.hid (ownsRow_lt ow_u1)
  (try simp only [World.size_alloc, World.size_setCell, World.heap_drewN] at Lu1)
  have Ou1 := Lib.hid ow_u1
  have Ru1 := Lib.hid (ownsRow_rowAt ow_u1)
  clear ow_u1
  have : ¬ w.heap.size = w2.heap.size := by omega
  clear oa0 oa1
  go_wp2_with fail
  refine (toClocks_any v0 n0 v1 n1 l0 l1 _ ?_ ?_ (by omega) (by omega)).mono ?_
  · refine RowAt.below H0.out ?_
    (repeat (first | assumption | (with_reducible exact Below.refl _ _) | (with_reducible refine Below.drewN ?_ _) | (with_reducible refine Below.drew ?_) | (with_reducible refine Below.allocS ?_ _) | ((with_reducible refine Below.setCell ?_ ?_ _); rotate_left; focus (first | omega | (simp; done) | (simp; omega))) | (with_reducible refine Below.step ?_ (by assumption))))
  · refine RowAt.below H1.out ?_
    (repeat (first | assumption | (with_reducible exact Below.refl _ _) | (with_reducible refine Below.drewN ?_ _) | (with_reducible refine Below.drew ?_) | (with_reducible refine Below.allocS ?_ _) | ((with_reducible refine Below.setCell ?_ ?_ _); rotate_left; focus (first | omega | (simp; done) | (simp; omega))) | (with_reducible refine Below.step ?_ (by assumption))))
  rintro e w3 ⟨g0, g1, rfl, o0, o1, one0, c3⟩
  have hkN := Held.below c3 (l := [(⟨w.heap.size, 0, none⟩, v0), (⟨w.heap.size, 1, none⟩, v1), (⟨w2.heap.size, 0, none⟩, .slice a_u00 k_u00 d_u00), (⟨w2.heap.size, 1, none⟩, .slice a_u01 k_u01 d_u01)]) (by simp [Held, go_sem, *])
  (try clear hk)
  have hk := hkN
  clear hkN
  simp only [Held, and_true] at hk
  have hBw3 : Below w.heap.size w w3 := by (repeat (first | assumption | (with_reducible exact Below.refl _ _) | (with_reducible refine Below.drewN ?_ _) | (with_reducible refine Below.drew ?_) | (with_reducible refine Below.allocS ?_ _) | ((with_reducible refine Below.setCell ?_ ?_ _); rotate_left; focus (first | omega | (simp; done) | (simp; omega))) | (with_reducible refine Below.step ?_ (by assumption))))
  have hzw3_0 : w.heap.size < w3.heap.size := by omega
  have hzw3_1 : w2.heap.size < w3.heap.size := by omega
  have B3 : Below w2.heap.size w2 w3 := by
    refine Below.step ?_ c3
    (repeat (first | (with_reducible exact Below.refl _ _) | (with_reducible refine Below.drewN ?_ _) | (with_reducible refine Below.drew ?_) | (with_reducible refine Below.allocS ?_ _) | ((with_reducible refine Below.setCell ?_ ?_ _); rotate_left; focus (first | omega | (simp; done) | (simp; omega)))))
  replace Ru00 := Lib.hid (Ru00.out.below B3)
  replace Ru01 := Lib.hid (Ru01.out.below B3)
  replace Ru1 := Lib.hid (Ru1.out.below B3)
  have : ¬ w.heap.size = w3.heap.size := by omega
  have : ¬ w2.heap.size = w3.heap.size := by omega
  have X0 := ownsRow_lt o0 _ rfl
  have X1 := ownsRow_lt o1 _ rfl
  simp only [World.size_alloc, World.size_setCell] at X0 X1
  have P0 := Lib.hid o0
  have P1 := Lib.hid o1
  go_wp2_with fail
  refine (implRunFires_lit HBB.out HZZ.out _ _ _ ((ownsRow_rowAt o0).below (by (repeat (first | (with_reducible exact Below.refl _ _) | (with_reducible refine Below.drewN ?_ _) | (with_reducible refine Below.drew ?_) | (with_reducible refine Below.allocS ?_ _) | ((with_reducible refine Below.setCell ?_ ?_ _); rotate_left; focus (first | omega | (simp; done) | (simp; omega))))))) ((ownsRow_rowAt o1).below (by (repeat (first | (with_reducible exact Below.refl _ _) | (with_reducible refine Below.drewN ?_ _) | (with_reducible refine Below.drew ?_) | (with_reducible refine Below.allocS ?_ _) | ((with_reducible refine Below.setCell ?_ ?_ _); rotate_left; focus (first | omega | (simp; done) | (simp; omega)))))))).mono ?_
  rintro e w4 ⟨vv00, vv01, vv1, vv2, rfl, ow_vv00, ow_vv01, ow_vv1, ne_vv00_vv01, ne_vv00_vv1, ne_vv01_vv1, qvv2, c4⟩
  have Hqvv2 := Lib.hid qvv2
  clear qvv2
  obtain ⟨a_vv00, k_vv00, d_vv00, rfl⟩ := ownsRow_shape ow_vv00
  obtain ⟨a_vv01, k_vv01, d_vv01, rfl⟩ := ownsRow_shape ow_vv01
  have hkN := Held.below c4 (l := [(⟨w.heap.size, 0, none⟩, v0), (⟨w.heap.size, 1, none⟩, v1), (⟨w2.heap.size, 0, none⟩, .slice a_u00 k_u00 d_u00), (⟨w2.heap.size, 1, none⟩, .slice a_u01 k_u01 d_u01), (⟨w3.heap.size, 0, none⟩, .slice (some ⟨g0, 0, none⟩) n0 n0), (⟨w3.heap.size, 1, none⟩, .slice (some ⟨g1, 0, none⟩) n1 n1)]) (by simp [Held, go_sem, *])
  (try clear hk)
  have hk := hkN
  clear hkN
  simp only [Held, and_true] at hk
  have hBw4 : Below w.heap.size w w4 := by (repeat (first | assumption | (with_reducible exact Below.refl _ _) | (with_reducible refine Below.drewN ?_ _) | (with_reducible refine Below.drew ?_) | (with_reducible refine Below.allocS ?_ _) | ((with_reducible refine Below.setCell ?_ ?_ _); rotate_left; focus (first | omega | (simp; done) | (simp; omega))) | (with_reducible refine Below.step ?_ (by assumption))))
  have hzw4_0 : w.heap.size < w4.heap.size := by omega
  have hzw4_1 : w2.heap.size < w4.heap.size := by omega
  have hzw4_2 : w3.heap.size < w4.heap.size := by omega
  have Lvv00 := Lib.hid (ownsRow_lt ow_vv00)
  (try simp only [World.size_alloc, World.size_setCell, World.heap_drewN] at Lvv00)
  have Ovv00 := Lib.hid ow_vv00
  have Rvv00 := Lib.hid (ownsRow_rowAt ow_vv00)
  clear ow_vv00
  have Lvv01 := Lib.hid (ownsRow_lt ow_vv01)
  (try simp only [World.size_alloc, World.size_setCell, World.heap_drewN] at Lvv01)
  have Ovv01 := Lib.hid ow_vv01
  have Rvv01 := Lib.hid (ownsRow_rowAt ow_vv01)
  clear ow_vv01
  have Lvv1 := Lib.hid (ownsRow_lt ow_vv1)
  (try simp only [World.size_alloc, World.size_setCell, World.heap_drewN] at Lvv1)
  have Ovv1 := Lib.hid ow_vv1
  have Rvv1 := Lib.hid (ownsRow_rowAt ow_vv1)
  clear ow_vv1
  have : ¬ w.heap.size = w4.heap.size := by omega
  have : ¬ w2.heap.size = w4.heap.size := by omega
  have : ¬ w3.heap.size = w4.heap.size := by omega
  clear o0 o1
  have B4 : Below w3.heap.size w3 w4 := by
    refine Below.step ?_ c4
    (repeat (first | (with_reducible exact Below.refl _ _) | (with_reducible refine Below.drewN ?_ _) | (with_reducible refine Below.drew ?_) | (with_reducible refine Below.allocS ?_ _) | ((with_reducible refine Below.setCell ?_ ?_ _); rotate_left; focus (first | omega | (simp; done) | (simp; omega)))))
  replace Ru00 := Lib.hid (Ru00.out.below B4)
  replace Ru01 := Lib.hid (Ru01.out.below B4)
  replace Ru1 := Lib.hid (Ru1.out.below B4)
  replace P0 := Lib.hid (ownsRow_below P0.out B4)
  replace P1 := Lib.hid (ownsRow_below P1.out B4)
  go_wp2_with fail
  refine (eqClocks_any _ _ ((cN B n0)) _ _ ((cN B n1)) ((cL B (runF n0 l0 y2 i3.toNat))) ((cL B (runF n0 l0 y2 i3.toNat))) ((cL B l1)) ((cL B l1)) _ ?_ ?_ rfl ?_ ?_ rfl).mono ?_
  · refine RowAt.below Rvv00.out ?_
    (repeat (first | (with_reducible exact Below.refl _ _) | (with_reducible refine Below.drewN ?_ _) | (with_reducible refine Below.drew ?_) | (with_reducible refine Below.allocS ?_ _) | ((with_reducible refine Below.setCell ?_ ?_ _); rotate_left; focus (first | omega | (simp; done) | (simp; omega)))))
  · refine RowAt.below Ru00.out ?_
    (repeat (first | (with_reducible exact Below.refl _ _) | (with_reducible refine Below.drewN ?_ _) | (with_reducible refine Below.drew ?_) | (with_reducible refine Below.allocS ?_ _) | ((with_reducible refine Below.setCell ?_ ?_ _); rotate_left; focus (first | omega | (simp; done) | (simp; omega)))))
  · refine RowAt.below Rvv01.out ?_
    (repeat (first | (with_reducible exact Below.refl _ _) | (with_reducible refine Below.drewN ?_ _) | (with_reducible refine Below.drew ?_) | (with_reducible refine Below.allocS ?_ _) | ((with_reducible refine Below.setCell ?_ ?_ _); rotate_left; focus (first | omega | (simp; done) | (simp; omega)))))
  · refine RowAt.below Ru01.out ?_
    (repeat (first | (with_reducible exact Below.refl _ _) | (with_reducible refine Below.drewN ?_ _) | (with_reducible refine Below.drew ?_) | (with_reducible refine Below.allocS ?_ _) | ((with_reducible refine Below.setCell ?_ ?_ _); rotate_left; focus (first | omega | (simp; done) | (simp; omega)))))
  rintro e w5x0 ⟨rfl, c5x0⟩
  have hkN := Held.below c5x0 (l := [(⟨w.heap.size, 0, none⟩, v0), (⟨w.heap.size, 1, none⟩, v1), (⟨w2.heap.size, 0, none⟩, .slice a_u00 k_u00 d_u00), (⟨w2.heap.size, 1, none⟩, .slice a_u01 k_u01 d_u01), (⟨w3.heap.size, 0, none⟩, .slice (some ⟨g0, 0, none⟩) n0 n0), (⟨w3.heap.size, 1, none⟩, .slice (some ⟨g1, 0, none⟩) n1 n1), (⟨w4.heap.size, 0, none⟩, .slice a_vv00 k_vv00 d_vv00), (⟨w4.heap.size, 1, none⟩, .slice a_vv01 k_vv01 d_vv01)]) (by simp [Held, go_sem, *])
  (try clear hk)
  have hk := hkN
  clear hkN
  simp only [Held, and_true] at hk
  have hBw5x0 : Below w.heap.size w w5x0 := by (repeat (first | assumption | (with_reducible exact Below.refl _ _) | (with_reducible refine Below.drewN ?_ _) | (with_reducible refine Below.drew ?_) | (with_reducible refine Below.allocS ?_ _) | ((with_reducible refine Below.setCell ?_ ?_ _); rotate_left; focus (first | omega | (simp; done) | (simp; omega))) | (with_reducible refine Below.step ?_ (by assumption))))
  have hzw5x0_0 : w.heap.size < w5x0.heap.size := by omega
  have hzw5x0_1 : w2.heap.size < w5x0.heap.size := by omega
  have hzw5x0_2 : w3.heap.size < w5x0.heap.size := by omega
  have hzw5x0_3 : w4.heap.size < w5x0.heap.size := by omega
  go_wp2_with fail
  refine (eqInt64S_any _ _ ((cN B i3.toNat)) ((cZ B (runO n0 l0 y2 i3.toNat))) _ ?_ ?_).mono ?_
  · refine RowAt.below Rvv1.out ?_
    (repeat (first | (with_reducible exact Below.refl _ _) | (with_reducible refine Below.drewN ?_ _) | (with_reducible refine Below.drew ?_) | (with_reducible refine Below.allocS ?_ _) | ((with_reducible refine Below.setCell ?_ ?_ _); rotate_left; focus (first | omega | (simp; done) | (simp; omega)))))
    refine Below.step ?_ c5x0
    (repeat (first | (with_reducible exact Below.refl _ _) | (with_reducible refine Below.drewN ?_ _) | (with_reducible refine Below.drew ?_) | (with_reducible refine Below.allocS ?_ _) | ((with_reducible refine Below.setCell ?_ ?_ _); rotate_left; focus (first | omega | (simp; done) | (simp; omega)))))
  · refine RowAt.below Ru1.out ?_
    (repeat (first | (with_reducible exact Below.refl _ _) | (with_reducible refine Below.drewN ?_ _) | (with_reducible refine Below.drew ?_) | (with_reducible refine Below.allocS ?_ _) | ((with_reducible refine Below.setCell ?_ ?_ _); rotate_left; focus (first | omega | (simp; done) | (simp; omega)))))
    refine Below.step ?_ c5x0
    (repeat (first | (with_reducible exact Below.refl _ _) | (with_reducible refine Below.drewN ?_ _) | (with_reducible refine Below.drew ?_) | (with_reducible refine Below.allocS ?_ _) | ((with_reducible refine Below.setCell ?_ ?_ _); rotate_left; focus (first | omega | (simp; done) | (simp; omega)))))
  rintro e w5 ⟨rfl, c5x1⟩
  have hkN := Held.below c5x1 (l := [(⟨w.heap.size, 0, none⟩, v0), (⟨w.heap.size, 1, none⟩, v1), (⟨w2.heap.size, 0, none⟩, .slice a_u00 k_u00 d_u00), (⟨w2.heap.size, 1, none⟩, .slice a_u01 k_u01 d_u01), (⟨w3.heap.size, 0, none⟩, .slice (some ⟨g0, 0, none⟩) n0 n0), (⟨w3.heap.size, 1, none⟩, .slice (some ⟨g1, 0, none⟩) n1 n1), (⟨w4.heap.size, 0, none⟩, .slice a_vv00 k_vv00 d_vv00), (⟨w4.heap.size, 1, none⟩, .slice a_vv01 k_vv01 d_vv01)]) (by simp [Held, go_sem, *])
  (try clear hk)
  have hk := hkN
  clear hkN
  simp only [Held, and_true] at hk
  have hBw5 : Below w.heap.size w w5 := by (repeat (first | assumption | (with_reducible exact Below.refl _ _) | (with_reducible refine Below.drewN ?_ _) | (with_reducible refine Below.drew ?_) | (with_reducible refine Below.allocS ?_ _) | ((with_reducible refine Below.setCell ?_ ?_ _); rotate_left; focus (first | omega | (simp; done) | (simp; omega))) | (with_reducible refine Below.step ?_ (by assumption))))
  have hzw5_0 : w.heap.size < w5.heap.size := by omega
  have hzw5_1 : w2.heap.size < w5.heap.size := by omega
  have hzw5_2 : w3.heap.size < w5.heap.size := by omega
  have hzw5_3 : w4.heap.size < w5.heap.size := by omega
  have B5 : Below w4.heap.size w4 w5 := by
    refine Below.step ?_ c5x1
    (repeat (first | (with_reducible exact Below.refl _ _) | (with_reducible refine Below.drewN ?_ _) | (with_reducible refine Below.drew ?_) | (with_reducible refine Below.allocS ?_ _) | ((with_reducible refine Below.setCell ?_ ?_ _); rotate_left; focus (first | omega | (simp; done) | (simp; omega)))))
    refine Below.step ?_ c5x0
    (repeat (first | (with_reducible exact Below.refl _ _) | (with_reducible refine Below.drewN ?_ _) | (with_reducible refine Below.drew ?_) | (with_reducible refine Below.allocS ?_ _) | ((with_reducible refine Below.setCell ?_ ?_ _); rotate_left; focus (first | omega | (simp; done) | (simp; omega)))))
  replace Ru00 := Lib.hid (Ru00.out.below B5)
  replace Ru01 := Lib.hid (Ru01.out.below B5)
  replace Ru1 := Lib.hid (Ru1.out.below B5)
  replace Rvv00 := Lib.hid (Rvv00.out.below B5)
  replace Rvv01 := Lib.hid (Rvv01.out.below B5)
  replace Rvv1 := Lib.hid (Rvv1.out.below B5)
  replace Ovv00 := Lib.hid (ownsRow_below Ovv00.out B5)
  replace Ovv01 := Lib.hid (ownsRow_below Ovv01.out B5)
  replace Ovv1 := Lib.hid (ownsRow_below Ovv1.out B5)
  replace P0 := Lib.hid (ownsRow_below P0.out B5)
  replace P1 := Lib.hid (ownsRow_below P1.out B5)
  go_wp2_with (first | (refine wpList_widen rfl rfl Try.underlying85 Try.underlying23 rfl (fun r n9 hr => ?_)) | (refine wpList_widen_g rfl rfl Try.underlying85 Try.underlying23 rfl (fun r n9 hr => ?_)) | (go_at_call 52; refine (sameFloat_any _ _ _ (widen_same (Hid.out (by assumption)) (Hid.out (by assumption)) (Hqvv2.out.trans Hqu2.out.symm))).mono ?_; rintro e w' ⟨n9, rfl, rfl⟩))
  have R0 := Lib.hid (ownsRow_rowAt P0.out)
  have R1 := Lib.hid (ownsRow_rowAt P1.out)
  have hst : stableV [(2, 75, (fun v w => ∃ s0 s1, v = .agg #[s0, s1] ∧ RowAt w s0 2 n0 (fl l0) ∧ RowAt w s1 1 n1 (fl l1)))] := by
    intro q hq
    obtain rfl := List.mem_singleton.1 hq
    intro v w w' hb hh
    obtain ⟨s0, s1, rfl, r0, r1⟩ := hh; exact ⟨s0, s1, rfl, r0.below hb, r1.below hb⟩
  refine region_calmV w5 [(⟨w.heap.size, 0, none⟩, v0), (⟨w.heap.size, 1, none⟩, v1), (⟨w2.heap.size, 0, none⟩, .slice a_u00 k_u00 d_u00), (⟨w2.heap.size, 1, none⟩, .slice a_u01 k_u01 d_u01), (⟨w3.heap.size, 0, none⟩, .slice (some ⟨g0, 0, none⟩) n0 n0), (⟨w3.heap.size, 1, none⟩, .slice (some ⟨g1, 0, none⟩) n1 n1), (⟨w4.heap.size, 0, none⟩, .slice a_vv00 k_vv00 d_vv00), (⟨w4.heap.size, 1, none⟩, .slice a_vv01 k_vv01 d_vv01)] (fun f _ v => (f = 28 ∧ ∃ s0 s1, v = .agg #[s0, s1]) ∨ (f = 30 ∧ v = .bool true)) [(2, 75, (fun v w => ∃ s0 s1, v = .agg #[s0, s1] ∧ RowAt w s0 2 n0 (fl l0) ∧ RowAt w s1 1 n1 (fl l1)))] (by kernel_rfl) (by kernel_rfl) (by kernel_rfl) ⟨by simp [Held, go_sem, *], by (repeat (first | assumption | (with_reducible exact Below.refl _ _) | (with_reducible refine Below.drewN ?_ _) | (with_reducible refine Below.drew ?_) | (with_reducible refine Below.allocS ?_ _) | ((with_reducible refine Below.setCell ?_ ?_ _); rotate_left; focus (first | omega | (simp; done) | (simp; omega))) | (with_reducible refine Below.step ?_ (by assumption))))⟩ ?_
  repeat (first | (first | (refine calmV_plain hst rfl rfl ?_ (fun K hK w1 hC => ?_); (focus (intro _ _; simp [RVF]; done)); have hC' := hC.1; simp only [Held, and_true] at hC'; go_wp2_with (first | (refine wpList_fbin rfl rfl rfl rfl rfl (fun r n hr => ?_)) | (refine wpList_widen rfl rfl Try.underlying85 Try.underlying23 rfl (fun r n hr => ?_))); refine ⟨rfl, (by first | exact Below.refl _ _ | exact below_drewN _), hK _ ?_⟩; clear hC hC' hK K w1) | (refine calmV_check rfl rfl rfl ?_ ?_; (focus (intro _ _; simp [RVF]; done))) | (refine calmV_skip rfl ?_ ?_; (focus (intro _ _; simp [RVF]; done)); simp [Act.put])) | (refine calmV_call (f := 28) (args := _) hst rfl (by (intro w1; simp [execOp, resolve, invoke, go_sem]; with_reducible rfl)) (fun w1 hC hD => ?_) ?_; (focus (refine (toClocks_any v0 n0 v1 n1 l0 l1 _ ?_ ?_ (by omega) (by omega)).mono ?_; (focus (refine RowAt.below H0.out ?_; have hB9 := hC.2; (repeat (first | assumption | (with_reducible exact Below.refl _ _) | (with_reducible refine Below.drewN ?_ _) | (with_reducible refine Below.drew ?_) | (with_reducible refine Below.allocS ?_ _) | ((with_reducible refine Below.setCell ?_ ?_ _); rotate_left; focus (first | omega | (simp; done) | (simp; omega))) | (with_reducible refine Below.step ?_ (by assumption)))); done)); (focus (refine RowAt.below H1.out ?_; have hB9 := hC.2; (repeat (first | assumption | (with_reducible exact Below.refl _ _) | (with_reducible refine Below.drewN ?_ _) | (with_reducible refine Below.drew ?_) | (with_reducible refine Below.allocS ?_ _) | ((with_reducible refine Below.setCell ?_ ?_ _); rotate_left; focus (first | omega | (simp; done) | (simp; omega))) | (with_reducible refine Below.step ?_ (by assumption)))); done)); rintro e w2 ⟨g'0, g'1, rfl, o'0, o'1, o'ne0, hb2⟩; exact ⟨_, rfl, .inl ⟨rfl, _, _, rfl⟩, (by simp [RVF, Act.put, Act.eval]; exact ⟨_, _, ⟨rfl, rfl⟩, ownsRow_rowAt o'0, ownsRow_rowAt o'1⟩), hb2⟩)); (intro v hv; simp at hv; obtain ⟨s0, s1, rfl⟩ := hv)) | (refine calmV_call (f := 30) (args := _) hst rfl (by (intro w1; simp [execOp, resolve, invoke, go_sem]; with_reducible rfl)) (fun w1 hC hD => ?_) ?_; (focus (have hf := RVF_get (depV hD (ia := 2) (by kernel_rfl)) (List.mem_singleton.2 rfl); simp [Act.put, Act.eval] at hf; obtain ⟨t0, t1, ⟨rfl, rfl⟩, hf0, hf1⟩ := hf; refine (eqClocks_any _ _ n0 _ _ n1 l0 l0 l1 l1 _ ?_ ?_ rfl ?_ ?_ rfl).mono ?_; (focus (exact R0.out.below hC.2)); (focus (exact hf0)); (focus (exact R1.out.below hC.2)); (focus (exact hf1)); rintro e w2 ⟨rfl, hb2⟩; exact ⟨_, rfl, .inr ⟨rfl, rfl⟩, (by simp [RVF]), hb2⟩)); (intro v hv; simp at hv; subst hv)))
  refine calmV_nil ?_
  intro w6 hC hF
  have c6 := hC.2
  (try clear hk)
  have hk := hC.1
  simp only [Held, and_true] at hk
  have hBw6 : Below w.heap.size w w6 := by (repeat (first | assumption | (with_reducible exact Below.refl _ _) | (with_reducible refine Below.drewN ?_ _) | (with_reducible refine Below.drew ?_) | (with_reducible refine Below.allocS ?_ _) | ((with_reducible refine Below.setCell ?_ ?_ _); rotate_left; focus (first | omega | (simp; done) | (simp; omega))) | (with_reducible refine Below.step ?_ (by assumption))))
  clear hC hF hst R0 R1
  replace Ru00 := Lib.hid (Ru00.out.below c6)
  replace Ru01 := Lib.hid (Ru01.out.below c6)
  replace Ru1 := Lib.hid (Ru1.out.below c6)
  replace Rvv00 := Lib.hid (Rvv00.out.below c6)
  replace Rvv01 := Lib.hid (Rvv01.out.below c6)
  replace Rvv1 := Lib.hid (Rvv1.out.below c6)
  replace Ovv00 := Lib.hid (ownsRow_below Ovv00.out c6)
  replace Ovv01 := Lib.hid (ownsRow_below Ovv01.out c6)
  replace Ovv1 := Lib.hid (ownsRow_below Ovv1.out c6)
  replace P0 := Lib.hid (ownsRow_below P0.out c6)
  replace P1 := Lib.hid (ownsRow_below P1.out c6)
  go_wp2_with fail
  refine (markClocks_any _ n0 _ _ _ n1 _ _ 1 _ P0.out (by omega) P1.out (by omega) ?_ (by omega)).mono ?_
  · intro i hi hj
    have e1 := own_some hi
    have e2 := own_some hj
    omega
  rintro e w7 ⟨rfl, _, _, K7⟩
  have r7 : ∀ i, some i ∈ [(Value.slice (some ⟨g0, 0, none⟩) n0 n0).ownBlock, (Value.slice (some ⟨g1, 0, none⟩) n1 n1).ownBlock] → w2.heap.size + 1 ≤ i ∧ i < w3.heap.size := range_two (fun i hi => by have e1 := own_some hi; omega) (fun i hi => by have e1 := own_some hi; omega)
  have hkN := Held_range K7 r7 (l := [(⟨w.heap.size, 0, none⟩, v0), (⟨w.heap.size, 1, none⟩, v1), (⟨w2.heap.size, 0, none⟩, .slice a_u00 k_u00 d_u00), (⟨w2.heap.size, 1, none⟩, .slice a_u01 k_u01 d_u01), (⟨w3.heap.size, 0, none⟩, .slice (some ⟨g0, 0, none⟩) n0 n0), (⟨w3.heap.size, 1, none⟩, .slice (some ⟨g1, 0, none⟩) n1 n1), (⟨w4.heap.size, 0, none⟩, .slice a_vv00 k_vv00 d_vv00), (⟨w4.heap.size, 1, none⟩, .slice a_vv01 k_vv01 d_vv01)]) (by simp only [List.mem_cons, List.not_mem_nil, or_false, forall_eq_or_imp, forall_eq]; omega) (by simp [Held, go_sem, *])
  (try clear hk)
  have hk := hkN
  clear hkN
  simp only [Held, and_true] at hk
  have C7 : Below w.heap.size w6 w7 := Below_range K7 r7 (by omega) hBw6.size
  have hBw7 : Below w.heap.size w w7 := hBw6.trans C7
  replace Ru00 := Lib.hid (RowAt_range K7 r7 (fun i hi => by have := Lu00.out i hi; omega) Ru00.out)
  replace Ru01 := Lib.hid (RowAt_range K7 r7 (fun i hi => by have := Lu01.out i hi; omega) Ru01.out)
  replace Ru1 := Lib.hid (RowAt_range K7 r7 (fun i hi => by have := Lu1.out i hi; omega) Ru1.out)
  replace Rvv00 := Lib.hid (RowAt_range K7 r7 (fun i hi => by have := Lvv00.out i hi; omega) Rvv00.out)
  replace Ovv00 := Lib.hid (ownsRow_range K7 r7 (fun i hi => by have := Lvv00.out i hi; omega) Ovv00.out)
  replace Rvv01 := Lib.hid (RowAt_range K7 r7 (fun i hi => by have := Lvv01.out i hi; omega) Rvv01.out)
  replace Ovv01 := Lib.hid (ownsRow_range K7 r7 (fun i hi => by have := Lvv01.out i hi; omega) Ovv01.out)
  replace Rvv1 := Lib.hid (RowAt_range K7 r7 (fun i hi => by have := Lvv1.out i hi; omega) Rvv1.out)
  replace Ovv1 := Lib.hid (ownsRow_range K7 r7 (fun i hi => by have := Lvv1.out i hi; omega) Ovv1.out)
  go_wp2_with fail
  refine (eqClocks_any _ _ ((cN B n0)) _ _ ((cN B n1)) ((cL B (runF n0 l0 y2 i3.toNat))) ((cL B (runF n0 l0 y2 i3.toNat))) ((cL B l1)) ((cL B l1)) _ ?_ ?_ rfl ?_ ?_ rfl).mono ?_
  · refine RowAt.below Rvv00.out ?_
    (repeat (first | (with_reducible exact Below.refl _ _) | (with_reducible refine Below.drewN ?_ _) | (with_reducible refine Below.drew ?_) | (with_reducible refine Below.allocS ?_ _) | ((with_reducible refine Below.setCell ?_ ?_ _); rotate_left; focus (first | omega | (simp; done) | (simp; omega)))))
  · refine RowAt.below Ru00.out ?_
    (repeat (first | (with_reducible exact Below.refl _ _) | (with_reducible refine Below.drewN ?_ _) | (with_reducible refine Below.drew ?_) | (with_reducible refine Below.allocS ?_ _) | ((with_reducible refine Below.setCell ?_ ?_ _); rotate_left; focus (first | omega | (simp; done) | (simp; omega)))))
  · refine RowAt.below Rvv01.out ?_
    (repeat (first | (with_reducible exact Below.refl _ _) | (with_reducible refine Below.drewN ?_ _) | (with_reducible refine Below.drew ?_) | (with_reducible refine Below.allocS ?_ _) | ((with_reducible refine Below.setCell ?_ ?_ _); rotate_left; focus (first | omega | (simp; done) | (simp; omega)))))
  · refine RowAt.below Ru01.out ?_
    (repeat (first | (with_reducible exact Below.refl _ _) | (with_reducible refine Below.drewN ?_ _) | (with_reducible refine Below.drew ?_) | (with_reducible refine Below.allocS ?_ _) | ((with_reducible refine Below.setCell ?_ ?_ _); rotate_left; focus (first | omega | (simp; done) | (simp; omega)))))
  rintro e w8x0 ⟨rfl, c8x0⟩
  have hkN := Held.below c8x0 (l := [(⟨w.heap.size, 0, none⟩, v0), (⟨w.heap.size, 1, none⟩, v1), (⟨w2.heap.size, 0, none⟩, .slice a_u00 k_u00 d_u00), (⟨w2.heap.size, 1, none⟩, .slice a_u01 k_u01 d_u01), (⟨w3.heap.size, 0, none⟩, .slice (some ⟨g0, 0, none⟩) n0 n0), (⟨w3.heap.size, 1, none⟩, .slice (some ⟨g1, 0, none⟩) n1 n1), (⟨w4.heap.size, 0, none⟩, .slice a_vv00 k_vv00 d_vv00), (⟨w4.heap.size, 1, none⟩, .slice a_vv01 k_vv01 d_vv01)]) (by simp [Held, go_sem, *])
  (try clear hk)
  have hk := hkN
  clear hkN
  simp only [Held, and_true] at hk
  have hBw8x0 : Below w.heap.size w w8x0 := by (repeat (first | assumption | (with_reducible exact Below.refl _ _) | (with_reducible refine Below.drewN ?_ _) | (with_reducible refine Below.drew ?_) | (with_reducible refine Below.allocS ?_ _) | ((with_reducible refine Below.setCell ?_ ?_ _); rotate_left; focus (first | omega | (simp; done) | (simp; omega))) | (with_reducible refine Below.step ?_ (by assumption))))
  have hzw8x0_0 : w.heap.size < w8x0.heap.size := by omega
  have hzw8x0_1 : w2.heap.size < w8x0.heap.size := by omega
  have hzw8x0_2 : w3.heap.size < w8x0.heap.size := by omega
  have hzw8x0_3 : w4.heap.size < w8x0.heap.size := by omega
  go_wp2_with fail
  refine (eqInt64S_any _ _ ((cN B i3.toNat)) ((cZ B (runO n0 l0 y2 i3.toNat))) _ ?_ ?_).mono ?_
  · refine RowAt.below Rvv1.out ?_
    (repeat (first | (with_reducible exact Below.refl _ _) | (with_reducible refine Below.drewN ?_ _) | (with_reducible refine Below.drew ?_) | (with_reducible refine Below.allocS ?_ _) | ((with_reducible refine Below.setCell ?_ ?_ _); rotate_left; focus (first | omega | (simp; done) | (simp; omega)))))
    refine Below.step ?_ c8x0
    (repeat (first | (with_reducible exact Below.refl _ _) | (with_reducible refine Below.drewN ?_ _) | (with_reducible refine Below.drew ?_) | (with_reducible refine Below.allocS ?_ _) | ((with_reducible refine Below.setCell ?_ ?_ _); rotate_left; focus (first | omega | (simp; done) | (simp; omega)))))
  · refine RowAt.below Ru1.out ?_
    (repeat (first | (with_reducible exact Below.refl _ _) | (with_reducible refine Below.drewN ?_ _) | (with_reducible refine Below.drew ?_) | (with_reducible refine Below.allocS ?_ _) | ((with_reducible refine Below.setCell ?_ ?_ _); rotate_left; focus (first | omega | (simp; done) | (simp; omega)))))
    refine Below.step ?_ c8x0
    (repeat (first | (with_reducible exact Below.refl _ _) | (with_reducible refine Below.drewN ?_ _) | (with_reducible refine Below.drew ?_) | (with_reducible refine Below.allocS ?_ _) | ((with_reducible refine Below.setCell ?_ ?_ _); rotate_left; focus (first | omega | (simp; done) | (simp; omega)))))
  rintro e w8 ⟨rfl, c8x1⟩
  have hkN := Held.below c8x1 (l := [(⟨w.heap.size, 0, none⟩, v0), (⟨w.heap.size, 1, none⟩, v1), (⟨w2.heap.size, 0, none⟩, .slice a_u00 k_u00 d_u00), (⟨w2.heap.size, 1, none⟩, .slice a_u01 k_u01 d_u01), (⟨w3.heap.size, 0, none⟩, .slice (some ⟨g0, 0, none⟩) n0 n0), (⟨w3.heap.size, 1, none⟩, .slice (some ⟨g1, 0, none⟩) n1 n1), (⟨w4.heap.size, 0, none⟩, .slice a_vv00 k_vv00 d_vv00), (⟨w4.heap.size, 1, none⟩, .slice a_vv01 k_vv01 d_vv01)]) (by simp [Held, go_sem, *])
  (try clear hk)
  have hk := hkN
  clear hkN
  simp only [Held, and_true] at hk
  have hBw8 : Below w.heap.size w w8 := by (repeat (first | assumption | (with_reducible exact Below.refl _ _) | (with_reducible refine Below.drewN ?_ _) | (with_reducible refine Below.drew ?_) | (with_reducible refine Below.allocS ?_ _) | ((with_reducible refine Below.setCell ?_ ?_ _); rotate_left; focus (first | omega | (simp; done) | (simp; omega))) | (with_reducible refine Below.step ?_ (by assumption))))
  have hzw8_0 : w.heap.size < w8.heap.size := by omega
  have hzw8_1 : w2.heap.size < w8.heap.size := by omega
  have hzw8_2 : w3.heap.size < w8.heap.size := by omega
  have hzw8_3 : w4.heap.size < w8.heap.size := by omega
  have B8 : Below w7.heap.size w7 w8 := by
    refine Below.step ?_ c8x1
    (repeat (first | (with_reducible exact Below.refl _ _) | (with_reducible refine Below.drewN ?_ _) | (with_reducible refine Below.drew ?_) | (with_reducible refine Below.allocS ?_ _) | ((with_reducible refine Below.setCell ?_ ?_ _); rotate_left; focus (first | omega | (simp; done) | (simp; omega)))))
    refine Below.step ?_ c8x0
    (repeat (first | (with_reducible exact Below.refl _ _) | (with_reducible refine Below.drewN ?_ _) | (with_reducible refine Below.drew ?_) | (with_reducible refine Below.allocS ?_ _) | ((with_reducible refine Below.setCell ?_ ?_ _); rotate_left; focus (first | omega | (simp; done) | (simp; omega)))))
  replace Ru00 := Lib.hid (Ru00.out.below B8)
  replace Ru01 := Lib.hid (Ru01.out.below B8)
  replace Ru1 := Lib.hid (Ru1.out.below B8)
  replace Rvv00 := Lib.hid (Rvv00.out.below B8)
  replace Rvv01 := Lib.hid (Rvv01.out.below B8)
  replace Rvv1 := Lib.hid (Rvv1.out.below B8)
  replace Ovv00 := Lib.hid (ownsRow_below Ovv00.out B8)
  replace Ovv01 := Lib.hid (ownsRow_below Ovv01.out B8)
  replace Ovv1 := Lib.hid (ownsRow_below Ovv1.out B8)
  go_wp2_with (first | (refine wpList_widen rfl rfl Try.underlying85 Try.underlying23 rfl (fun r n9 hr => ?_)) | (refine wpList_widen_g rfl rfl Try.underlying85 Try.underlying23 rfl (fun r n9 hr => ?_)) | (go_at_call 52; refine (sameFloat_any _ _ _ (widen_same (Hid.out (by assumption)) (Hid.out (by assumption)) (Hqvv2.out.trans Hqu2.out.symm))).mono ?_; rintro e w' ⟨n9, rfl, rfl⟩))
  go_wp2_with fail
  refine calls_drewn (fun w8d hw8d => ?_)
  have c8d : Below w8.heap.size w8 w8d := by rw [hw8d]; exact below_drewN _
  clear hw8d
  have hkN := Held.below c8d (l := [(⟨w.heap.size, 0, none⟩, v0), (⟨w.heap.size, 1, none⟩, v1), (⟨w2.heap.size, 0, none⟩, .slice a_u00 k_u00 d_u00), (⟨w2.heap.size, 1, none⟩, .slice a_u01 k_u01 d_u01), (⟨w3.heap.size, 0, none⟩, .slice (some ⟨g0, 0, none⟩) n0 n0), (⟨w3.heap.size, 1, none⟩, .slice (some ⟨g1, 0, none⟩) n1 n1), (⟨w4.heap.size, 0, none⟩, .slice a_vv00 k_vv00 d_vv00), (⟨w4.heap.size, 1, none⟩, .slice a_vv01 k_vv01 d_vv01)]) (by simp [Held, go_sem, *])
  (try clear hk)
  have hk := hkN
  clear hkN
  simp only [Held, and_true] at hk
  have hBw8d : Below w.heap.size w w8d := by (repeat (first | assumption | (with_reducible exact Below.refl _ _) | (with_reducible refine Below.drewN ?_ _) | (with_reducible refine Below.drew ?_) | (with_reducible refine Below.allocS ?_ _) | ((with_reducible refine Below.setCell ?_ ?_ _); rotate_left; focus (first | omega | (simp; done) | (simp; omega))) | (with_reducible refine Below.step ?_ (by assumption))))
  have hzw8d_0 : w.heap.size < w8d.heap.size := by omega
  have hzw8d_1 : w2.heap.size < w8d.heap.size := by omega
  have hzw8d_2 : w3.heap.size < w8d.heap.size := by omega
  have hzw8d_3 : w4.heap.size < w8d.heap.size := by omega
  have B8d : Below w8.heap.size w8 w8d := by
    refine Below.step ?_ c8d
    (repeat (first | (with_reducible exact Below.refl _ _) | (with_reducible refine Below.drewN ?_ _) | (with_reducible refine Below.drew ?_) | (with_reducible refine Below.allocS ?_ _) | ((with_reducible refine Below.setCell ?_ ?_ _); rotate_left; focus (first | omega | (simp; done) | (simp; omega)))))
  replace Ru00 := Lib.hid (Ru00.out.below B8d)
  replace Ru01 := Lib.hid (Ru01.out.below B8d)
  replace Ru1 := Lib.hid (Ru1.out.below B8d)
  replace Rvv00 := Lib.hid (Rvv00.out.below B8d)
  replace Rvv01 := Lib.hid (Rvv01.out.below B8d)
  replace Rvv1 := Lib.hid (Rvv1.out.below B8d)
  replace Ovv00 := Lib.hid (ownsRow_below Ovv00.out B8d)
  replace Ovv01 := Lib.hid (ownsRow_below Ovv01.out B8d)
  replace Ovv1 := Lib.hid (ownsRow_below Ovv1.out B8d)
  go_wp2_with fail
  refine (markClocks_any _ _ _ _ _ _ _ _ (1) _ Ovv00.out (by omega) Ovv01.out (by omega) ne_vv00_vv01 (by omega)).mono ?_
  rintro e w9x0 ⟨rfl, ow0, ow1, K9⟩
  have r9 := range_two Lvv00.out Lvv01.out
  have hkN := Held_range K9 r9 (l := [(⟨w.heap.size, 0, none⟩, v0), (⟨w.heap.size, 1, none⟩, v1), (⟨w2.heap.size, 0, none⟩, .slice a_u00 k_u00 d_u00), (⟨w2.heap.size, 1, none⟩, .slice a_u01 k_u01 d_u01), (⟨w3.heap.size, 0, none⟩, .slice (some ⟨g0, 0, none⟩) n0 n0), (⟨w3.heap.size, 1, none⟩, .slice (some ⟨g1, 0, none⟩) n1 n1), (⟨w4.heap.size, 0, none⟩, .slice a_vv00 k_vv00 d_vv00), (⟨w4.heap.size, 1, none⟩, .slice a_vv01 k_vv01 d_vv01)]) (by simp only [List.mem_cons, List.not_mem_nil, or_false, forall_eq_or_imp, forall_eq]; omega) (by simp [Held, go_sem, *])
  (try clear hk)
  have hk := hkN
  clear hkN
  simp only [Held, and_true] at hk
  have C9 : Below w.heap.size w8d w9x0 := Below_range K9 r9 (by omega) (by have := hBw8d.size; omega)
  have hBw9x0 : Below w.heap.size w w9x0 := hBw8d.trans C9
  replace Ru00 := Lib.hid (RowAt_range K9 r9 (fun i hi => by have := Lu00.out i hi; omega) Ru00.out)
  replace Ru01 := Lib.hid (RowAt_range K9 r9 (fun i hi => by have := Lu01.out i hi; omega) Ru01.out)
  replace Ru1 := Lib.hid (RowAt_range K9 r9 (fun i hi => by have := Lu1.out i hi; omega) Ru1.out)
  replace Ovv1 := Lib.hid (ownsRow_kept Ovv1.out K9 (fun i hi hm => by simp only [List.mem_cons, List.not_mem_nil, or_false] at hm; first | (rcases hm with hm | hm <;> first | exact ne_vv00_vv1 i hm.symm hi | exact ne_vv01_vv1 i hm.symm hi) | (first | exact ne_vv00_vv1 i hm.symm hi | exact ne_vv01_vv1 i hm.symm hi)))
  have Mvv00 := Lib.hid (ownsRow_rowAt ow0)
  clear Rvv00 ow0
  have Mvv01 := Lib.hid (ownsRow_rowAt ow1)
  clear Rvv01 ow1
  clear K9 r9 C9
  go_wp2_with fail
  refine (markInt64S_any _ _ (1 + ((cN B n0)) * 2 + ((cN B n1))) _ _ _ Ovv1.out (by omega) (by omega)).mono ?_
  rintro e w9x1 ⟨rfl, ow0, G9⟩
  have K9 := Kept.of_grown G9
  have r9 := range_one Lvv1.out
  have hkN := Held_range K9 r9 (l := [(⟨w.heap.size, 0, none⟩, v0), (⟨w.heap.size, 1, none⟩, v1), (⟨w2.heap.size, 0, none⟩, .slice a_u00 k_u00 d_u00), (⟨w2.heap.size, 1, none⟩, .slice a_u01 k_u01 d_u01), (⟨w3.heap.size, 0, none⟩, .slice (some ⟨g0, 0, none⟩) n0 n0), (⟨w3.heap.size, 1, none⟩, .slice (some ⟨g1, 0, none⟩) n1 n1), (⟨w4.heap.size, 0, none⟩, .slice a_vv00 k_vv00 d_vv00), (⟨w4.heap.size, 1, none⟩, .slice a_vv01 k_vv01 d_vv01)]) (by simp only [List.mem_cons, List.not_mem_nil, or_false, forall_eq_or_imp, forall_eq]; omega) (by simp [Held, go_sem, *])
  (try clear hk)
  have hk := hkN
  clear hkN
  simp only [Held, and_true] at hk
  have C9 : Below w.heap.size w9x0 w9x1 := Below_range K9 r9 (by omega) (by have := hBw9x0.size; omega)
  have hBw9x1 : Below w.heap.size w w9x1 := hBw9x0.trans C9
  replace Ru00 := Lib.hid (RowAt_range K9 r9 (fun i hi => by have := Lu00.out i hi; omega) Ru00.out)
  replace Ru01 := Lib.hid (RowAt_range K9 r9 (fun i hi => by have := Lu01.out i hi; omega) Ru01.out)
  replace Ru1 := Lib.hid (RowAt_range K9 r9 (fun i hi => by have := Lu1.out i hi; omega) Ru1.out)
  replace Mvv00 := Lib.hid (RowAt_kept Mvv00.out K9 (fun i hi hm => by simp only [List.mem_cons, List.not_mem_nil, or_false] at hm; first | (rcases hm with hm | hm <;> first | exact ne_vv00_vv1 i hi hm.symm) | (first | exact ne_vv00_vv1 i hi hm.symm)))
  replace Mvv01 := Lib.hid (RowAt_kept Mvv01.out K9 (fun i hi hm => by simp only [List.mem_cons, List.not_mem_nil, or_false] at hm; first | (rcases hm with hm | hm <;> first | exact ne_vv01_vv1 i hi hm.symm) | (first | exact ne_vv01_vv1 i hi hm.symm)))
  have Mvv1 := Lib.hid (ownsRow_rowAt ow0)
  clear Rvv1 ow0
  clear K9 r9 C9 G9
  go_wp2_with fail
  refine (heldClocks_any _ _ ((cN B n0)) ((cN B n1)) (1) _ ?_ ?_ (by omega) (by omega) (by omega)).mono ?_
  · refine RowAt.below Mvv00.out ?_
    (repeat (first | assumption | (with_reducible exact Below.refl _ _) | (with_reducible refine Below.drewN ?_ _) | (with_reducible refine Below.drew ?_) | (with_reducible refine Below.allocS ?_ _) | ((with_reducible refine Below.setCell ?_ ?_ _); rotate_left; focus (first | omega | (simp; done) | (simp; omega))) | (with_reducible refine Below.step ?_ (by assumption))))
  · refine RowAt.below Mvv01.out ?_
    (repeat (first | assumption | (with_reducible exact Below.refl _ _) | (with_reducible refine Below.drewN ?_ _) | (with_reducible refine Below.drew ?_) | (with_reducible refine Below.allocS ?_ _) | ((with_reducible refine Below.setCell ?_ ?_ _); rotate_left; focus (first | omega | (simp; done) | (simp; omega))) | (with_reducible refine Below.step ?_ (by assumption))))
  rintro e w10x0 ⟨rfl, cw10x0⟩
  have hkN := Held.below cw10x0 (l := [(⟨w.heap.size, 0, none⟩, v0), (⟨w.heap.size, 1, none⟩, v1), (⟨w2.heap.size, 0, none⟩, .slice a_u00 k_u00 d_u00), (⟨w2.heap.size, 1, none⟩, .slice a_u01 k_u01 d_u01), (⟨w3.heap.size, 0, none⟩, .slice (some ⟨g0, 0, none⟩) n0 n0), (⟨w3.heap.size, 1, none⟩, .slice (some ⟨g1, 0, none⟩) n1 n1), (⟨w4.heap.size, 0, none⟩, .slice a_vv00 k_vv00 d_vv00), (⟨w4.heap.size, 1, none⟩, .slice a_vv01 k_vv01 d_vv01)]) (by simp [Held, go_sem, *])
  (try clear hk)
  have hk := hkN
  clear hkN
  simp only [Held, and_true] at hk
  have hBw10x0 : Below w.heap.size w w10x0 := by (repeat (first | assumption | (with_reducible exact Below.refl _ _) | (with_reducible refine Below.drewN ?_ _) | (with_reducible refine Below.drew ?_) | (with_reducible refine Below.allocS ?_ _) | ((with_reducible refine Below.setCell ?_ ?_ _); rotate_left; focus (first | omega | (simp; done) | (simp; omega))) | (with_reducible refine Below.step ?_ (by assumption))))
  have hzw10x0_0 : w.heap.size < w10x0.heap.size := by omega
  have hzw10x0_1 : w2.heap.size < w10x0.heap.size := by omega
  have hzw10x0_2 : w3.heap.size < w10x0.heap.size := by omega
  have hzw10x0_3 : w4.heap.size < w10x0.heap.size := by omega
  have B9 : Below w9x1.heap.size w9x1 w10x0 := by
    refine Below.step ?_ cw10x0
    (repeat (first | (with_reducible exact Below.refl _ _) | (with_reducible refine Below.drewN ?_ _) | (with_reducible refine Below.drew ?_) | (with_reducible refine Below.allocS ?_ _) | ((with_reducible refine Below.setCell ?_ ?_ _); rotate_left; focus (first | omega | (simp; done) | (simp; omega)))))
  replace Ru00 := Lib.hid (Ru00.out.below B9)
  replace Ru01 := Lib.hid (Ru01.out.below B9)
  replace Ru1 := Lib.hid (Ru1.out.below B9)
  replace Mvv00 := Lib.hid (Mvv00.out.below B9)
  replace Mvv01 := Lib.hid (Mvv01.out.below B9)
  replace Mvv1 := Lib.hid (Mvv1.out.below B9)
  clear B9
  go_wp2_with fail
  refine (heldInt64S_any _ ((cN B i3.toNat)) (1 + ((cN B n0)) * 2 + ((cN B n1))) _ ?_ (by omega) (by omega)).mono ?_
  · refine RowAt.below Mvv1.out ?_
    (repeat (first | assumption | (with_reducible exact Below.refl _ _) | (with_reducible refine Below.drewN ?_ _) | (with_reducible refine Below.drew ?_) | (with_reducible refine Below.allocS ?_ _) | ((with_reducible refine Below.setCell ?_ ?_ _); rotate_left; focus (first | omega | (simp; done) | (simp; omega))) | (with_reducible refine Below.step ?_ (by assumption))))
  rintro e w9' ⟨rfl, e9⟩
  subst w9'
  go_wp2_with fail
  refine (toClocks_any v0 n0 v1 n1 l0 l1 _ ?_ ?_ (by omega) (by omega)).mono ?_
  · refine RowAt.below H0.out ?_
    (repeat (first | assumption | (with_reducible exact Below.refl _ _) | (with_reducible refine Below.drewN ?_ _) | (with_reducible refine Below.drew ?_) | (with_reducible refine Below.allocS ?_ _) | ((with_reducible refine Below.setCell ?_ ?_ _); rotate_left; focus (first | omega | (simp; done) | (simp; omega))) | (with_reducible refine Below.step ?_ (by assumption))))
  · refine RowAt.below H1.out ?_
    (repeat (first | assumption | (with_reducible exact Below.refl _ _) | (with_reducible refine Below.drewN ?_ _) | (with_reducible refine Below.drew ?_) | (with_reducible refine Below.allocS ?_ _) | ((with_reducible refine Below.setCell ?_ ?_ _); rotate_left; focus (first | omega | (simp; done) | (simp; omega))) | (with_reducible refine Below.step ?_ (by assumption))))
  rintro e w11 ⟨gz0, gz1, rfl, oz0, oz1, ozne0, c11⟩
  have hkN := Held.below c11 (l := [(⟨w.heap.size, 0, none⟩, v0), (⟨w.heap.size, 1, none⟩, v1), (⟨w2.heap.size, 0, none⟩, .slice a_u00 k_u00 d_u00), (⟨w2.heap.size, 1, none⟩, .slice a_u01 k_u01 d_u01), (⟨w3.heap.size, 0, none⟩, .slice (some ⟨g0, 0, none⟩) n0 n0), (⟨w3.heap.size, 1, none⟩, .slice (some ⟨g1, 0, none⟩) n1 n1), (⟨w4.heap.size, 0, none⟩, .slice a_vv00 k_vv00 d_vv00), (⟨w4.heap.size, 1, none⟩, .slice a_vv01 k_vv01 d_vv01)]) (by simp [Held, go_sem, *])
  (try clear hk)
  have hk := hkN
  clear hkN
  simp only [Held, and_true] at hk
  have hBw11 : Below w.heap.size w w11 := by (repeat (first | assumption | (with_reducible exact Below.refl _ _) | (with_reducible refine Below.drewN ?_ _) | (with_reducible refine Below.drew ?_) | (with_reducible refine Below.allocS ?_ _) | ((with_reducible refine Below.setCell ?_ ?_ _); rotate_left; focus (first | omega | (simp; done) | (simp; omega))) | (with_reducible refine Below.step ?_ (by assumption))))
  have hzw11_0 : w.heap.size < w11.heap.size := by omega
  have hzw11_1 : w2.heap.size < w11.heap.size := by omega
  have hzw11_2 : w3.heap.size < w11.heap.size := by omega
  have hzw11_3 : w4.heap.size < w11.heap.size := by omega
  have B11 : Below w10x0.heap.size w10x0 w11 := by
    refine Below.step ?_ c11
    (repeat (first | (with_reducible exact Below.refl _ _) | (with_reducible refine Below.drewN ?_ _) | (with_reducible refine Below.drew ?_) | (with_reducible refine Below.allocS ?_ _) | ((with_reducible refine Below.setCell ?_ ?_ _); rotate_left; focus (first | omega | (simp; done) | (simp; omega)))))
  replace Ru00 := Lib.hid (Ru00.out.below B11)
  replace Ru01 := Lib.hid (Ru01.out.below B11)
  replace Ru1 := Lib.hid (Ru1.out.below B11)
  replace Mvv00 := Lib.hid (Mvv00.out.below B11)
  replace Mvv01 := Lib.hid (Mvv01.out.below B11)
  replace Mvv1 := Lib.hid (Mvv1.out.below B11)
  go_wp2_with fail
  refine (implRunFires_lit HBB.out HZZ.out _ _ _ (ownsRow_rowAt oz0) (ownsRow_rowAt oz1)).mono ?_
  rintro e w12 ⟨h00, h01, h1, h2, rfl, ow_h00, ow_h01, ow_h1, ne_h00_h01, ne_h00_h1, ne_h01_h1, qh2, c12⟩
  have Hqh2 := Lib.hid qh2
  clear qh2
  obtain ⟨a_h00, k_h00, d_h00, rfl⟩ := ownsRow_shape ow_h00
  obtain ⟨a_h01, k_h01, d_h01, rfl⟩ := ownsRow_shape ow_h01
  have hkN := Held.below c12 (l := [(⟨w.heap.size, 0, none⟩, v0), (⟨w.heap.size, 1, none⟩, v1), (⟨w2.heap.size, 0, none⟩, .slice a_u00 k_u00 d_u00), (⟨w2.heap.size, 1, none⟩, .slice a_u01 k_u01 d_u01), (⟨w3.heap.size, 0, none⟩, .slice (some ⟨g0, 0, none⟩) n0 n0), (⟨w3.heap.size, 1, none⟩, .slice (some ⟨g1, 0, none⟩) n1 n1), (⟨w4.heap.size, 0, none⟩, .slice a_vv00 k_vv00 d_vv00), (⟨w4.heap.size, 1, none⟩, .slice a_vv01 k_vv01 d_vv01)]) (by simp [Held, go_sem, *])
  (try clear hk)
  have hk := hkN
  clear hkN
  simp only [Held, and_true] at hk
  have hBw12 : Below w.heap.size w w12 := by (repeat (first | assumption | (with_reducible exact Below.refl _ _) | (with_reducible refine Below.drewN ?_ _) | (with_reducible refine Below.drew ?_) | (with_reducible refine Below.allocS ?_ _) | ((with_reducible refine Below.setCell ?_ ?_ _); rotate_left; focus (first | omega | (simp; done) | (simp; omega))) | (with_reducible refine Below.step ?_ (by assumption))))
  have hzw12_0 : w.heap.size < w12.heap.size := by omega
  have hzw12_1 : w2.heap.size < w12.heap.size := by omega
  have hzw12_2 : w3.heap.size < w12.heap.size := by omega
  have hzw12_3 : w4.heap.size < w12.heap.size := by omega
  have Lh00 := Lib.hid (ownsRow_lt ow_h00)
  (try simp only [World.size_alloc, World.size_setCell, World.heap_drewN] at Lh00)
  have Oh00 := Lib.hid ow_h00
  have Rh00 := Lib.hid (ownsRow_rowAt ow_h00)
  clear ow_h00
  have Lh01 := Lib.hid (ownsRow_lt ow_h01)
  (try simp only [World.size_alloc, World.size_setCell, World.heap_drewN] at Lh01)
  have Oh01 := Lib.hid ow_h01
  have Rh01 := Lib.hid (ownsRow_rowAt ow_h01)
  clear ow_h01
  have Lh1 := Lib.hid (ownsRow_lt ow_h1)
  (try simp only [World.size_alloc, World.size_setCell, World.heap_drewN] at Lh1)
  have Oh1 := Lib.hid ow_h1
  have Rh1 := Lib.hid (ownsRow_rowAt ow_h1)
  clear ow_h1
  have : ¬ w.heap.size = w12.heap.size := by omega
  have : ¬ w2.heap.size = w12.heap.size := by omega
  have : ¬ w3.heap.size = w12.heap.size := by omega
  have : ¬ w4.heap.size = w12.heap.size := by omega
  have B12 : Below w11.heap.size w11 w12 := by
    refine Below.step ?_ c12
    (repeat (first | (with_reducible exact Below.refl _ _) | (with_reducible refine Below.drewN ?_ _) | (with_reducible refine Below.drew ?_) | (with_reducible refine Below.allocS ?_ _) | ((with_reducible refine Below.setCell ?_ ?_ _); rotate_left; focus (first | omega | (simp; done) | (simp; omega)))))
  replace Ru00 := Lib.hid (Ru00.out.below B12)
  replace Ru01 := Lib.hid (Ru01.out.below B12)
  replace Ru1 := Lib.hid (Ru1.out.below B12)
  replace Mvv00 := Lib.hid (Mvv00.out.below B12)
  replace Mvv01 := Lib.hid (Mvv01.out.below B12)
  replace Mvv1 := Lib.hid (Mvv1.out.below B12)
  go_wp2_with fail
  refine (eqClocks_any _ _ ((cN B n0)) _ _ ((cN B n1)) ((cL B (runF n0 l0 y2 i3.toNat))) ((cL B (runF n0 l0 y2 i3.toNat))) ((cL B l1)) ((cL B l1)) _ ?_ ?_ rfl ?_ ?_ rfl).mono ?_
  · refine RowAt.below Rh00.out ?_
    (repeat (first | (with_reducible exact Below.refl _ _) | (with_reducible refine Below.drewN ?_ _) | (with_reducible refine Below.drew ?_) | (with_reducible refine Below.allocS ?_ _) | ((with_reducible refine Below.setCell ?_ ?_ _); rotate_left; focus (first | omega | (simp; done) | (simp; omega)))))
  · refine RowAt.below Ru00.out ?_
    (repeat (first | (with_reducible exact Below.refl _ _) | (with_reducible refine Below.drewN ?_ _) | (with_reducible refine Below.drew ?_) | (with_reducible refine Below.allocS ?_ _) | ((with_reducible refine Below.setCell ?_ ?_ _); rotate_left; focus (first | omega | (simp; done) | (simp; omega)))))
  · refine RowAt.below Rh01.out ?_
    (repeat (first | (with_reducible exact Below.refl _ _) | (with_reducible refine Below.drewN ?_ _) | (with_reducible refine Below.drew ?_) | (with_reducible refine Below.allocS ?_ _) | ((with_reducible refine Below.setCell ?_ ?_ _); rotate_left; focus (first | omega | (simp; done) | (simp; omega)))))
  · refine RowAt.below Ru01.out ?_
    (repeat (first | (with_reducible exact Below.refl _ _) | (with_reducible refine Below.drewN ?_ _) | (with_reducible refine Below.drew ?_) | (with_reducible refine Below.allocS ?_ _) | ((with_reducible refine Below.setCell ?_ ?_ _); rotate_left; focus (first | omega | (simp; done) | (simp; omega)))))
  rintro e w13x0 ⟨rfl, c13x0⟩
  have hkN := Held.below c13x0 (l := [(⟨w.heap.size, 0, none⟩, v0), (⟨w.heap.size, 1, none⟩, v1), (⟨w2.heap.size, 0, none⟩, .slice a_u00 k_u00 d_u00), (⟨w2.heap.size, 1, none⟩, .slice a_u01 k_u01 d_u01), (⟨w3.heap.size, 0, none⟩, .slice (some ⟨g0, 0, none⟩) n0 n0), (⟨w3.heap.size, 1, none⟩, .slice (some ⟨g1, 0, none⟩) n1 n1), (⟨w4.heap.size, 0, none⟩, .slice a_vv00 k_vv00 d_vv00), (⟨w4.heap.size, 1, none⟩, .slice a_vv01 k_vv01 d_vv01), (⟨w12.heap.size, 0, none⟩, .slice a_h00 k_h00 d_h00), (⟨w12.heap.size, 1, none⟩, .slice a_h01 k_h01 d_h01)]) (by simp [Held, go_sem, *])
  (try clear hk)
  have hk := hkN
  clear hkN
  simp only [Held, and_true] at hk
  have hBw13x0 : Below w.heap.size w w13x0 := by (repeat (first | assumption | (with_reducible exact Below.refl _ _) | (with_reducible refine Below.drewN ?_ _) | (with_reducible refine Below.drew ?_) | (with_reducible refine Below.allocS ?_ _) | ((with_reducible refine Below.setCell ?_ ?_ _); rotate_left; focus (first | omega | (simp; done) | (simp; omega))) | (with_reducible refine Below.step ?_ (by assumption))))
  have hzw13x0_0 : w.heap.size < w13x0.heap.size := by omega
  have hzw13x0_1 : w2.heap.size < w13x0.heap.size := by omega
  have hzw13x0_2 : w3.heap.size < w13x0.heap.size := by omega
  have hzw13x0_3 : w4.heap.size < w13x0.heap.size := by omega
  have hzw13x0_4 : w12.heap.size < w13x0.heap.size := by omega
  go_wp2_with fail
  refine (eqInt64S_any _ _ ((cN B i3.toNat)) ((cZ B (runO n0 l0 y2 i3.toNat))) _ ?_ ?_).mono ?_
  · refine RowAt.below Rh1.out ?_
    (repeat (first | (with_reducible exact Below.refl _ _) | (with_reducible refine Below.drewN ?_ _) | (with_reducible refine Below.drew ?_) | (with_reducible refine Below.allocS ?_ _) | ((with_reducible refine Below.setCell ?_ ?_ _); rotate_left; focus (first | omega | (simp; done) | (simp; omega)))))
    refine Below.step ?_ c13x0
    (repeat (first | (with_reducible exact Below.refl _ _) | (with_reducible refine Below.drewN ?_ _) | (with_reducible refine Below.drew ?_) | (with_reducible refine Below.allocS ?_ _) | ((with_reducible refine Below.setCell ?_ ?_ _); rotate_left; focus (first | omega | (simp; done) | (simp; omega)))))
  · refine RowAt.below Ru1.out ?_
    (repeat (first | (with_reducible exact Below.refl _ _) | (with_reducible refine Below.drewN ?_ _) | (with_reducible refine Below.drew ?_) | (with_reducible refine Below.allocS ?_ _) | ((with_reducible refine Below.setCell ?_ ?_ _); rotate_left; focus (first | omega | (simp; done) | (simp; omega)))))
    refine Below.step ?_ c13x0
    (repeat (first | (with_reducible exact Below.refl _ _) | (with_reducible refine Below.drewN ?_ _) | (with_reducible refine Below.drew ?_) | (with_reducible refine Below.allocS ?_ _) | ((with_reducible refine Below.setCell ?_ ?_ _); rotate_left; focus (first | omega | (simp; done) | (simp; omega)))))
  rintro e w13 ⟨rfl, c13x1⟩
  have hkN := Held.below c13x1 (l := [(⟨w.heap.size, 0, none⟩, v0), (⟨w.heap.size, 1, none⟩, v1), (⟨w2.heap.size, 0, none⟩, .slice a_u00 k_u00 d_u00), (⟨w2.heap.size, 1, none⟩, .slice a_u01 k_u01 d_u01), (⟨w3.heap.size, 0, none⟩, .slice (some ⟨g0, 0, none⟩) n0 n0), (⟨w3.heap.size, 1, none⟩, .slice (some ⟨g1, 0, none⟩) n1 n1), (⟨w4.heap.size, 0, none⟩, .slice a_vv00 k_vv00 d_vv00), (⟨w4.heap.size, 1, none⟩, .slice a_vv01 k_vv01 d_vv01), (⟨w12.heap.size, 0, none⟩, .slice a_h00 k_h00 d_h00), (⟨w12.heap.size, 1, none⟩, .slice a_h01 k_h01 d_h01)]) (by simp [Held, go_sem, *])
  (try clear hk)
  have hk := hkN
  clear hkN
  simp only [Held, and_true] at hk
  have hBw13 : Below w.heap.size w w13 := by (repeat (first | assumption | (with_reducible exact Below.refl _ _) | (with_reducible refine Below.drewN ?_ _) | (with_reducible refine Below.drew ?_) | (with_reducible refine Below.allocS ?_ _) | ((with_reducible refine Below.setCell ?_ ?_ _); rotate_left; focus (first | omega | (simp; done) | (simp; omega))) | (with_reducible refine Below.step ?_ (by assumption))))
  have hzw13_0 : w.heap.size < w13.heap.size := by omega
  have hzw13_1 : w2.heap.size < w13.heap.size := by omega
  have hzw13_2 : w3.heap.size < w13.heap.size := by omega
  have hzw13_3 : w4.heap.size < w13.heap.size := by omega
  have hzw13_4 : w12.heap.size < w13.heap.size := by omega
  have B13 : Below w12.heap.size w12 w13 := by
    refine Below.step ?_ c13x1
    (repeat (first | (with_reducible exact Below.refl _ _) | (with_reducible refine Below.drewN ?_ _) | (with_reducible refine Below.drew ?_) | (with_reducible refine Below.allocS ?_ _) | ((with_reducible refine Below.setCell ?_ ?_ _); rotate_left; focus (first | omega | (simp; done) | (simp; omega)))))
    refine Below.step ?_ c13x0
    (repeat (first | (with_reducible exact Below.refl _ _) | (with_reducible refine Below.drewN ?_ _) | (with_reducible refine Below.drew ?_) | (with_reducible refine Below.allocS ?_ _) | ((with_reducible refine Below.setCell ?_ ?_ _); rotate_left; focus (first | omega | (simp; done) | (simp; omega)))))
  replace Ru00 := Lib.hid (Ru00.out.below B13)
  replace Ru01 := Lib.hid (Ru01.out.below B13)
  replace Ru1 := Lib.hid (Ru1.out.below B13)
  replace Mvv00 := Lib.hid (Mvv00.out.below B13)
  replace Mvv01 := Lib.hid (Mvv01.out.below B13)
  replace Mvv1 := Lib.hid (Mvv1.out.below B13)
  go_wp2_with (first | (refine wpList_widen rfl rfl Try.underlying85 Try.underlying23 rfl (fun r n9 hr => ?_)) | (refine wpList_widen_g rfl rfl Try.underlying85 Try.underlying23 rfl (fun r n9 hr => ?_)) | (go_at_call 52; refine (sameFloat_any _ _ _ (widen_same (Hid.out (by assumption)) (Hid.out (by assumption)) (Hqh2.out.trans Hqu2.out.symm))).mono ?_; rintro e w' ⟨n9, rfl, rfl⟩))
  go_wp2_with fail
  refine (heldClocks_any _ _ ((cN B n0)) ((cN B n1)) (1) _ ?_ ?_ (by omega) (by omega) (by omega)).mono ?_
  · refine RowAt.below Mvv00.out ?_
    (repeat (first | assumption | (with_reducible exact Below.refl _ _) | (with_reducible refine Below.drewN ?_ _) | (with_reducible refine Below.drew ?_) | (with_reducible refine Below.allocS ?_ _) | ((with_reducible refine Below.setCell ?_ ?_ _); rotate_left; focus (first | omega | (simp; done) | (simp; omega))) | (with_reducible refine Below.step ?_ (by assumption))))
  · refine RowAt.below Mvv01.out ?_
    (repeat (first | assumption | (with_reducible exact Below.refl _ _) | (with_reducible refine Below.drewN ?_ _) | (with_reducible refine Below.drew ?_) | (with_reducible refine Below.allocS ?_ _) | ((with_reducible refine Below.setCell ?_ ?_ _); rotate_left; focus (first | omega | (simp; done) | (simp; omega))) | (with_reducible refine Below.step ?_ (by assumption))))
  rintro e w14x0 ⟨rfl, cw14x0⟩
  have hkN := Held.below cw14x0 (l := [(⟨w.heap.size, 0, none⟩, v0), (⟨w.heap.size, 1, none⟩, v1), (⟨w2.heap.size, 0, none⟩, .slice a_u00 k_u00 d_u00), (⟨w2.heap.size, 1, none⟩, .slice a_u01 k_u01 d_u01), (⟨w3.heap.size, 0, none⟩, .slice (some ⟨g0, 0, none⟩) n0 n0), (⟨w3.heap.size, 1, none⟩, .slice (some ⟨g1, 0, none⟩) n1 n1), (⟨w4.heap.size, 0, none⟩, .slice a_vv00 k_vv00 d_vv00), (⟨w4.heap.size, 1, none⟩, .slice a_vv01 k_vv01 d_vv01), (⟨w12.heap.size, 0, none⟩, .slice a_h00 k_h00 d_h00), (⟨w12.heap.size, 1, none⟩, .slice a_h01 k_h01 d_h01)]) (by simp [Held, go_sem, *])
  (try clear hk)
  have hk := hkN
  clear hkN
  simp only [Held, and_true] at hk
  have hBw14x0 : Below w.heap.size w w14x0 := by (repeat (first | assumption | (with_reducible exact Below.refl _ _) | (with_reducible refine Below.drewN ?_ _) | (with_reducible refine Below.drew ?_) | (with_reducible refine Below.allocS ?_ _) | ((with_reducible refine Below.setCell ?_ ?_ _); rotate_left; focus (first | omega | (simp; done) | (simp; omega))) | (with_reducible refine Below.step ?_ (by assumption))))
  have hzw14x0_0 : w.heap.size < w14x0.heap.size := by omega
  have hzw14x0_1 : w2.heap.size < w14x0.heap.size := by omega
  have hzw14x0_2 : w3.heap.size < w14x0.heap.size := by omega
  have hzw14x0_3 : w4.heap.size < w14x0.heap.size := by omega
  have hzw14x0_4 : w12.heap.size < w14x0.heap.size := by omega
  have B9 : Below w13.heap.size w13 w14x0 := by
    refine Below.step ?_ cw14x0
    (repeat (first | (with_reducible exact Below.refl _ _) | (with_reducible refine Below.drewN ?_ _) | (with_reducible refine Below.drew ?_) | (with_reducible refine Below.allocS ?_ _) | ((with_reducible refine Below.setCell ?_ ?_ _); rotate_left; focus (first | omega | (simp; done) | (simp; omega)))))
  replace Ru00 := Lib.hid (Ru00.out.below B9)
  replace Ru01 := Lib.hid (Ru01.out.below B9)
  replace Ru1 := Lib.hid (Ru1.out.below B9)
  replace Mvv00 := Lib.hid (Mvv00.out.below B9)
  replace Mvv01 := Lib.hid (Mvv01.out.below B9)
  replace Mvv1 := Lib.hid (Mvv1.out.below B9)
  clear B9
  go_wp2_with fail
  refine (heldInt64S_any _ ((cN B i3.toNat)) (1 + ((cN B n0)) * 2 + ((cN B n1))) _ ?_ (by omega) (by omega)).mono ?_
  · refine RowAt.below Mvv1.out ?_
    (repeat (first | assumption | (with_reducible exact Below.refl _ _) | (with_reducible refine Below.drewN ?_ _) | (with_reducible refine Below.drew ?_) | (with_reducible refine Below.allocS ?_ _) | ((with_reducible refine Below.setCell ?_ ?_ _); rotate_left; focus (first | omega | (simp; done) | (simp; omega))) | (with_reducible refine Below.step ?_ (by assumption))))
  rintro e w9' ⟨rfl, e9⟩
  subst w9'
  go_wp2_with fail
  go_ret
  refine ⟨rfl, ?_⟩
  (repeat (first | assumption | (with_reducible exact Below.refl _ _) | (with_reducible refine Below.drewN ?_ _) | (with_reducible refine Below.drew ?_) | (with_reducible refine Below.allocS ?_ _) | ((with_reducible refine Below.setCell ?_ ?_ _); rotate_left; focus (first | omega | (simp; done) | (simp; omega))) | (with_reducible refine Below.step ?_ (by assumption))))

end Go.Proofs.Ytbmabpnolheghaa
