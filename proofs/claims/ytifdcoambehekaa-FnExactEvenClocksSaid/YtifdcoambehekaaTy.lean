/-
  The law EvenClocks.
-/
import Derived.Test.YtifdcoambehekaaTv
set_option linter.unusedVariables false
set_option linter.unusedSimpArgs false
namespace Go.Proofs.Ytifdcoambehekaa
open Go.RowKit

theorem specEven_lit {i1 : Int} {x2 x3 : Nat} {B : Bool} (hB : evenB i1 x2 x3 = B) (w : World) : Calls Try.prog 15 #[.int .i64 i1, .float .f32 x2, .float .f32 x3] w (GiveC (cN B i1.toNat) (cL B (evenL i1.toNat x2 i1.toNat)) (cN B (i1.toNat * i1.toNat)) (cL B (evenR i1.toNat x3 i1.toNat)) B w) := hB ▸ specEven_any i1 x2 x3 w

theorem implEven_lit {i1 : Int} {x2 x3 : Nat} {B : Bool} (hB : evenB i1 x2 x3 = B) (w : World) : Calls Try.prog 16 #[.int .i64 i1, .float .f32 x2, .float .f32 x3] w (GiveC (cN B i1.toNat) (cL B (evenL i1.toNat x2 i1.toNat)) (cN B (i1.toNat * i1.toNat)) (cL B (evenR i1.toNat x3 i1.toNat)) B w) := hB ▸ implEven_any i1 x2 x3 w

set_option maxRecDepth 100000 in
set_option maxHeartbeats 8000000 in
theorem lawEvenClocks_walk (i1 : Int) (x2 : Nat) (x3 : Nat) (hb_i1 : (Lit.int .i64 i1).wf = true) (hb_x2 : x2 < 4294967296) (hb_x3 : x3 < 4294967296) (w : World) : Calls Try.prog 3 #[.int .i64 i1, .float .f32 x2, .float .f32 x3] w fun e w' => e = .returned (.bool true) ∧ Below w.heap.size w w' := by
  go_enter Try.func3, Try.ntmps3
  obtain ⟨B, hB⟩ : ∃ B, evenB i1 x2 x3 = B := ⟨_, rfl⟩
  have hN9 : cN B i1.toNat ≤ 12 ∧ cN B (i1.toNat * i1.toNat) ≤ 144 := by
    cases B
    · exact ⟨Nat.zero_le _, Nat.zero_le _⟩
    · unfold evenB at hB
      simp only [Bool.and_eq_true] at hB
      have c2 := (clocks_parts hB.2).2.1
      exact ⟨c2, sq_small c2⟩
  have HBB := Lib.hid hB
  clear hB
  go_wp2_with fail
  refine (specEven_lit HBB.out _).mono ?_
  rintro e w2 ⟨u00, u01, rfl, ow_u00, ow_u01, ne_u00_u01, c2⟩
  obtain ⟨a_u00, k_u00, d_u00, rfl⟩ := ownsRow_shape ow_u00
  obtain ⟨a_u01, k_u01, d_u01, rfl⟩ := ownsRow_shape ow_u01
  have hkN := Held.below c2 (l := []) (by simp [Held, go_sem, *])
  (try clear hk)
  have hk := hkN
  clear hkN
  simp only [Held, and_true] at hk
  have hBw2 : Below w.heap.size w w2 := by (repeat (first | assumption | (with_reducible exact Below.refl _ _) | (with_reducible refine Below.drewN ?_ _) | (with_reducible refine Below.drew ?_) | (with_reducible refine Below.allocS ?_ _) | ((with_reducible refine Below.setCell ?_ ?_ _); rotate_left; focus (first | omega | (simp; done) | (simp; omega))) | (with_reducible refine Below.step ?_ (by assumption))))
  have hzzw2 := hBw2.size
  have Lu00 := Lib.hid (ownsRow_lt ow_u00)
  (try simp only [World.size_alloc, World.size_setCell, World.heap_drewN] at Lu00)
  have Ou00 := Lib.hid ow_u00
  have Ru00 := Lib.hid (ownsRow_rowAt ow_u00)
  clear ow_u00
  have Lu01 := Lib.hid (ownsRow_lt ow_u01)
  (try simp only [World.size_alloc, World.size_setCell, World.heap_drewN] at Lu01)
  have Ou01 := Lib.hid ow_u01
  have Ru01 := Lib.hid (ownsRow_rowAt ow_u01)
  clear ow_u01
  go_wp2_with fail
  refine (implEven_lit HBB.out _).mono ?_
  rintro e w4 ⟨vv00, vv01, rfl, ow_vv00, ow_vv01, ne_vv00_vv01, c4⟩
  obtain ⟨a_vv00, k_vv00, d_vv00, rfl⟩ := ownsRow_shape ow_vv00
  obtain ⟨a_vv01, k_vv01, d_vv01, rfl⟩ := ownsRow_shape ow_vv01
  have hkN := Held.below c4 (l := [(⟨w2.heap.size, 0, none⟩, .slice a_u00 k_u00 d_u00), (⟨w2.heap.size, 1, none⟩, .slice a_u01 k_u01 d_u01)]) (by simp [Held, go_sem, *])
  (try clear hk)
  have hk := hkN
  clear hkN
  simp only [Held, and_true] at hk
  have hBw4 : Below w.heap.size w w4 := by (repeat (first | assumption | (with_reducible exact Below.refl _ _) | (with_reducible refine Below.drewN ?_ _) | (with_reducible refine Below.drew ?_) | (with_reducible refine Below.allocS ?_ _) | ((with_reducible refine Below.setCell ?_ ?_ _); rotate_left; focus (first | omega | (simp; done) | (simp; omega))) | (with_reducible refine Below.step ?_ (by assumption))))
  have hzw4_0 : w2.heap.size < w4.heap.size := by omega
  have Lvv00 := Lib.hid (ownsRow_lt ow_vv00)
  (try simp only [World.size_alloc, World.size_setCell, World.heap_drewN] at Lvv00)
  have Ovv00 := Lib.hid ow_vv00
  have Rvv00 := Lib.hid (ownsRow_rowAt ow_vv00)
  clear ow_vv00
  have Lvv01 := Lib.hid (ownsRow_lt ow_vv01)
  (try simp only [World.size_alloc, World.size_setCell, World.heap_drewN] at Lvv01)
  have Ovv01 := Lib.hid ow_vv01
  have Rvv01 := Lib.hid (ownsRow_rowAt ow_vv01)
  clear ow_vv01
  have : ¬ w2.heap.size = w4.heap.size := by omega
  have B4 : Below w2.heap.size w2 w4 := by
    refine Below.step ?_ c4
    (repeat (first | (with_reducible exact Below.refl _ _) | (with_reducible refine Below.drewN ?_ _) | (with_reducible refine Below.drew ?_) | (with_reducible refine Below.allocS ?_ _) | ((with_reducible refine Below.setCell ?_ ?_ _); rotate_left; focus (first | omega | (simp; done) | (simp; omega)))))
  replace Ru00 := Lib.hid (Ru00.out.below B4)
  replace Ru01 := Lib.hid (Ru01.out.below B4)
  go_wp2_with fail
  refine (eqClocks_any _ _ (cN B i1.toNat) _ _ (cN B (i1.toNat * i1.toNat)) (cL B (evenL i1.toNat x2 i1.toNat)) (cL B (evenL i1.toNat x2 i1.toNat)) (cL B (evenR i1.toNat x3 i1.toNat)) (cL B (evenR i1.toNat x3 i1.toNat)) _ ?_ ?_ rfl ?_ ?_ rfl).mono ?_
  · refine RowAt.below Rvv00.out ?_
    (repeat (first | (with_reducible exact Below.refl _ _) | (with_reducible refine Below.drewN ?_ _) | (with_reducible refine Below.drew ?_) | (with_reducible refine Below.allocS ?_ _) | ((with_reducible refine Below.setCell ?_ ?_ _); rotate_left; focus (first | omega | (simp; done) | (simp; omega)))))
  · refine RowAt.below Ru00.out ?_
    (repeat (first | (with_reducible exact Below.refl _ _) | (with_reducible refine Below.drewN ?_ _) | (with_reducible refine Below.drew ?_) | (with_reducible refine Below.allocS ?_ _) | ((with_reducible refine Below.setCell ?_ ?_ _); rotate_left; focus (first | omega | (simp; done) | (simp; omega)))))
  · refine RowAt.below Rvv01.out ?_
    (repeat (first | (with_reducible exact Below.refl _ _) | (with_reducible refine Below.drewN ?_ _) | (with_reducible refine Below.drew ?_) | (with_reducible refine Below.allocS ?_ _) | ((with_reducible refine Below.setCell ?_ ?_ _); rotate_left; focus (first | omega | (simp; done) | (simp; omega)))))
  · refine RowAt.below Ru01.out ?_
    (repeat (first | (with_reducible exact Below.refl _ _) | (with_reducible refine Below.drewN ?_ _) | (with_reducible refine Below.drew ?_) | (with_reducible refine Below.allocS ?_ _) | ((with_reducible refine Below.setCell ?_ ?_ _); rotate_left; focus (first | omega | (simp; done) | (simp; omega)))))
  rintro e w5 ⟨rfl, c5x0⟩
  have hkN := Held.below c5x0 (l := [(⟨w2.heap.size, 0, none⟩, .slice a_u00 k_u00 d_u00), (⟨w2.heap.size, 1, none⟩, .slice a_u01 k_u01 d_u01), (⟨w4.heap.size, 0, none⟩, .slice a_vv00 k_vv00 d_vv00), (⟨w4.heap.size, 1, none⟩, .slice a_vv01 k_vv01 d_vv01)]) (by simp [Held, go_sem, *])
  (try clear hk)
  have hk := hkN
  clear hkN
  simp only [Held, and_true] at hk
  have hBw5 : Below w.heap.size w w5 := by (repeat (first | assumption | (with_reducible exact Below.refl _ _) | (with_reducible refine Below.drewN ?_ _) | (with_reducible refine Below.drew ?_) | (with_reducible refine Below.allocS ?_ _) | ((with_reducible refine Below.setCell ?_ ?_ _); rotate_left; focus (first | omega | (simp; done) | (simp; omega))) | (with_reducible refine Below.step ?_ (by assumption))))
  have hzw5_0 : w2.heap.size < w5.heap.size := by omega
  have hzw5_1 : w4.heap.size < w5.heap.size := by omega
  have B5 : Below w4.heap.size w4 w5 := by
    refine Below.step ?_ c5x0
    (repeat (first | (with_reducible exact Below.refl _ _) | (with_reducible refine Below.drewN ?_ _) | (with_reducible refine Below.drew ?_) | (with_reducible refine Below.allocS ?_ _) | ((with_reducible refine Below.setCell ?_ ?_ _); rotate_left; focus (first | omega | (simp; done) | (simp; omega)))))
  replace Ru00 := Lib.hid (Ru00.out.below B5)
  replace Ru01 := Lib.hid (Ru01.out.below B5)
  replace Rvv00 := Lib.hid (Rvv00.out.below B5)
  replace Rvv01 := Lib.hid (Rvv01.out.below B5)
  replace Ovv00 := Lib.hid (ownsRow_below Ovv00.out B5)
  replace Ovv01 := Lib.hid (ownsRow_below Ovv01.out B5)
  go_wp2_with fail
  go_wp2_with fail
  refine (markClocks_any _ _ _ _ _ _ _ _ (1) _ Ovv00.out (by omega) Ovv01.out (by omega) ne_vv00_vv01 (by omega)).mono ?_
  rintro e w9x0 ⟨rfl, ow0, ow1, K9⟩
  have r9 := range_two Lvv00.out Lvv01.out
  have hkN := Held_range K9 r9 (l := [(⟨w2.heap.size, 0, none⟩, .slice a_u00 k_u00 d_u00), (⟨w2.heap.size, 1, none⟩, .slice a_u01 k_u01 d_u01), (⟨w4.heap.size, 0, none⟩, .slice a_vv00 k_vv00 d_vv00), (⟨w4.heap.size, 1, none⟩, .slice a_vv01 k_vv01 d_vv01)]) (by simp only [List.mem_cons, List.not_mem_nil, or_false, forall_eq_or_imp, forall_eq]; omega) (by simp [Held, go_sem, *])
  (try clear hk)
  have hk := hkN
  clear hkN
  simp only [Held, and_true] at hk
  have C9 : Below w.heap.size w5 w9x0 := Below_range K9 r9 (by omega) (by have := hBw5.size; omega)
  have hBw9x0 : Below w.heap.size w w9x0 := hBw5.trans C9
  replace Ru00 := Lib.hid (RowAt_range K9 r9 (fun i hi => by have := Lu00.out i hi; omega) Ru00.out)
  replace Ru01 := Lib.hid (RowAt_range K9 r9 (fun i hi => by have := Lu01.out i hi; omega) Ru01.out)
  have Mvv00 := Lib.hid (ownsRow_rowAt ow0)
  clear Rvv00 ow0
  have Mvv01 := Lib.hid (ownsRow_rowAt ow1)
  clear Rvv01 ow1
  clear K9 r9 C9
  go_wp2_with fail
  refine (heldClocks_any _ _ (cN B i1.toNat) (cN B (i1.toNat * i1.toNat)) (1) _ ?_ ?_ (by omega) (by omega) (by omega)).mono ?_
  · refine RowAt.below Mvv00.out ?_
    (repeat (first | assumption | (with_reducible exact Below.refl _ _) | (with_reducible refine Below.drewN ?_ _) | (with_reducible refine Below.drew ?_) | (with_reducible refine Below.allocS ?_ _) | ((with_reducible refine Below.setCell ?_ ?_ _); rotate_left; focus (first | omega | (simp; done) | (simp; omega))) | (with_reducible refine Below.step ?_ (by assumption))))
  · refine RowAt.below Mvv01.out ?_
    (repeat (first | assumption | (with_reducible exact Below.refl _ _) | (with_reducible refine Below.drewN ?_ _) | (with_reducible refine Below.drew ?_) | (with_reducible refine Below.allocS ?_ _) | ((with_reducible refine Below.setCell ?_ ?_ _); rotate_left; focus (first | omega | (simp; done) | (simp; omega))) | (with_reducible refine Below.step ?_ (by assumption))))
  rintro e w10x0 ⟨rfl, cw10x0⟩
  have hkN := Held.below cw10x0 (l := [(⟨w2.heap.size, 0, none⟩, .slice a_u00 k_u00 d_u00), (⟨w2.heap.size, 1, none⟩, .slice a_u01 k_u01 d_u01), (⟨w4.heap.size, 0, none⟩, .slice a_vv00 k_vv00 d_vv00), (⟨w4.heap.size, 1, none⟩, .slice a_vv01 k_vv01 d_vv01)]) (by simp [Held, go_sem, *])
  (try clear hk)
  have hk := hkN
  clear hkN
  simp only [Held, and_true] at hk
  have hBw10x0 : Below w.heap.size w w10x0 := by (repeat (first | assumption | (with_reducible exact Below.refl _ _) | (with_reducible refine Below.drewN ?_ _) | (with_reducible refine Below.drew ?_) | (with_reducible refine Below.allocS ?_ _) | ((with_reducible refine Below.setCell ?_ ?_ _); rotate_left; focus (first | omega | (simp; done) | (simp; omega))) | (with_reducible refine Below.step ?_ (by assumption))))
  have hzw10x0_0 : w2.heap.size < w10x0.heap.size := by omega
  have hzw10x0_1 : w4.heap.size < w10x0.heap.size := by omega
  have B9 : Below w9x0.heap.size w9x0 w10x0 := by
    refine Below.step ?_ cw10x0
    (repeat (first | (with_reducible exact Below.refl _ _) | (with_reducible refine Below.drewN ?_ _) | (with_reducible refine Below.drew ?_) | (with_reducible refine Below.allocS ?_ _) | ((with_reducible refine Below.setCell ?_ ?_ _); rotate_left; focus (first | omega | (simp; done) | (simp; omega)))))
  replace Ru00 := Lib.hid (Ru00.out.below B9)
  replace Ru01 := Lib.hid (Ru01.out.below B9)
  replace Mvv00 := Lib.hid (Mvv00.out.below B9)
  replace Mvv01 := Lib.hid (Mvv01.out.below B9)
  clear B9
  go_wp2_with fail
  refine (implEven_lit HBB.out _).mono ?_
  rintro e w12 ⟨h00, h01, rfl, ow_h00, ow_h01, ne_h00_h01, c12⟩
  obtain ⟨a_h00, k_h00, d_h00, rfl⟩ := ownsRow_shape ow_h00
  obtain ⟨a_h01, k_h01, d_h01, rfl⟩ := ownsRow_shape ow_h01
  have hkN := Held.below c12 (l := [(⟨w2.heap.size, 0, none⟩, .slice a_u00 k_u00 d_u00), (⟨w2.heap.size, 1, none⟩, .slice a_u01 k_u01 d_u01), (⟨w4.heap.size, 0, none⟩, .slice a_vv00 k_vv00 d_vv00), (⟨w4.heap.size, 1, none⟩, .slice a_vv01 k_vv01 d_vv01)]) (by simp [Held, go_sem, *])
  (try clear hk)
  have hk := hkN
  clear hkN
  simp only [Held, and_true] at hk
  have hBw12 : Below w.heap.size w w12 := by (repeat (first | assumption | (with_reducible exact Below.refl _ _) | (with_reducible refine Below.drewN ?_ _) | (with_reducible refine Below.drew ?_) | (with_reducible refine Below.allocS ?_ _) | ((with_reducible refine Below.setCell ?_ ?_ _); rotate_left; focus (first | omega | (simp; done) | (simp; omega))) | (with_reducible refine Below.step ?_ (by assumption))))
  have hzw12_0 : w2.heap.size < w12.heap.size := by omega
  have hzw12_1 : w4.heap.size < w12.heap.size := by omega
  have Lh00 := Lib.hid (ownsRow_lt ow_h00)
  (try simp only [World.size_alloc, World.size_setCell, World.heap_drewN] at Lh00)
  have Oh00 := Lib.hid ow_h00
  have Rh00 := Lib.hid (ownsRow_rowAt ow_h00)
  clear ow_h00
  have Lh01 := Lib.hid (ownsRow_lt ow_h01)
  (try simp only [World.size_alloc, World.size_setCell, World.heap_drewN] at Lh01)
  have Oh01 := Lib.hid ow_h01
  have Rh01 := Lib.hid (ownsRow_rowAt ow_h01)
  clear ow_h01
  have : ¬ w2.heap.size = w12.heap.size := by omega
  have : ¬ w4.heap.size = w12.heap.size := by omega
  have B12 : Below w10x0.heap.size w10x0 w12 := by
    refine Below.step ?_ c12
    (repeat (first | (with_reducible exact Below.refl _ _) | (with_reducible refine Below.drewN ?_ _) | (with_reducible refine Below.drew ?_) | (with_reducible refine Below.allocS ?_ _) | ((with_reducible refine Below.setCell ?_ ?_ _); rotate_left; focus (first | omega | (simp; done) | (simp; omega)))))
  replace Ru00 := Lib.hid (Ru00.out.below B12)
  replace Ru01 := Lib.hid (Ru01.out.below B12)
  replace Mvv00 := Lib.hid (Mvv00.out.below B12)
  replace Mvv01 := Lib.hid (Mvv01.out.below B12)
  go_wp2_with fail
  refine (eqClocks_any _ _ (cN B i1.toNat) _ _ (cN B (i1.toNat * i1.toNat)) (cL B (evenL i1.toNat x2 i1.toNat)) (cL B (evenL i1.toNat x2 i1.toNat)) (cL B (evenR i1.toNat x3 i1.toNat)) (cL B (evenR i1.toNat x3 i1.toNat)) _ ?_ ?_ rfl ?_ ?_ rfl).mono ?_
  · refine RowAt.below Rh00.out ?_
    (repeat (first | (with_reducible exact Below.refl _ _) | (with_reducible refine Below.drewN ?_ _) | (with_reducible refine Below.drew ?_) | (with_reducible refine Below.allocS ?_ _) | ((with_reducible refine Below.setCell ?_ ?_ _); rotate_left; focus (first | omega | (simp; done) | (simp; omega)))))
  · refine RowAt.below Ru00.out ?_
    (repeat (first | (with_reducible exact Below.refl _ _) | (with_reducible refine Below.drewN ?_ _) | (with_reducible refine Below.drew ?_) | (with_reducible refine Below.allocS ?_ _) | ((with_reducible refine Below.setCell ?_ ?_ _); rotate_left; focus (first | omega | (simp; done) | (simp; omega)))))
  · refine RowAt.below Rh01.out ?_
    (repeat (first | (with_reducible exact Below.refl _ _) | (with_reducible refine Below.drewN ?_ _) | (with_reducible refine Below.drew ?_) | (with_reducible refine Below.allocS ?_ _) | ((with_reducible refine Below.setCell ?_ ?_ _); rotate_left; focus (first | omega | (simp; done) | (simp; omega)))))
  · refine RowAt.below Ru01.out ?_
    (repeat (first | (with_reducible exact Below.refl _ _) | (with_reducible refine Below.drewN ?_ _) | (with_reducible refine Below.drew ?_) | (with_reducible refine Below.allocS ?_ _) | ((with_reducible refine Below.setCell ?_ ?_ _); rotate_left; focus (first | omega | (simp; done) | (simp; omega)))))
  rintro e w13 ⟨rfl, c13x0⟩
  have hkN := Held.below c13x0 (l := [(⟨w2.heap.size, 0, none⟩, .slice a_u00 k_u00 d_u00), (⟨w2.heap.size, 1, none⟩, .slice a_u01 k_u01 d_u01), (⟨w4.heap.size, 0, none⟩, .slice a_vv00 k_vv00 d_vv00), (⟨w4.heap.size, 1, none⟩, .slice a_vv01 k_vv01 d_vv01), (⟨w12.heap.size, 0, none⟩, .slice a_h00 k_h00 d_h00), (⟨w12.heap.size, 1, none⟩, .slice a_h01 k_h01 d_h01)]) (by simp [Held, go_sem, *])
  (try clear hk)
  have hk := hkN
  clear hkN
  simp only [Held, and_true] at hk
  have hBw13 : Below w.heap.size w w13 := by (repeat (first | assumption | (with_reducible exact Below.refl _ _) | (with_reducible refine Below.drewN ?_ _) | (with_reducible refine Below.drew ?_) | (with_reducible refine Below.allocS ?_ _) | ((with_reducible refine Below.setCell ?_ ?_ _); rotate_left; focus (first | omega | (simp; done) | (simp; omega))) | (with_reducible refine Below.step ?_ (by assumption))))
  have hzw13_0 : w2.heap.size < w13.heap.size := by omega
  have hzw13_1 : w4.heap.size < w13.heap.size := by omega
  have hzw13_2 : w12.heap.size < w13.heap.size := by omega
  have B13 : Below w12.heap.size w12 w13 := by
    refine Below.step ?_ c13x0
    (repeat (first | (with_reducible exact Below.refl _ _) | (with_reducible refine Below.drewN ?_ _) | (with_reducible refine Below.drew ?_) | (with_reducible refine Below.allocS ?_ _) | ((with_reducible refine Below.setCell ?_ ?_ _); rotate_left; focus (first | omega | (simp; done) | (simp; omega)))))
  replace Ru00 := Lib.hid (Ru00.out.below B13)
  replace Ru01 := Lib.hid (Ru01.out.below B13)
  replace Mvv00 := Lib.hid (Mvv00.out.below B13)
  replace Mvv01 := Lib.hid (Mvv01.out.below B13)
  go_wp2_with fail
  go_wp2_with fail
  refine (heldClocks_any _ _ (cN B i1.toNat) (cN B (i1.toNat * i1.toNat)) (1) _ ?_ ?_ (by omega) (by omega) (by omega)).mono ?_
  · refine RowAt.below Mvv00.out ?_
    (repeat (first | assumption | (with_reducible exact Below.refl _ _) | (with_reducible refine Below.drewN ?_ _) | (with_reducible refine Below.drew ?_) | (with_reducible refine Below.allocS ?_ _) | ((with_reducible refine Below.setCell ?_ ?_ _); rotate_left; focus (first | omega | (simp; done) | (simp; omega))) | (with_reducible refine Below.step ?_ (by assumption))))
  · refine RowAt.below Mvv01.out ?_
    (repeat (first | assumption | (with_reducible exact Below.refl _ _) | (with_reducible refine Below.drewN ?_ _) | (with_reducible refine Below.drew ?_) | (with_reducible refine Below.allocS ?_ _) | ((with_reducible refine Below.setCell ?_ ?_ _); rotate_left; focus (first | omega | (simp; done) | (simp; omega))) | (with_reducible refine Below.step ?_ (by assumption))))
  rintro e w14x0 ⟨rfl, cw14x0⟩
  have hkN := Held.below cw14x0 (l := [(⟨w2.heap.size, 0, none⟩, .slice a_u00 k_u00 d_u00), (⟨w2.heap.size, 1, none⟩, .slice a_u01 k_u01 d_u01), (⟨w4.heap.size, 0, none⟩, .slice a_vv00 k_vv00 d_vv00), (⟨w4.heap.size, 1, none⟩, .slice a_vv01 k_vv01 d_vv01), (⟨w12.heap.size, 0, none⟩, .slice a_h00 k_h00 d_h00), (⟨w12.heap.size, 1, none⟩, .slice a_h01 k_h01 d_h01)]) (by simp [Held, go_sem, *])
  (try clear hk)
  have hk := hkN
  clear hkN
  simp only [Held, and_true] at hk
  have hBw14x0 : Below w.heap.size w w14x0 := by (repeat (first | assumption | (with_reducible exact Below.refl _ _) | (with_reducible refine Below.drewN ?_ _) | (with_reducible refine Below.drew ?_) | (with_reducible refine Below.allocS ?_ _) | ((with_reducible refine Below.setCell ?_ ?_ _); rotate_left; focus (first | omega | (simp; done) | (simp; omega))) | (with_reducible refine Below.step ?_ (by assumption))))
  have hzw14x0_0 : w2.heap.size < w14x0.heap.size := by omega
  have hzw14x0_1 : w4.heap.size < w14x0.heap.size := by omega
  have hzw14x0_2 : w12.heap.size < w14x0.heap.size := by omega
  have B9 : Below w13.heap.size w13 w14x0 := by
    refine Below.step ?_ cw14x0
    (repeat (first | (with_reducible exact Below.refl _ _) | (with_reducible refine Below.drewN ?_ _) | (with_reducible refine Below.drew ?_) | (with_reducible refine Below.allocS ?_ _) | ((with_reducible refine Below.setCell ?_ ?_ _); rotate_left; focus (first | omega | (simp; done) | (simp; omega)))))
  replace Ru00 := Lib.hid (Ru00.out.below B9)
  replace Ru01 := Lib.hid (Ru01.out.below B9)
  replace Mvv00 := Lib.hid (Mvv00.out.below B9)
  replace Mvv01 := Lib.hid (Mvv01.out.below B9)
  clear B9
  go_wp2_with fail
  go_ret
  refine ⟨rfl, ?_⟩
  (repeat (first | assumption | (with_reducible exact Below.refl _ _) | (with_reducible refine Below.drewN ?_ _) | (with_reducible refine Below.drew ?_) | (with_reducible refine Below.allocS ?_ _) | ((with_reducible refine Below.setCell ?_ ?_ _); rotate_left; focus (first | omega | (simp; done) | (simp; omega))) | (with_reducible refine Below.step ?_ (by assumption))))

end Go.Proofs.Ytifdcoambehekaa
