/-
  The law GroupsOf.
-/
import Derived.Test.YtifdcoambehekaaGb
import Derived.Test.YtifdcoambehekaaGd
set_option linter.unusedVariables false
set_option linter.unusedSimpArgs false
namespace Go.Proofs.Ytifdcoambehekaa
open Go.RowKit

theorem specGroups_lit {n m : Nat} {l lk : List Nat} {y : Nat} {B : Bool} {Z : Int} (hB : clocksB n l m lk = B) (hZ : (if B then ((groupsOf l y n).2 : Int) else 0) = Z) (v v' : Value) (w : World) (h : RowAt w v 2 n (fl l)) (h' : RowAt w v' 1 m (fl lk)) : Calls Try.prog 43 #[.agg #[v, v'], .float .f32 y] w (GiveI (cN B n) (cZ B (groupsOf l y n).1) Z B w) := by
  subst hB
  subst hZ
  exact specGroups_any v v' n m l lk y w h h'

theorem implGroups_lit {n m : Nat} {l lk : List Nat} {y : Nat} {B : Bool} {Z : Int} (hB : clocksB n l m lk = B) (hZ : (if B then ((groupsOf l y n).2 : Int) else 0) = Z) (v v' : Value) (w : World) (h : RowAt w v 2 n (fl l)) (h' : RowAt w v' 1 m (fl lk)) : Calls Try.prog 44 #[.agg #[v, v'], .float .f32 y] w (GiveI (cN B n) (cZ B (groupsOf l y n).1) Z B w) := by
  subst hB
  subst hZ
  exact implGroups_any v v' n m l lk y w h h'

set_option maxRecDepth 100000 in
set_option maxHeartbeats 8000000 in
theorem lawGroupsOf_walk (v0 : Value) (n0 : Nat) (l0 : List Nat) (v1 : Value) (n1 : Nat) (l1 : List Nat) (y2 : Nat) (w : World) (h0 : RowAt w v0 2 n0 (fl l0)) (h1 : RowAt w v1 1 n1 (fl l1)) (hb0 : ∀ x ∈ l0, x < 4294967296) (hb1 : ∀ x ∈ l1, x < 4294967296) (hb_y2 : y2 < 4294967296) : Calls Try.prog 11 #[.agg #[v0, v1], .float .f32 y2] w fun e w' => e = .returned (.bool true) ∧ Below w.heap.size w w' := by
  have H0 := Lib.hid h0
  have H1 := Lib.hid h1
  have HB0 := Lib.hid hb0
  clear hb0
  have HB1 := Lib.hid hb1
  clear hb1
  clear h0 h1
  go_enter Try.func11, Try.ntmps11
  obtain ⟨B, hB⟩ : ∃ B, clocksB n0 l0 n1 l1 = B := ⟨_, rfl⟩
  obtain ⟨Z, hZ⟩ : ∃ Z, (if B then ((groupsOf l0 y2 n0).2 : Int) else 0) = Z := ⟨_, rfl⟩
  have hN9 : cN B n0 ≤ 12 := by
    cases B
    · exact Nat.zero_le _
    · exact (clocks_parts hB).2.1
  have HBB := Lib.hid hB
  have HZZ := Lib.hid hZ
  clear hB hZ
  go_wp2_with fail
  refine (szClocks_any v0 n0 (fl l0) v1 n1 (fl l1) (1048576) _ ?_ ?_ (by omega)).mono ?_
  · refine RowAt.below H0.out ?_
    (repeat (first | assumption | (with_reducible exact Below.refl _ _) | (with_reducible refine Below.drewN ?_ _) | (with_reducible refine Below.drew ?_) | (with_reducible refine Below.allocS ?_ _) | ((with_reducible refine Below.setCell ?_ ?_ _); rotate_left; focus (first | omega | (simp; done) | (simp; omega))) | (with_reducible refine Below.step ?_ (by assumption))))
  · refine RowAt.below H1.out ?_
    (repeat (first | assumption | (with_reducible exact Below.refl _ _) | (with_reducible refine Below.drewN ?_ _) | (with_reducible refine Below.drew ?_) | (with_reducible refine Below.allocS ?_ _) | ((with_reducible refine Below.setCell ?_ ?_ _); rotate_left; focus (first | omega | (simp; done) | (simp; omega))) | (with_reducible refine Below.step ?_ (by assumption))))
  rintro e ws0 ⟨rfl, hcs0⟩
  have hk := Held.below hcs0 (l := [(⟨w.heap.size, 0, none⟩, v0), (⟨w.heap.size, 1, none⟩, v1)]) (by simp [Held, go_sem, *])
  simp only [Held, and_true] at hk
  have hBs0 : Below w.heap.size w ws0 := by (repeat (first | assumption | (with_reducible exact Below.refl _ _) | (with_reducible refine Below.drewN ?_ _) | (with_reducible refine Below.drew ?_) | (with_reducible refine Below.allocS ?_ _) | ((with_reducible refine Below.setCell ?_ ?_ _); rotate_left; focus (first | omega | (simp; done) | (simp; omega))) | (with_reducible refine Below.step ?_ (by assumption))))
  clear hcs0
  by_cases hs0 : n0 + n1 ≤ 1048576
  case neg =>
    rw [if_neg hs0]
    go_wp2_with fail
    go_ret
    refine ⟨rfl, ?_⟩
    (repeat (first | assumption | (with_reducible exact Below.refl _ _) | (with_reducible refine Below.drewN ?_ _) | (with_reducible refine Below.drew ?_) | (with_reducible refine Below.allocS ?_ _) | ((with_reducible refine Below.setCell ?_ ?_ _); rotate_left; focus (first | omega | (simp; done) | (simp; omega))) | (with_reducible refine Below.step ?_ (by assumption))))
  rw [if_pos hs0]
  go_wp2_with fail
  refine (toClocks_any v0 n0 v1 n1 l0 l1 _ ?_ ?_ (by omega) (by omega)).mono ?_
  · refine RowAt.below H0.out ?_
    (repeat (first | assumption | (with_reducible exact Below.refl _ _) | (with_reducible refine Below.drewN ?_ _) | (with_reducible refine Below.drew ?_) | (with_reducible refine Below.allocS ?_ _) | ((with_reducible refine Below.setCell ?_ ?_ _); rotate_left; focus (first | omega | (simp; done) | (simp; omega))) | (with_reducible refine Below.step ?_ (by assumption))))
  · refine RowAt.below H1.out ?_
    (repeat (first | assumption | (with_reducible exact Below.refl _ _) | (with_reducible refine Below.drewN ?_ _) | (with_reducible refine Below.drew ?_) | (with_reducible refine Below.allocS ?_ _) | ((with_reducible refine Below.setCell ?_ ?_ _); rotate_left; focus (first | omega | (simp; done) | (simp; omega))) | (with_reducible refine Below.step ?_ (by assumption))))
  rintro e w1 ⟨ga0, ga1, rfl, oa0, oa1, oane0, c1⟩
  have hkN := Held.below c1 (l := [(⟨w.heap.size, 0, none⟩, v0), (⟨w.heap.size, 1, none⟩, v1)]) (by simp [Held, go_sem, *])
  (try clear hk)
  have hk := hkN
  clear hkN
  simp only [Held, and_true] at hk
  have hBw1 : Below w.heap.size w w1 := by (repeat (first | assumption | (with_reducible exact Below.refl _ _) | (with_reducible refine Below.drewN ?_ _) | (with_reducible refine Below.drew ?_) | (with_reducible refine Below.allocS ?_ _) | ((with_reducible refine Below.setCell ?_ ?_ _); rotate_left; focus (first | omega | (simp; done) | (simp; omega))) | (with_reducible refine Below.step ?_ (by assumption))))
  have hzw1_0 : w.heap.size < w1.heap.size := by omega
  go_wp2_with fail
  refine (specGroups_lit HBB.out HZZ.out _ _ _ (ownsRow_rowAt oa0) (ownsRow_rowAt oa1)).mono ?_
  rintro e w2 ⟨u0, rfl, ow_u0, c2⟩
  have hkN := Held.below c2 (l := [(⟨w.heap.size, 0, none⟩, v0), (⟨w.heap.size, 1, none⟩, v1)]) (by simp [Held, go_sem, *])
  (try clear hk)
  have hk := hkN
  clear hkN
  simp only [Held, and_true] at hk
  have hBw2 : Below w.heap.size w w2 := by (repeat (first | assumption | (with_reducible exact Below.refl _ _) | (with_reducible refine Below.drewN ?_ _) | (with_reducible refine Below.drew ?_) | (with_reducible refine Below.allocS ?_ _) | ((with_reducible refine Below.setCell ?_ ?_ _); rotate_left; focus (first | omega | (simp; done) | (simp; omega))) | (with_reducible refine Below.step ?_ (by assumption))))
  have hzw2_0 : w.heap.size < w2.heap.size := by omega
  have Lu0 := Lib.hid (ownsRow_lt ow_u0)
  (try simp only [World.size_alloc, World.size_setCell, World.heap_drewN] at Lu0)
  have Ou0 := Lib.hid ow_u0
  have Ru0 := Lib.hid (ownsRow_rowAt ow_u0)
  clear ow_u0
  clear oa0 oa1
  go_wp2_with fail
  refine (toClocks_any v0 n0 v1 n1 l0 l1 _ ?_ ?_ (by omega) (by omega)).mono ?_
  · refine RowAt.below H0.out ?_
    (repeat (first | assumption | (with_reducible exact Below.refl _ _) | (with_reducible refine Below.drewN ?_ _) | (with_reducible refine Below.drew ?_) | (with_reducible refine Below.allocS ?_ _) | ((with_reducible refine Below.setCell ?_ ?_ _); rotate_left; focus (first | omega | (simp; done) | (simp; omega))) | (with_reducible refine Below.step ?_ (by assumption))))
  · refine RowAt.below H1.out ?_
    (repeat (first | assumption | (with_reducible exact Below.refl _ _) | (with_reducible refine Below.drewN ?_ _) | (with_reducible refine Below.drew ?_) | (with_reducible refine Below.allocS ?_ _) | ((with_reducible refine Below.setCell ?_ ?_ _); rotate_left; focus (first | omega | (simp; done) | (simp; omega))) | (with_reducible refine Below.step ?_ (by assumption))))
  rintro e w3 ⟨g0, g1, rfl, o0, o1, one0, c3⟩
  have hkN := Held.below c3 (l := [(⟨w.heap.size, 0, none⟩, v0), (⟨w.heap.size, 1, none⟩, v1)]) (by simp [Held, go_sem, *])
  (try clear hk)
  have hk := hkN
  clear hkN
  simp only [Held, and_true] at hk
  have hBw3 : Below w.heap.size w w3 := by (repeat (first | assumption | (with_reducible exact Below.refl _ _) | (with_reducible refine Below.drewN ?_ _) | (with_reducible refine Below.drew ?_) | (with_reducible refine Below.allocS ?_ _) | ((with_reducible refine Below.setCell ?_ ?_ _); rotate_left; focus (first | omega | (simp; done) | (simp; omega))) | (with_reducible refine Below.step ?_ (by assumption))))
  have hzw3_0 : w.heap.size < w3.heap.size := by omega
  have B3 : Below w2.heap.size w2 w3 := by
    refine Below.step ?_ c3
    (repeat (first | (with_reducible exact Below.refl _ _) | (with_reducible refine Below.drewN ?_ _) | (with_reducible refine Below.drew ?_) | (with_reducible refine Below.allocS ?_ _) | ((with_reducible refine Below.setCell ?_ ?_ _); rotate_left; focus (first | omega | (simp; done) | (simp; omega)))))
  replace Ru0 := Lib.hid (Ru0.out.below B3)
  have : ¬ w.heap.size = w3.heap.size := by omega
  have X0 := ownsRow_lt o0 _ rfl
  have X1 := ownsRow_lt o1 _ rfl
  simp only [World.size_alloc, World.size_setCell] at X0 X1
  have P0 := Lib.hid o0
  have P1 := Lib.hid o1
  go_wp2_with fail
  refine (implGroups_lit HBB.out HZZ.out _ _ _ ((ownsRow_rowAt o0).below (by (repeat (first | (with_reducible exact Below.refl _ _) | (with_reducible refine Below.drewN ?_ _) | (with_reducible refine Below.drew ?_) | (with_reducible refine Below.allocS ?_ _) | ((with_reducible refine Below.setCell ?_ ?_ _); rotate_left; focus (first | omega | (simp; done) | (simp; omega))))))) ((ownsRow_rowAt o1).below (by (repeat (first | (with_reducible exact Below.refl _ _) | (with_reducible refine Below.drewN ?_ _) | (with_reducible refine Below.drew ?_) | (with_reducible refine Below.allocS ?_ _) | ((with_reducible refine Below.setCell ?_ ?_ _); rotate_left; focus (first | omega | (simp; done) | (simp; omega)))))))).mono ?_
  rintro e w4 ⟨vv0, rfl, ow_vv0, c4⟩
  have hkN := Held.below c4 (l := [(⟨w.heap.size, 0, none⟩, v0), (⟨w.heap.size, 1, none⟩, v1), (⟨w3.heap.size, 0, none⟩, .slice (some ⟨g0, 0, none⟩) n0 n0), (⟨w3.heap.size, 1, none⟩, .slice (some ⟨g1, 0, none⟩) n1 n1)]) (by simp [Held, go_sem, *])
  (try clear hk)
  have hk := hkN
  clear hkN
  simp only [Held, and_true] at hk
  have hBw4 : Below w.heap.size w w4 := by (repeat (first | assumption | (with_reducible exact Below.refl _ _) | (with_reducible refine Below.drewN ?_ _) | (with_reducible refine Below.drew ?_) | (with_reducible refine Below.allocS ?_ _) | ((with_reducible refine Below.setCell ?_ ?_ _); rotate_left; focus (first | omega | (simp; done) | (simp; omega))) | (with_reducible refine Below.step ?_ (by assumption))))
  have hzw4_0 : w.heap.size < w4.heap.size := by omega
  have hzw4_1 : w3.heap.size < w4.heap.size := by omega
  have Lvv0 := Lib.hid (ownsRow_lt ow_vv0)
  (try simp only [World.size_alloc, World.size_setCell, World.heap_drewN] at Lvv0)
  have Ovv0 := Lib.hid ow_vv0
  have Rvv0 := Lib.hid (ownsRow_rowAt ow_vv0)
  clear ow_vv0
  clear o0 o1
  have B4 : Below w3.heap.size w3 w4 := by
    refine Below.step ?_ c4
    (repeat (first | (with_reducible exact Below.refl _ _) | (with_reducible refine Below.drewN ?_ _) | (with_reducible refine Below.drew ?_) | (with_reducible refine Below.allocS ?_ _) | ((with_reducible refine Below.setCell ?_ ?_ _); rotate_left; focus (first | omega | (simp; done) | (simp; omega)))))
  replace Ru0 := Lib.hid (Ru0.out.below B4)
  replace P0 := Lib.hid (ownsRow_below P0.out B4)
  replace P1 := Lib.hid (ownsRow_below P1.out B4)
  go_wp2_with fail
  refine (eqInt64S_any _ _ (cN B n0) (cZ B (groupsOf l0 y2 n0).1) _ ?_ ?_).mono ?_
  · refine RowAt.below Rvv0.out ?_
    (repeat (first | (with_reducible exact Below.refl _ _) | (with_reducible refine Below.drewN ?_ _) | (with_reducible refine Below.drew ?_) | (with_reducible refine Below.allocS ?_ _) | ((with_reducible refine Below.setCell ?_ ?_ _); rotate_left; focus (first | omega | (simp; done) | (simp; omega)))))
  · refine RowAt.below Ru0.out ?_
    (repeat (first | (with_reducible exact Below.refl _ _) | (with_reducible refine Below.drewN ?_ _) | (with_reducible refine Below.drew ?_) | (with_reducible refine Below.allocS ?_ _) | ((with_reducible refine Below.setCell ?_ ?_ _); rotate_left; focus (first | omega | (simp; done) | (simp; omega)))))
  rintro e w5 ⟨rfl, c5x0⟩
  have hkN := Held.below c5x0 (l := [(⟨w.heap.size, 0, none⟩, v0), (⟨w.heap.size, 1, none⟩, v1), (⟨w3.heap.size, 0, none⟩, .slice (some ⟨g0, 0, none⟩) n0 n0), (⟨w3.heap.size, 1, none⟩, .slice (some ⟨g1, 0, none⟩) n1 n1)]) (by simp [Held, go_sem, *])
  (try clear hk)
  have hk := hkN
  clear hkN
  simp only [Held, and_true] at hk
  have hBw5 : Below w.heap.size w w5 := by (repeat (first | assumption | (with_reducible exact Below.refl _ _) | (with_reducible refine Below.drewN ?_ _) | (with_reducible refine Below.drew ?_) | (with_reducible refine Below.allocS ?_ _) | ((with_reducible refine Below.setCell ?_ ?_ _); rotate_left; focus (first | omega | (simp; done) | (simp; omega))) | (with_reducible refine Below.step ?_ (by assumption))))
  have hzw5_0 : w.heap.size < w5.heap.size := by omega
  have hzw5_1 : w3.heap.size < w5.heap.size := by omega
  have B5 : Below w4.heap.size w4 w5 := by
    refine Below.step ?_ c5x0
    (repeat (first | (with_reducible exact Below.refl _ _) | (with_reducible refine Below.drewN ?_ _) | (with_reducible refine Below.drew ?_) | (with_reducible refine Below.allocS ?_ _) | ((with_reducible refine Below.setCell ?_ ?_ _); rotate_left; focus (first | omega | (simp; done) | (simp; omega)))))
  replace Ru0 := Lib.hid (Ru0.out.below B5)
  replace Rvv0 := Lib.hid (Rvv0.out.below B5)
  replace Ovv0 := Lib.hid (ownsRow_below Ovv0.out B5)
  replace P0 := Lib.hid (ownsRow_below P0.out B5)
  replace P1 := Lib.hid (ownsRow_below P1.out B5)
  go_wp2_with fail
  have R0 := Lib.hid (ownsRow_rowAt P0.out)
  have R1 := Lib.hid (ownsRow_rowAt P1.out)
  have hst : stableV [(2, 57, (fun v w => ∃ s0 s1, v = .agg #[s0, s1] ∧ RowAt w s0 2 n0 (fl l0) ∧ RowAt w s1 1 n1 (fl l1)))] := by
    intro q hq
    obtain rfl := List.mem_singleton.1 hq
    intro v w w' hb hh
    obtain ⟨s0, s1, rfl, r0, r1⟩ := hh; exact ⟨s0, s1, rfl, r0.below hb, r1.below hb⟩
  refine region_calmV w5 [(⟨w.heap.size, 0, none⟩, v0), (⟨w.heap.size, 1, none⟩, v1), (⟨w3.heap.size, 0, none⟩, .slice (some ⟨g0, 0, none⟩) n0 n0), (⟨w3.heap.size, 1, none⟩, .slice (some ⟨g1, 0, none⟩) n1 n1)] (fun f _ v => (f = 22 ∧ ∃ s0 s1, v = .agg #[s0, s1]) ∨ (f = 17 ∧ v = .bool true)) [(2, 57, (fun v w => ∃ s0 s1, v = .agg #[s0, s1] ∧ RowAt w s0 2 n0 (fl l0) ∧ RowAt w s1 1 n1 (fl l1)))] (by kernel_rfl) (by kernel_rfl) (by kernel_rfl) ⟨by simp [Held, go_sem, *], by (repeat (first | assumption | (with_reducible exact Below.refl _ _) | (with_reducible refine Below.drewN ?_ _) | (with_reducible refine Below.drew ?_) | (with_reducible refine Below.allocS ?_ _) | ((with_reducible refine Below.setCell ?_ ?_ _); rotate_left; focus (first | omega | (simp; done) | (simp; omega))) | (with_reducible refine Below.step ?_ (by assumption))))⟩ ?_
  repeat (first | (first | (refine calmV_plain hst rfl rfl ?_ (fun K hK w1 hC => ?_); (focus (intro _ _; simp [RVF]; done)); have hC' := hC.1; simp only [Held, and_true] at hC'; go_wp2_with (first | (refine wpList_fbin rfl rfl rfl rfl rfl (fun r n hr => ?_)) | (refine wpList_widen rfl rfl Try.underlying44 Try.underlying22 rfl (fun r n hr => ?_))); refine ⟨rfl, (by first | exact Below.refl _ _ | exact below_drewN _), hK _ ?_⟩; clear hC hC' hK K w1) | (refine calmV_check rfl rfl rfl ?_ ?_; (focus (intro _ _; simp [RVF]; done))) | (refine calmV_skip rfl ?_ ?_; (focus (intro _ _; simp [RVF]; done)); simp [Act.put])) | (refine calmV_call (f := 22) (args := _) hst rfl (by (intro w1; simp [execOp, resolve, invoke, go_sem]; with_reducible rfl)) (fun w1 hC hD => ?_) ?_; (focus (refine (toClocks_any v0 n0 v1 n1 l0 l1 _ ?_ ?_ (by omega) (by omega)).mono ?_; (focus (refine RowAt.below H0.out ?_; have hB9 := hC.2; (repeat (first | assumption | (with_reducible exact Below.refl _ _) | (with_reducible refine Below.drewN ?_ _) | (with_reducible refine Below.drew ?_) | (with_reducible refine Below.allocS ?_ _) | ((with_reducible refine Below.setCell ?_ ?_ _); rotate_left; focus (first | omega | (simp; done) | (simp; omega))) | (with_reducible refine Below.step ?_ (by assumption)))); done)); (focus (refine RowAt.below H1.out ?_; have hB9 := hC.2; (repeat (first | assumption | (with_reducible exact Below.refl _ _) | (with_reducible refine Below.drewN ?_ _) | (with_reducible refine Below.drew ?_) | (with_reducible refine Below.allocS ?_ _) | ((with_reducible refine Below.setCell ?_ ?_ _); rotate_left; focus (first | omega | (simp; done) | (simp; omega))) | (with_reducible refine Below.step ?_ (by assumption)))); done)); rintro e w2 ⟨g'0, g'1, rfl, o'0, o'1, o'ne0, hb2⟩; exact ⟨_, rfl, .inl ⟨rfl, _, _, rfl⟩, (by simp [RVF, Act.put, Act.eval]; exact ⟨_, _, ⟨rfl, rfl⟩, ownsRow_rowAt o'0, ownsRow_rowAt o'1⟩), hb2⟩)); (intro v hv; simp at hv; obtain ⟨s0, s1, rfl⟩ := hv)) | (refine calmV_call (f := 17) (args := _) hst rfl (by (intro w1; simp [execOp, resolve, invoke, go_sem]; with_reducible rfl)) (fun w1 hC hD => ?_) ?_; (focus (have hf := RVF_get (depV hD (ia := 2) (by kernel_rfl)) (List.mem_singleton.2 rfl); simp [Act.put, Act.eval] at hf; obtain ⟨t0, t1, ⟨rfl, rfl⟩, hf0, hf1⟩ := hf; refine (eqClocks_any _ _ n0 _ _ n1 l0 l0 l1 l1 _ ?_ ?_ rfl ?_ ?_ rfl).mono ?_; (focus (exact R0.out.below hC.2)); (focus (exact hf0)); (focus (exact R1.out.below hC.2)); (focus (exact hf1)); rintro e w2 ⟨rfl, hb2⟩; exact ⟨_, rfl, .inr ⟨rfl, rfl⟩, (by simp [RVF]), hb2⟩)); (intro v hv; simp at hv; subst hv)))
  refine calmV_nil ?_
  intro w6 hC hF
  have c6 := hC.2
  (try clear hk)
  have hk := hC.1
  simp only [Held, and_true] at hk
  have hBw6 : Below w.heap.size w w6 := by (repeat (first | assumption | (with_reducible exact Below.refl _ _) | (with_reducible refine Below.drewN ?_ _) | (with_reducible refine Below.drew ?_) | (with_reducible refine Below.allocS ?_ _) | ((with_reducible refine Below.setCell ?_ ?_ _); rotate_left; focus (first | omega | (simp; done) | (simp; omega))) | (with_reducible refine Below.step ?_ (by assumption))))
  clear hC hF hst R0 R1
  replace Ru0 := Lib.hid (Ru0.out.below c6)
  replace Rvv0 := Lib.hid (Rvv0.out.below c6)
  replace Ovv0 := Lib.hid (ownsRow_below Ovv0.out c6)
  replace P0 := Lib.hid (ownsRow_below P0.out c6)
  replace P1 := Lib.hid (ownsRow_below P1.out c6)
  go_wp2_with fail
  refine (markClocks_any _ n0 _ _ _ n1 _ _ 1 _ P0.out (by omega) P1.out (by omega) ?_ (by omega)).mono ?_
  · intro i hi hj
    have e1 := own_some hi
    have e2 := own_some hj
    omega
  rintro e w7 ⟨rfl, _, _, K7⟩
  have r7 : ∀ i, some i ∈ [(Value.slice (some ⟨g0, 0, none⟩) n0 n0).ownBlock, (Value.slice (some ⟨g1, 0, none⟩) n1 n1).ownBlock] → w2.heap.size ≤ i ∧ i < w3.heap.size := range_two (fun i hi => by have e1 := own_some hi; omega) (fun i hi => by have e1 := own_some hi; omega)
  have hkN := Held_range K7 r7 (l := [(⟨w.heap.size, 0, none⟩, v0), (⟨w.heap.size, 1, none⟩, v1), (⟨w3.heap.size, 0, none⟩, .slice (some ⟨g0, 0, none⟩) n0 n0), (⟨w3.heap.size, 1, none⟩, .slice (some ⟨g1, 0, none⟩) n1 n1)]) (by simp only [List.mem_cons, List.not_mem_nil, or_false, forall_eq_or_imp, forall_eq]; omega) (by simp [Held, go_sem, *])
  (try clear hk)
  have hk := hkN
  clear hkN
  simp only [Held, and_true] at hk
  have C7 : Below w.heap.size w6 w7 := Below_range K7 r7 (by omega) hBw6.size
  have hBw7 : Below w.heap.size w w7 := hBw6.trans C7
  replace Ru0 := Lib.hid (RowAt_range K7 r7 (fun i hi => by have := Lu0.out i hi; omega) Ru0.out)
  replace Rvv0 := Lib.hid (RowAt_range K7 r7 (fun i hi => by have := Lvv0.out i hi; omega) Rvv0.out)
  replace Ovv0 := Lib.hid (ownsRow_range K7 r7 (fun i hi => by have := Lvv0.out i hi; omega) Ovv0.out)
  go_wp2_with fail
  refine (eqInt64S_any _ _ (cN B n0) (cZ B (groupsOf l0 y2 n0).1) _ ?_ ?_).mono ?_
  · refine RowAt.below Rvv0.out ?_
    (repeat (first | (with_reducible exact Below.refl _ _) | (with_reducible refine Below.drewN ?_ _) | (with_reducible refine Below.drew ?_) | (with_reducible refine Below.allocS ?_ _) | ((with_reducible refine Below.setCell ?_ ?_ _); rotate_left; focus (first | omega | (simp; done) | (simp; omega)))))
  · refine RowAt.below Ru0.out ?_
    (repeat (first | (with_reducible exact Below.refl _ _) | (with_reducible refine Below.drewN ?_ _) | (with_reducible refine Below.drew ?_) | (with_reducible refine Below.allocS ?_ _) | ((with_reducible refine Below.setCell ?_ ?_ _); rotate_left; focus (first | omega | (simp; done) | (simp; omega)))))
  rintro e w8 ⟨rfl, c8x0⟩
  have hkN := Held.below c8x0 (l := [(⟨w.heap.size, 0, none⟩, v0), (⟨w.heap.size, 1, none⟩, v1), (⟨w3.heap.size, 0, none⟩, .slice (some ⟨g0, 0, none⟩) n0 n0), (⟨w3.heap.size, 1, none⟩, .slice (some ⟨g1, 0, none⟩) n1 n1)]) (by simp [Held, go_sem, *])
  (try clear hk)
  have hk := hkN
  clear hkN
  simp only [Held, and_true] at hk
  have hBw8 : Below w.heap.size w w8 := by (repeat (first | assumption | (with_reducible exact Below.refl _ _) | (with_reducible refine Below.drewN ?_ _) | (with_reducible refine Below.drew ?_) | (with_reducible refine Below.allocS ?_ _) | ((with_reducible refine Below.setCell ?_ ?_ _); rotate_left; focus (first | omega | (simp; done) | (simp; omega))) | (with_reducible refine Below.step ?_ (by assumption))))
  have hzw8_0 : w.heap.size < w8.heap.size := by omega
  have hzw8_1 : w3.heap.size < w8.heap.size := by omega
  have B8 : Below w7.heap.size w7 w8 := by
    refine Below.step ?_ c8x0
    (repeat (first | (with_reducible exact Below.refl _ _) | (with_reducible refine Below.drewN ?_ _) | (with_reducible refine Below.drew ?_) | (with_reducible refine Below.allocS ?_ _) | ((with_reducible refine Below.setCell ?_ ?_ _); rotate_left; focus (first | omega | (simp; done) | (simp; omega)))))
  replace Ru0 := Lib.hid (Ru0.out.below B8)
  replace Rvv0 := Lib.hid (Rvv0.out.below B8)
  replace Ovv0 := Lib.hid (ownsRow_below Ovv0.out B8)
  go_wp2_with fail
  go_wp2_with fail
  refine (markInt64S_any _ _ (1) _ _ _ Ovv0.out (by omega) (by omega)).mono ?_
  rintro e w9x0 ⟨rfl, ow0, G9⟩
  have K9 := Kept.of_grown G9
  have r9 := range_one Lvv0.out
  have hkN := Held_range K9 r9 (l := [(⟨w.heap.size, 0, none⟩, v0), (⟨w.heap.size, 1, none⟩, v1), (⟨w3.heap.size, 0, none⟩, .slice (some ⟨g0, 0, none⟩) n0 n0), (⟨w3.heap.size, 1, none⟩, .slice (some ⟨g1, 0, none⟩) n1 n1)]) (by simp only [List.mem_cons, List.not_mem_nil, or_false, forall_eq_or_imp, forall_eq]; omega) (by simp [Held, go_sem, *])
  (try clear hk)
  have hk := hkN
  clear hkN
  simp only [Held, and_true] at hk
  have C9 : Below w.heap.size w8 w9x0 := Below_range K9 r9 (by omega) (by have := hBw8.size; omega)
  have hBw9x0 : Below w.heap.size w w9x0 := hBw8.trans C9
  replace Ru0 := Lib.hid (RowAt_range K9 r9 (fun i hi => by have := Lu0.out i hi; omega) Ru0.out)
  have Mvv0 := Lib.hid (ownsRow_rowAt ow0)
  clear Rvv0 ow0
  clear K9 r9 C9 G9
  go_wp2_with fail
  refine (heldInt64S_any _ (cN B n0) (1) _ ?_ (by omega) (by omega)).mono ?_
  · refine RowAt.below Mvv0.out ?_
    (repeat (first | assumption | (with_reducible exact Below.refl _ _) | (with_reducible refine Below.drewN ?_ _) | (with_reducible refine Below.drew ?_) | (with_reducible refine Below.allocS ?_ _) | ((with_reducible refine Below.setCell ?_ ?_ _); rotate_left; focus (first | omega | (simp; done) | (simp; omega))) | (with_reducible refine Below.step ?_ (by assumption))))
  rintro e w9' ⟨rfl, e9⟩
  subst w9'
  go_wp2_with fail
  refine (toClocks_any v0 n0 v1 n1 l0 l1 _ ?_ ?_ (by omega) (by omega)).mono ?_
  · refine RowAt.below H0.out ?_
    (repeat (first | assumption | (with_reducible exact Below.refl _ _) | (with_reducible refine Below.drewN ?_ _) | (with_reducible refine Below.drew ?_) | (with_reducible refine Below.allocS ?_ _) | ((with_reducible refine Below.setCell ?_ ?_ _); rotate_left; focus (first | omega | (simp; done) | (simp; omega))) | (with_reducible refine Below.step ?_ (by assumption))))
  · refine RowAt.below H1.out ?_
    (repeat (first | assumption | (with_reducible exact Below.refl _ _) | (with_reducible refine Below.drewN ?_ _) | (with_reducible refine Below.drew ?_) | (with_reducible refine Below.allocS ?_ _) | ((with_reducible refine Below.setCell ?_ ?_ _); rotate_left; focus (first | omega | (simp; done) | (simp; omega))) | (with_reducible refine Below.step ?_ (by assumption))))
  rintro e w11 ⟨gz0, gz1, rfl, oz0, oz1, ozne0, c11⟩
  have hkN := Held.below c11 (l := [(⟨w.heap.size, 0, none⟩, v0), (⟨w.heap.size, 1, none⟩, v1), (⟨w3.heap.size, 0, none⟩, .slice (some ⟨g0, 0, none⟩) n0 n0), (⟨w3.heap.size, 1, none⟩, .slice (some ⟨g1, 0, none⟩) n1 n1)]) (by simp [Held, go_sem, *])
  (try clear hk)
  have hk := hkN
  clear hkN
  simp only [Held, and_true] at hk
  have hBw11 : Below w.heap.size w w11 := by (repeat (first | assumption | (with_reducible exact Below.refl _ _) | (with_reducible refine Below.drewN ?_ _) | (with_reducible refine Below.drew ?_) | (with_reducible refine Below.allocS ?_ _) | ((with_reducible refine Below.setCell ?_ ?_ _); rotate_left; focus (first | omega | (simp; done) | (simp; omega))) | (with_reducible refine Below.step ?_ (by assumption))))
  have hzw11_0 : w.heap.size < w11.heap.size := by omega
  have hzw11_1 : w3.heap.size < w11.heap.size := by omega
  have B11 : Below w9x0.heap.size w9x0 w11 := by
    refine Below.step ?_ c11
    (repeat (first | (with_reducible exact Below.refl _ _) | (with_reducible refine Below.drewN ?_ _) | (with_reducible refine Below.drew ?_) | (with_reducible refine Below.allocS ?_ _) | ((with_reducible refine Below.setCell ?_ ?_ _); rotate_left; focus (first | omega | (simp; done) | (simp; omega)))))
  replace Ru0 := Lib.hid (Ru0.out.below B11)
  replace Mvv0 := Lib.hid (Mvv0.out.below B11)
  go_wp2_with fail
  refine (implGroups_lit HBB.out HZZ.out _ _ _ (ownsRow_rowAt oz0) (ownsRow_rowAt oz1)).mono ?_
  rintro e w12 ⟨h0, rfl, ow_h0, c12⟩
  have hkN := Held.below c12 (l := [(⟨w.heap.size, 0, none⟩, v0), (⟨w.heap.size, 1, none⟩, v1), (⟨w3.heap.size, 0, none⟩, .slice (some ⟨g0, 0, none⟩) n0 n0), (⟨w3.heap.size, 1, none⟩, .slice (some ⟨g1, 0, none⟩) n1 n1)]) (by simp [Held, go_sem, *])
  (try clear hk)
  have hk := hkN
  clear hkN
  simp only [Held, and_true] at hk
  have hBw12 : Below w.heap.size w w12 := by (repeat (first | assumption | (with_reducible exact Below.refl _ _) | (with_reducible refine Below.drewN ?_ _) | (with_reducible refine Below.drew ?_) | (with_reducible refine Below.allocS ?_ _) | ((with_reducible refine Below.setCell ?_ ?_ _); rotate_left; focus (first | omega | (simp; done) | (simp; omega))) | (with_reducible refine Below.step ?_ (by assumption))))
  have hzw12_0 : w.heap.size < w12.heap.size := by omega
  have hzw12_1 : w3.heap.size < w12.heap.size := by omega
  have Lh0 := Lib.hid (ownsRow_lt ow_h0)
  (try simp only [World.size_alloc, World.size_setCell, World.heap_drewN] at Lh0)
  have Oh0 := Lib.hid ow_h0
  have Rh0 := Lib.hid (ownsRow_rowAt ow_h0)
  clear ow_h0
  have B12 : Below w11.heap.size w11 w12 := by
    refine Below.step ?_ c12
    (repeat (first | (with_reducible exact Below.refl _ _) | (with_reducible refine Below.drewN ?_ _) | (with_reducible refine Below.drew ?_) | (with_reducible refine Below.allocS ?_ _) | ((with_reducible refine Below.setCell ?_ ?_ _); rotate_left; focus (first | omega | (simp; done) | (simp; omega)))))
  replace Ru0 := Lib.hid (Ru0.out.below B12)
  replace Mvv0 := Lib.hid (Mvv0.out.below B12)
  go_wp2_with fail
  refine (eqInt64S_any _ _ (cN B n0) (cZ B (groupsOf l0 y2 n0).1) _ ?_ ?_).mono ?_
  · refine RowAt.below Rh0.out ?_
    (repeat (first | (with_reducible exact Below.refl _ _) | (with_reducible refine Below.drewN ?_ _) | (with_reducible refine Below.drew ?_) | (with_reducible refine Below.allocS ?_ _) | ((with_reducible refine Below.setCell ?_ ?_ _); rotate_left; focus (first | omega | (simp; done) | (simp; omega)))))
  · refine RowAt.below Ru0.out ?_
    (repeat (first | (with_reducible exact Below.refl _ _) | (with_reducible refine Below.drewN ?_ _) | (with_reducible refine Below.drew ?_) | (with_reducible refine Below.allocS ?_ _) | ((with_reducible refine Below.setCell ?_ ?_ _); rotate_left; focus (first | omega | (simp; done) | (simp; omega)))))
  rintro e w13 ⟨rfl, c13x0⟩
  have hkN := Held.below c13x0 (l := [(⟨w.heap.size, 0, none⟩, v0), (⟨w.heap.size, 1, none⟩, v1), (⟨w3.heap.size, 0, none⟩, .slice (some ⟨g0, 0, none⟩) n0 n0), (⟨w3.heap.size, 1, none⟩, .slice (some ⟨g1, 0, none⟩) n1 n1)]) (by simp [Held, go_sem, *])
  (try clear hk)
  have hk := hkN
  clear hkN
  simp only [Held, and_true] at hk
  have hBw13 : Below w.heap.size w w13 := by (repeat (first | assumption | (with_reducible exact Below.refl _ _) | (with_reducible refine Below.drewN ?_ _) | (with_reducible refine Below.drew ?_) | (with_reducible refine Below.allocS ?_ _) | ((with_reducible refine Below.setCell ?_ ?_ _); rotate_left; focus (first | omega | (simp; done) | (simp; omega))) | (with_reducible refine Below.step ?_ (by assumption))))
  have hzw13_0 : w.heap.size < w13.heap.size := by omega
  have hzw13_1 : w3.heap.size < w13.heap.size := by omega
  have B13 : Below w12.heap.size w12 w13 := by
    refine Below.step ?_ c13x0
    (repeat (first | (with_reducible exact Below.refl _ _) | (with_reducible refine Below.drewN ?_ _) | (with_reducible refine Below.drew ?_) | (with_reducible refine Below.allocS ?_ _) | ((with_reducible refine Below.setCell ?_ ?_ _); rotate_left; focus (first | omega | (simp; done) | (simp; omega)))))
  replace Ru0 := Lib.hid (Ru0.out.below B13)
  replace Mvv0 := Lib.hid (Mvv0.out.below B13)
  go_wp2_with fail
  go_wp2_with fail
  refine (heldInt64S_any _ (cN B n0) (1) _ ?_ (by omega) (by omega)).mono ?_
  · refine RowAt.below Mvv0.out ?_
    (repeat (first | assumption | (with_reducible exact Below.refl _ _) | (with_reducible refine Below.drewN ?_ _) | (with_reducible refine Below.drew ?_) | (with_reducible refine Below.allocS ?_ _) | ((with_reducible refine Below.setCell ?_ ?_ _); rotate_left; focus (first | omega | (simp; done) | (simp; omega))) | (with_reducible refine Below.step ?_ (by assumption))))
  rintro e w9' ⟨rfl, e9⟩
  subst w9'
  go_wp2_with fail
  go_ret
  refine ⟨rfl, ?_⟩
  (repeat (first | assumption | (with_reducible exact Below.refl _ _) | (with_reducible refine Below.drewN ?_ _) | (with_reducible refine Below.drew ?_) | (with_reducible refine Below.allocS ?_ _) | ((with_reducible refine Below.setCell ?_ ?_ _); rotate_left; focus (first | omega | (simp; done) | (simp; omega))) | (with_reducible refine Below.step ?_ (by assumption))))

end Go.Proofs.Ytifdcoambehekaa
