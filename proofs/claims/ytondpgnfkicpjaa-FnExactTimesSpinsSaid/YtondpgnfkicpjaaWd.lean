/-
  The walks of what compares two answers; of the spins' product and opposite; of numbers that are told if they are finite.
-/
import Derived.Test.YtondpgnfkicpjaaWc
import Derived.Test.YtondpgnfkicpjaaFx
set_option linter.unusedVariables false
set_option linter.unusedSimpArgs false
namespace Go.Proofs.Ytondpgnfkicpjaa
open Go.RowKit

set_option maxRecDepth 100000 in
theorem sameFloat_any (a b : Nat) (w : World) (h : cn .f64 a = cn .f64 b) : Calls Try.prog 41 #[.float .f64 a, .float .f64 b] w (RB true w) := by
  have ea := eqF_self .f64 a
  have eb := eqF_self .f64 b
  cases hn : isN .f64 a
  · have hb : isN .f64 b = false := by rw [← isN_cn, ← h, isN_cn, hn]
    have hab : a = b := by rw [cn_of_not hn, cn_of_not hb] at h; exact h
    subst hab
    clear h eb hb
    rw [hn] at ea
    clear hn
    cases hz : eqF .f64 a 0
    all_goals
      go_enter Try.func41, Try.ntmps41
      go_wp2_with (first | (refine wpList_fbin rfl rfl rfl rfl rfl (fun r n hr => ?_)))
      go_ret
      first | exact ⟨0, ret_bool (by simp [ea]), rfl⟩ | exact ⟨_, ret_bool (gt_same (Hid.out (by assumption)) (Hid.out (by assumption))), rfl⟩
  · have hb : isN .f64 b = true := by rw [← isN_cn, ← h, isN_cn, hn]
    clear h
    rw [hn] at ea
    rw [hb] at eb
    clear hn hb
    go_enter Try.func41, Try.ntmps41
    go_wp2_with (first | (refine wpList_fbin rfl rfl rfl rfl rfl (fun r n hr => ?_)))
    go_ret
    exact ⟨0, ret_bool (by simp [ea, eb]), rfl⟩

set_option maxRecDepth 100000 in
theorem eqSpin_any (x0 x1 x2 x3 y0 y1 y2 y3 : Nat) (w : World) (e0 : cn .f32 x0 = cn .f32 y0) (e1 : cn .f32 x1 = cn .f32 y1) (e2 : cn .f32 x2 = cn .f32 y2) (e3 : cn .f32 x3 = cn .f32 y3) : Calls Try.prog 24 #[.agg #[.float .f32 x0, .float .f32 x1, .float .f32 x2, .float .f32 x3], .agg #[.float .f32 y0, .float .f32 y1, .float .f32 y2, .float .f32 y3]] w (BB true w) := by
  have E0 := Lib.hid e0
  have E1 := Lib.hid e1
  have E2 := Lib.hid e2
  have E3 := Lib.hid e3
  clear e0 e1 e2 e3
  go_enter Try.func24, Try.ntmps24
  go_wp2_with (first | (refine wpList_widen rfl rfl Try.underlying63 Try.underlying22 rfl (fun r n hr => ?_)) | (go_at_call 41; refine (sameFloat_any _ _ _ (widen_same (Hid.out (by assumption)) (Hid.out (by assumption)) (Hid.out (by assumption)))).mono ?_; rintro e w' ⟨n, rfl, rfl⟩))
  go_ret
  refine ⟨rfl, ?_⟩
  (repeat (first | (with_reducible exact Below.refl _ _) | (with_reducible refine Below.drewN ?_ _) | (with_reducible refine Below.drew ?_) | (with_reducible refine Below.allocS ?_ _) | ((with_reducible refine Below.setCell ?_ ?_ _); rotate_left; focus (first | omega | (simp; done) | (simp; omega))) | (with_reducible refine Below.step ?_ (by assumption))))




theorem toldNumber_any (x : Nat) (w : World) : Calls Try.prog 67 #[.float .f32 x] w (RT x w) := by
  cases h : finB .f32 x
  all_goals
    go_enter Try.func67, Try.ntmps67
    go_wp2_with (first | (go_at_call 74; refine (IsFinite_any _ _).mono ?_; rintro e w' ⟨n, rfl, rfl⟩))
    go_ret2
    exact ⟨_, by simp [h, toldF], rfl⟩

theorem l05Number_any (x : Nat) (w : World) : Calls Try.prog 65 #[.float .f32 x] w (RT x w) := by
  cases h : finB .f32 x
  all_goals
    go_enter Try.func65, Try.ntmps65
    go_wp2_with (first | (go_at_call 64; refine (l01Finite_any _ _).mono ?_; rintro e w' ⟨n, rfl, rfl⟩))
    go_ret2
    exact ⟨_, by simp [h, toldF], rfl⟩


def restQ (keep kick : Nat) : Nat := fbin .quo .f32 (cn .f32 kick) (fbin .sub .f32 1065353216 (cn .f32 keep))
def restB (keep kick : Nat) : Bool := keepB keep && finB .f32 kick && finB .f32 (restQ keep kick)
theorem cn_one : cn .f32 1065353216 = 1065353216 := by decide +kernel

set_option maxRecDepth 100000 in
theorem specRestSwing_any (keep kick : Nat) (w : World) : Calls Try.prog 39 #[.float .f32 keep, .float .f32 kick] w (PF (condF (restB keep kick) (restQ keep kick)) (restB keep kick) w) := by
  have hk := keep_split keep
  cases h1 : geF .f32 keep 0 <;> cases h2 : geF .f32 keep 1065353216 <;> cases h3 : finB .f32 kick
  all_goals
    rw [h1, h2] at hk
    have H := Lib.hid hk
    clear hk
    go_enter Try.func39, Try.ntmps39
    go_wp2_with (first | (refine wpList_fbin rfl rfl rfl rfl rfl (fun r n hr => ?_)) | (go_at_call 64; refine (l01Finite_any _ _).mono ?_; rintro e w' ⟨n, rfl, rfl⟩) | (go_at_call 65; refine (l05Number_any _ _).mono ?_; rintro e w' ⟨n, rfl, rfl⟩))
    go_ret2
    first
      | (refine pf_told (Q := restQ keep kick) (by unfold restQ; simp only [Hid] at *; simp only [*, cn_one]) (by unfold restB; rw [H.out, h3]; simp) ?_; (repeat (first | (with_reducible exact Below.refl _ _) | (with_reducible refine Below.drewN ?_ _) | (with_reducible refine Below.drew ?_) | (with_reducible refine Below.allocS ?_ _) | ((with_reducible refine Below.setCell ?_ ?_ _); rotate_left; focus (first | omega | (simp; done) | (simp; omega))) | (with_reducible refine Below.step ?_ (by assumption)))); done)
      | (refine pf_none (by unfold restB; rw [H.out]; simp [h3]) ?_; (repeat (first | (with_reducible exact Below.refl _ _) | (with_reducible refine Below.drewN ?_ _) | (with_reducible refine Below.drew ?_) | (with_reducible refine Below.allocS ?_ _) | ((with_reducible refine Below.setCell ?_ ?_ _); rotate_left; focus (first | omega | (simp; done) | (simp; omega))) | (with_reducible refine Below.step ?_ (by assumption)))); done)

@[go_sem] theorem build_spin (a b c d : Nat) (w : World) : (Instr.build 37 #[(0, .float .f32 a), (1, .float .f32 b), (2, .float .f32 c), (3, .float .f32 d)]).run Try.prog w = .ok (.agg #[.float .f32 a, .float .f32 b, .float .f32 c, .float .f32 d]) w := run_build w 37 _ _ (by kernel_rfl)
set_option maxRecDepth 100000 in
theorem l04Back_any (x0 x1 x2 x3 : Nat) (w : World) : Calls Try.prog 53 #[.agg #[.float .f32 x0, .float .f32 x1, .float .f32 x2, .float .f32 x3]] w
    (BV (.agg #[.float .f32 x0, .float .f32 (Op.negFloat .f32 x1), .float .f32 (Op.negFloat .f32 x2), .float .f32 (Op.negFloat .f32 x3)]) w) := by
  go_enter Try.func53, Try.ntmps53
  go_wp2
  refine bodyPost_ret (v := .agg #[.float .f32 x0, .float .f32 (Op.negFloat .f32 x1), .float .f32 (Op.negFloat .f32 x2), .float .f32 (Op.negFloat .f32 x3)]) (by simp [results, Try.results53, go_sem]) rfl ⟨rfl, ?_⟩
  (repeat (first | (with_reducible exact Below.refl _ _) | (with_reducible refine Below.drewN ?_ _) | (with_reducible refine Below.drew ?_) | (with_reducible refine Below.allocS ?_ _) | ((with_reducible refine Below.setCell ?_ ?_ _); rotate_left; focus (first | omega | (simp; done) | (simp; omega))) | (with_reducible refine Below.step ?_ (by assumption))))

set_option maxRecDepth 100000 in
theorem specBackSpin_any (x0 x1 x2 x3 : Nat) (w : World) : Calls Try.prog 21 #[.agg #[.float .f32 x0, .float .f32 x1, .float .f32 x2, .float .f32 x3]] w
    (BV (.agg #[.float .f32 x0, .float .f32 (Op.negFloat .f32 x1), .float .f32 (Op.negFloat .f32 x2), .float .f32 (Op.negFloat .f32 x3)]) w) := by
  go_enter Try.func21, Try.ntmps21
  go_wp2_with fail
  refine (l04Back_any _ _ _ _ _).mono ?_
  rintro e w' ⟨rfl, hb⟩
  have hk := Held.below hb (l := [(⟨(w.heap.size + 1), 0, none⟩, .float .f32 0), (⟨(w.heap.size + 1), 1, none⟩, .float .f32 0), (⟨(w.heap.size + 1), 2, none⟩, .float .f32 0), (⟨(w.heap.size + 1), 3, none⟩, .float .f32 0)]) (by simp [Held, go_sem, *])
  simp only [Held, and_true] at hk
  go_wp2
  refine bodyPost_ret (v := .agg #[.float .f32 x0, .float .f32 (Op.negFloat .f32 x1), .float .f32 (Op.negFloat .f32 x2), .float .f32 (Op.negFloat .f32 x3)]) (by simp [results, Try.results21, go_sem, *]) rfl ⟨rfl, ?_⟩
  (repeat (first | (with_reducible exact Below.refl _ _) | (with_reducible refine Below.drewN ?_ _) | (with_reducible refine Below.drew ?_) | (with_reducible refine Below.allocS ?_ _) | ((with_reducible refine Below.setCell ?_ ?_ _); rotate_left; focus (first | omega | (simp; done) | (simp; omega))) | (with_reducible refine Below.step ?_ (by assumption))))

set_option maxRecDepth 100000 in
theorem implBackSpin_any (x0 x1 x2 x3 : Nat) (w : World) : Calls Try.prog 23 #[.agg #[.float .f32 x0, .float .f32 x1, .float .f32 x2, .float .f32 x3]] w
    (BV (.agg #[.float .f32 x0, .float .f32 (Op.negFloat .f32 x1), .float .f32 (Op.negFloat .f32 x2), .float .f32 (Op.negFloat .f32 x3)]) w) := by
  go_enter Try.func23, Try.ntmps23
  go_wp2
  refine bodyPost_ret (v := .agg #[.float .f32 x0, .float .f32 (Op.negFloat .f32 x1), .float .f32 (Op.negFloat .f32 x2), .float .f32 (Op.negFloat .f32 x3)]) (by simp [results, Try.results23, go_sem]) rfl ⟨rfl, ?_⟩
  (repeat (first | (with_reducible exact Below.refl _ _) | (with_reducible refine Below.drewN ?_ _) | (with_reducible refine Below.drew ?_) | (with_reducible refine Below.allocS ?_ _) | ((with_reducible refine Below.setCell ?_ ?_ _); rotate_left; focus (first | omega | (simp; done) | (simp; omega))) | (with_reducible refine Below.step ?_ (by assumption))))

set_option maxRecDepth 100000 in
theorem lawBackSpin_walk (x0 x1 x2 x3 : Nat) (_ : x0 < 4294967296) (_ : x1 < 4294967296) (_ : x2 < 4294967296) (_ : x3 < 4294967296) (w : World) :
    Calls Try.prog 5 #[.agg #[.float .f32 x0, .float .f32 x1, .float .f32 x2, .float .f32 x3]] w fun e w' => e = .returned (.bool true) ∧ Below w.heap.size w w' := by
  go_enter Try.func5, Try.ntmps5
  go_wp2_with fail
  refine (toSpin_any x0 x1 x2 x3 _).mono ?_
  rintro e w1 ⟨rfl, hb⟩
  have hk := Held.below hb (l := [(⟨w.heap.size, 0, none⟩, .float .f32 x0), (⟨w.heap.size, 1, none⟩, .float .f32 x1), (⟨w.heap.size, 2, none⟩, .float .f32 x2), (⟨w.heap.size, 3, none⟩, .float .f32 x3)]) (by simp [Held, go_sem, *])
  simp only [Held, and_true] at hk
  go_wp2_with fail
  refine (specBackSpin_any _ _ _ _ _).mono ?_
  rintro e w2 ⟨rfl, hb⟩
  have hk := Held.below hb (l := [(⟨w.heap.size, 0, none⟩, .float .f32 x0), (⟨w.heap.size, 1, none⟩, .float .f32 x1), (⟨w.heap.size, 2, none⟩, .float .f32 x2), (⟨w.heap.size, 3, none⟩, .float .f32 x3)]) (by simp [Held, go_sem, *])
  simp only [Held, and_true] at hk
  go_wp2_with fail
  refine (toSpin_any x0 x1 x2 x3 _).mono ?_
  rintro e w3 ⟨rfl, hb⟩
  have hk := Held.below hb (l := [(⟨w.heap.size, 0, none⟩, .float .f32 x0), (⟨w.heap.size, 1, none⟩, .float .f32 x1), (⟨w.heap.size, 2, none⟩, .float .f32 x2), (⟨w.heap.size, 3, none⟩, .float .f32 x3), (⟨w2.heap.size, 0, none⟩, .float .f32 x0), (⟨w2.heap.size, 1, none⟩, .float .f32 (Op.negFloat .f32 x1)), (⟨w2.heap.size, 2, none⟩, .float .f32 (Op.negFloat .f32 x2)), (⟨w2.heap.size, 3, none⟩, .float .f32 (Op.negFloat .f32 x3))]) (by simp [Held, go_sem, *])
  simp only [Held, and_true] at hk
  go_wp2_with fail
  refine (implBackSpin_any _ _ _ _ _).mono ?_
  rintro e w4 ⟨rfl, hb⟩
  have hk := Held.below hb (l := [(⟨w.heap.size, 0, none⟩, .float .f32 x0), (⟨w.heap.size, 1, none⟩, .float .f32 x1), (⟨w.heap.size, 2, none⟩, .float .f32 x2), (⟨w.heap.size, 3, none⟩, .float .f32 x3), (⟨w2.heap.size, 0, none⟩, .float .f32 x0), (⟨w2.heap.size, 1, none⟩, .float .f32 (Op.negFloat .f32 x1)), (⟨w2.heap.size, 2, none⟩, .float .f32 (Op.negFloat .f32 x2)), (⟨w2.heap.size, 3, none⟩, .float .f32 (Op.negFloat .f32 x3))]) (by simp [Held, go_sem, *])
  simp only [Held, and_true] at hk
  go_wp2_with fail
  refine (eqSpin_any _ _ _ _ _ _ _ _ _ rfl rfl rfl rfl).mono ?_
  rintro e w5 ⟨rfl, hb⟩
  go_wp2
  go_ret
  refine ⟨rfl, ?_⟩
  (repeat (first | (with_reducible exact Below.refl _ _) | (with_reducible refine Below.drewN ?_ _) | (with_reducible refine Below.drew ?_) | (with_reducible refine Below.allocS ?_ _) | ((with_reducible refine Below.setCell ?_ ?_ _); rotate_left; focus (first | omega | (simp; done) | (simp; omega))) | (with_reducible refine Below.step ?_ (by assumption))))

theorem rest_split (keep kick : Nat) : restB keep kick = (fin2 keep kick && keepB keep && finB .f32 (restQ keep kick)) := by
  unfold restB fin2
  have h := @keep_fin keep
  cases h1 : keepB keep
  · simp
  · rw [h h1]; simp

set_option maxRecDepth 100000 in
theorem implRestSwing_any (keep kick : Nat) (w : World) : Calls Try.prog 40 #[.float .f32 keep, .float .f32 kick] w (PF (condF (restB keep kick) (restQ keep kick)) (restB keep kick) w) := by
  have hk := rest_split keep kick
  cases h1 : fin2 keep kick <;> cases h2 : keepB keep
  all_goals
    rw [h1, h2] at hk
    have H := Lib.hid hk
    clear hk
    go_enter Try.func40, Try.ntmps40
    go_wp2_with fail
    refine (finite2_any keep kick _ _ ?_ ?_).mono ?_
    · simp [go_sem]
    · simp [go_sem]
    rintro e w' ⟨n, rfl, rfl⟩
    go_wp2_with (first | (refine wpList_fbin rfl rfl rfl rfl rfl (fun r n hr => ?_)) | (go_at_call 66; refine (keepOk_any _ _).mono ?_; rintro e w' ⟨n, rfl, rfl⟩) | (go_at_call 67; refine (toldNumber_any _ _).mono ?_; rintro e w' ⟨n, rfl, rfl⟩))
    go_ret2
    first
      | (refine pf_told (Q := restQ keep kick) (by unfold restQ; simp only [Hid] at *; simp only [*, cn_one]) (by rw [H.out]; simp) ?_; (repeat (first | (with_reducible exact Below.refl _ _) | (with_reducible refine Below.drewN ?_ _) | (with_reducible refine Below.drew ?_) | (with_reducible refine Below.allocS ?_ _) | ((with_reducible refine Below.setCell ?_ ?_ _); rotate_left; focus (first | omega | (simp; done) | (simp; omega))) | (with_reducible refine Below.step ?_ (by assumption)))); done)
      | (refine pf_none (by rw [H.out]; simp) ?_; (repeat (first | (with_reducible exact Below.refl _ _) | (with_reducible refine Below.drewN ?_ _) | (with_reducible refine Below.drew ?_) | (with_reducible refine Below.allocS ?_ _) | ((with_reducible refine Below.setCell ?_ ?_ _); rotate_left; focus (first | omega | (simp; done) | (simp; omega))) | (with_reducible refine Below.step ?_ (by assumption)))); done)

set_option maxRecDepth 100000 in
theorem lawRestSwing_walk (keep kick : Nat) (_ : keep < 4294967296) (_ : kick < 4294967296) (w : World) :
    Calls Try.prog 12 #[.float .f32 keep, .float .f32 kick] w fun e w' => e = .returned (.bool true) ∧ Below w.heap.size w w' := by
  go_enter Try.func12, Try.ntmps12
  go_wp2_with fail
  refine (specRestSwing_any keep kick _).mono ?_
  rintro e w' ⟨r, rfl, h1, hb⟩
  have H1 := Lib.hid h1
  clear h1
  have hb' := hb; (try simp only [World.size_drew, World.heap_drewN, World.size_alloc] at hb'); have hz' := hb.size; (try simp only [World.size_drew, World.heap_drewN, World.size_alloc] at hz'); obtain ⟨hc, hf, hs, hn, hm⟩ := bfacts hb' hz'; clear hb' hz'
  go_wp2_with fail
  refine (implRestSwing_any keep kick _).mono ?_
  rintro e w' ⟨r, rfl, h2, hb⟩
  have H2 := Lib.hid h2
  clear h2
  have hb' := hb; (try simp only [World.size_drew, World.heap_drewN, World.size_alloc] at hb'); have hz' := hb.size; (try simp only [World.size_drew, World.heap_drewN, World.size_alloc] at hz'); obtain ⟨hc, hf, hs, hn, hm⟩ := bfacts hb' hz'; clear hb' hz'
  go_wp2_with (first | (refine wpList_widen rfl rfl Try.underlying63 Try.underlying22 rfl (fun r n hr => ?_)) | (go_at_call 41; refine (sameFloat_any _ _ _ (widen_same (Hid.out (by assumption)) (Hid.out (by assumption)) (H2.out.trans H1.out.symm))).mono ?_; rintro e w' ⟨n, rfl, rfl⟩))
  go_ret
  refine ⟨rfl, ?_⟩
  (repeat (first | (with_reducible exact Below.refl _ _) | (with_reducible refine Below.drewN ?_ _) | (with_reducible refine Below.drew ?_) | (with_reducible refine Below.allocS ?_ _) | ((with_reducible refine Below.setCell ?_ ?_ _); rotate_left; focus (first | omega | (simp; done) | (simp; omega))) | (with_reducible refine Below.step ?_ (by assumption))))

end Go.Proofs.Ytondpgnfkicpjaa
