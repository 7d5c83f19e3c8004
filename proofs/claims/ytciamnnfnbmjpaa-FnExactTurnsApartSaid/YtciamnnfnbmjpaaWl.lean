/-
  The walks of roots, of spins' sizes, of wrapped turns, of tops compared.
-/
import Derived.Test.YtciamnnfnbmjpaaWk
import Derived.Test.YtciamnnfnbmjpaaNw
set_option linter.unusedVariables false
set_option linter.unusedSimpArgs false
namespace Go.Proofs.Ytciamnnfnbmjpaa
open Go.RowKit

theorem exact_of {k : FloatKind} {r X : Nat} (h : cn k r = X) (hn : isN k X = false) : r = X := by
  have : isN k r = false := by rw [← isN_cn, h, hn]
  rw [← h, cn_of_not this]
/-- It returns just this float; some draws. -/
def RX (k : FloatKind) (x : Nat) (w : World) (e : Ending) (w' : World) : Prop := ∃ n, e = .returned (.float k x) ∧ w' = w.drewN n
/-- It returns a float narrowed. -/
def RN (x : Nat) (w : World) (e : Ending) (w' : World) : Prop := ∃ r n, e = .returned (.float .f32 r) ∧ (convOk .f64 .f32 (cn .f64 x) = true → cn .f32 r = fconv .f64 .f32 (cn .f64 x)) ∧ w' = w.drewN n
def rootQ (x : Nat) : Nat := fconv .f64 .f32 (fsqrt (fconv .f32 .f64 x))

set_option maxRecDepth 100000 in
theorem mathSqrt_any (x : Nat) (w : World) : Calls Try.prog 106 #[.float .f64 x] w (RF .f64 (fsqrt (cn .f64 x)) w) := by
  go_enter Try.func106, Try.ntmps106
  go_wp2_with (first | (refine wpList_sqrt rfl (by simp [execOp, resolve, invoke, go_sem]; exact run_callFunc_extern Try.func118 (by kernel_rfl) (by kernel_rfl) (by kernel_rfl) (e := Extern.MathSqrt.sqrt) (by kernel_rfl) _ _) (fun r n hr => ?_)))
  go_ret
  exact ⟨_, _, rfl, hr.out, rfl⟩

set_option maxRecDepth 100000 in
theorem l01Narrow_any (x : Nat) (w : World) : Calls Try.prog 107 #[.float .f64 x] w (RN x w) := by
  go_enter Try.func107, Try.ntmps107
  go_wp2_with (first | (refine wpList_narrow rfl rfl Try.underlying22 Try.underlying34 rfl (fun r n hr => ?_)))
  go_ret
  exact ⟨_, _, rfl, hr.out, rfl⟩

set_option maxRecDepth 100000 in
theorem l01Sqrt_any (x : Nat) (w : World) : Calls Try.prog 105 #[.float .f32 x] w (RF .f32 (rootQ (cn .f32 x)) w) := by
  go_enter Try.func105, Try.ntmps105
  go_wp2_with (first | (refine wpList_widen rfl rfl Try.underlying34 Try.underlying22 rfl (fun r n hr => ?_)) | (go_at_call 106; refine (mathSqrt_any _ _).mono ?_; rintro e w' ⟨r, n, rfl, hq, rfl⟩; have HQ := Lib.hid hq; clear hq) | (go_at_call 107; refine (l01Narrow_any _ _).mono ?_; rintro e w' ⟨r, n, rfl, hq, rfl⟩; have HR := Lib.hid hq; clear hq))
  go_ret
  refine ⟨_, _, rfl, ?_, rfl⟩
  have h6 := HR.out
  clear HR
  simp only [Hid] at *
  simp only [*] at h6
  exact h6 (root_ok _)

set_option maxRecDepth 100000 in
theorem RootNumber_any (x : Nat) (w : World) : Calls Try.prog 73 #[.float .f32 x] w (RF .f32 (rootQ (cn .f32 x)) w) := by
  go_enter Try.func73, Try.ntmps73
  go_wp2_with (first | (refine wpList_widen rfl rfl Try.underlying34 Try.underlying22 rfl (fun r n hr => ?_)) | (go_at_call 106; refine (mathSqrt_any _ _).mono ?_; rintro e w' ⟨r, n, rfl, hq, rfl⟩; have HQ := Lib.hid hq; clear hq) | (refine wpList_narrow rfl rfl Try.underlying22 Try.underlying34 rfl (fun r n hr => ?_)))
  go_ret
  refine ⟨_, _, rfl, ?_, rfl⟩
  have h6 := hr.out
  clear hr
  simp only [Hid] at *
  simp only [*] at h6
  exact h6 (root_ok _)

set_option maxRecDepth 100000 in
theorem mathFloor_any (x : Nat) (w : World) : Calls Try.prog 80 #[.float .f64 x] w (RF .f64 (fwhole .down (cn .f64 x)) w) := by
  go_enter Try.func80, Try.ntmps80
  go_wp2_with (first | (refine wpList_whole rfl (by simp [execOp, resolve, invoke, go_sem]; exact run_callFunc_extern Try.func108 (by kernel_rfl) (by kernel_rfl) (by kernel_rfl) (e := Extern.MathFloor.toIntegral "math.archFloor" .down) (by kernel_rfl) _ _) (fun r n hr => ?_)))
  go_ret
  exact ⟨_, _, rfl, hr.out, rfl⟩

def prodQ (a0 a1 a2 a3 b0 b1 b2 b3 : Nat) : Nat := fbin .add .f32 (fbin .add .f32 (fbin .add .f32 (mulC a0 b0) (mulC a1 b1)) (mulC a2 b2)) (mulC a3 b3)
def sizeQ (x0 x1 x2 x3 : Nat) : Nat := rootQ (prodQ x0 x1 x2 x3 x0 x1 x2 x3)

set_option maxRecDepth 100000 in
set_option maxHeartbeats 4000000 in
theorem products_any (a0 a1 a2 a3 b0 b1 b2 b3 : Nat) (w : World) : Calls Try.prog 74 #[.agg #[.float .f32 a0, .float .f32 a1, .float .f32 a2, .float .f32 a3], .agg #[.float .f32 b0, .float .f32 b1, .float .f32 b2, .float .f32 b3]] w (BF .f32 (prodQ a0 a1 a2 a3 b0 b1 b2 b3) w) := by
  go_enter Try.func74, Try.ntmps74
  go_wp2_with (first | (refine wpList_fbin rfl rfl rfl rfl rfl (fun r n hr => ?_)))
  go_ret
  refine ⟨_, rfl, ?_, ?_⟩
  · unfold prodQ mulC
    simp only [Hid] at *
    simp only [*]
  · (repeat (first | (with_reducible exact Below.refl _ _) | (with_reducible refine Below.drewN ?_ _) | (with_reducible refine Below.drew ?_) | (with_reducible refine Below.allocS ?_ _) | ((with_reducible refine Below.setCell ?_ ?_ _); rotate_left; focus (first | omega | (simp; done) | (simp; omega))) | (with_reducible refine Below.step ?_ (by assumption))))

set_option maxRecDepth 100000 in
set_option maxHeartbeats 4000000 in
theorem l04Size_any (x0 x1 x2 x3 : Nat) (w : World) : Calls Try.prog 72 #[.agg #[.float .f32 x0, .float .f32 x1, .float .f32 x2, .float .f32 x3]] w (BF .f32 (sizeQ x0 x1 x2 x3) w) := by
  go_enter Try.func72, Try.ntmps72
  go_wp2_with (first | (refine wpList_fbin rfl rfl rfl rfl rfl (fun r n hr => ?_)) | (go_at_call 105; refine (l01Sqrt_any _ _).mono ?_; rintro e w' ⟨r, n, rfl, hq, rfl⟩; have HQ := Lib.hid hq; clear hq))
  go_ret
  refine ⟨_, rfl, ?_, ?_⟩
  · unfold sizeQ prodQ mulC
    simp only [Hid] at *
    simp only [*]
  · (repeat (first | (with_reducible exact Below.refl _ _) | (with_reducible refine Below.drewN ?_ _) | (with_reducible refine Below.drew ?_) | (with_reducible refine Below.allocS ?_ _) | ((with_reducible refine Below.setCell ?_ ?_ _); rotate_left; focus (first | omega | (simp; done) | (simp; omega))) | (with_reducible refine Below.step ?_ (by assumption))))

set_option maxRecDepth 100000 in
set_option maxHeartbeats 4000000 in
theorem specSizeOfSpin_any (x0 x1 x2 x3 : Nat) (w : World) : Calls Try.prog 32 #[.agg #[.float .f32 x0, .float .f32 x1, .float .f32 x2, .float .f32 x3]] w (BF .f32 (sizeQ x0 x1 x2 x3) w) := by
  go_enter Try.func32, Try.ntmps32
  go_wp2_with (first | (go_at_call 72; refine (l04Size_any _ _ _ _ _).mono ?_; rintro e w1 ⟨r, rfl, hq, hb⟩; have HQ := Lib.hid hq; clear hq; have hk := Held.below hb (l := [(⟨w.heap.size, 0, none⟩, .float .f32 x0), (⟨w.heap.size, 1, none⟩, .float .f32 x1), (⟨w.heap.size, 2, none⟩, .float .f32 x2), (⟨w.heap.size, 3, none⟩, .float .f32 x3)]) (by simp [Held, go_sem, *]); simp only [Held, and_true] at hk))
  go_ret
  refine ⟨_, rfl, HQ.out, ?_⟩
  (repeat (first | (with_reducible exact Below.refl _ _) | (with_reducible refine Below.drewN ?_ _) | (with_reducible refine Below.drew ?_) | (with_reducible refine Below.allocS ?_ _) | ((with_reducible refine Below.setCell ?_ ?_ _); rotate_left; focus (first | omega | (simp; done) | (simp; omega))) | (with_reducible refine Below.step ?_ (by assumption))))

set_option maxRecDepth 100000 in
set_option maxHeartbeats 4000000 in
theorem implSizeOfSpin_any (x0 x1 x2 x3 : Nat) (w : World) : Calls Try.prog 34 #[.agg #[.float .f32 x0, .float .f32 x1, .float .f32 x2, .float .f32 x3]] w (BF .f32 (sizeQ x0 x1 x2 x3) w) := by
  go_enter Try.func34, Try.ntmps34
  go_wp2_with (first | (go_at_call 74; refine (products_any _ _ _ _ _ _ _ _ _).mono ?_; rintro e w1 ⟨r, rfl, hq, hb⟩; have HQ := Lib.hid hq; clear hq; have hk := Held.below hb (l := [(⟨w.heap.size, 0, none⟩, .float .f32 x0), (⟨w.heap.size, 1, none⟩, .float .f32 x1), (⟨w.heap.size, 2, none⟩, .float .f32 x2), (⟨w.heap.size, 3, none⟩, .float .f32 x3)]) (by simp [Held, go_sem, *]); simp only [Held, and_true] at hk) | (go_at_call 73; refine (RootNumber_any _ _).mono ?_; rintro e w' ⟨r, n, rfl, hq, rfl⟩; have HQ := Lib.hid hq; clear hq))
  go_ret
  refine ⟨_, rfl, ?_, ?_⟩
  · unfold sizeQ
    simp only [Hid] at *
    simp only [*]
  · (repeat (first | (with_reducible exact Below.refl _ _) | (with_reducible refine Below.drewN ?_ _) | (with_reducible refine Below.drew ?_) | (with_reducible refine Below.allocS ?_ _) | ((with_reducible refine Below.setCell ?_ ?_ _); rotate_left; focus (first | omega | (simp; done) | (simp; omega))) | (with_reducible refine Below.step ?_ (by assumption))))

set_option maxRecDepth 100000 in
set_option maxHeartbeats 4000000 in
theorem lawSizeOfSpin_walk (x0 x1 x2 x3 : Nat) (_ : x0 < 4294967296) (_ : x1 < 4294967296) (_ : x2 < 4294967296) (_ : x3 < 4294967296) (w : World) : Calls Try.prog 8 #[.agg #[.float .f32 x0, .float .f32 x1, .float .f32 x2, .float .f32 x3]] w fun e w' => e = .returned (.bool true) ∧ Below w.heap.size w w' := by
  go_enter Try.func8, Try.ntmps8
  go_wp2_with fail
  refine (toSpin_any x0 x1 x2 x3 _).mono ?_
  rintro e w0 ⟨rfl, hb⟩
  have hk := Held.below hb (l := [(⟨w.heap.size, 0, none⟩, .float .f32 x0), (⟨w.heap.size, 1, none⟩, .float .f32 x1), (⟨w.heap.size, 2, none⟩, .float .f32 x2), (⟨w.heap.size, 3, none⟩, .float .f32 x3)]) (by simp [Held, go_sem, *])
  simp only [Held, and_true] at hk
  go_wp2_with fail
  refine (specSizeOfSpin_any x0 x1 x2 x3 _).mono ?_
  rintro e w1 ⟨r0_0, rfl, q0_0, hb⟩
  have Hq0_0 := Lib.hid q0_0
  clear q0_0
  have hk := Held.below hb (l := [(⟨w.heap.size, 0, none⟩, .float .f32 x0), (⟨w.heap.size, 1, none⟩, .float .f32 x1), (⟨w.heap.size, 2, none⟩, .float .f32 x2), (⟨w.heap.size, 3, none⟩, .float .f32 x3)]) (by simp [Held, go_sem, *])
  simp only [Held, and_true] at hk
  go_wp2_with fail
  refine (toSpin_any x0 x1 x2 x3 _).mono ?_
  rintro e w2 ⟨rfl, hb⟩
  have hk := Held.below hb (l := [(⟨w.heap.size, 0, none⟩, .float .f32 x0), (⟨w.heap.size, 1, none⟩, .float .f32 x1), (⟨w.heap.size, 2, none⟩, .float .f32 x2), (⟨w.heap.size, 3, none⟩, .float .f32 x3)]) (by simp [Held, go_sem, *])
  simp only [Held, and_true] at hk
  go_wp2_with fail
  refine (implSizeOfSpin_any x0 x1 x2 x3 _).mono ?_
  rintro e w3 ⟨r1_0, rfl, q1_0, hb⟩
  have Hq1_0 := Lib.hid q1_0
  clear q1_0
  have hk := Held.below hb (l := [(⟨w.heap.size, 0, none⟩, .float .f32 x0), (⟨w.heap.size, 1, none⟩, .float .f32 x1), (⟨w.heap.size, 2, none⟩, .float .f32 x2), (⟨w.heap.size, 3, none⟩, .float .f32 x3)]) (by simp [Held, go_sem, *])
  simp only [Held, and_true] at hk
  go_wp2_with (first | (refine wpList_widen rfl rfl Try.underlying34 Try.underlying22 rfl (fun r n hr => ?_)) | (go_at_call 21; refine (sameFloat_any _ _ _ (widen_same (Hid.out (by assumption)) (Hid.out (by assumption)) (Hq1_0.out.trans Hq0_0.out.symm))).mono ?_; rintro e w' ⟨n, rfl, rfl⟩))
  go_ret
  refine ⟨rfl, ?_⟩
  (try have hB := hC.1.2)
  (repeat (first | assumption | (with_reducible exact Below.refl _ _) | (with_reducible refine Below.drewN ?_ _) | (with_reducible refine Below.drew ?_) | (with_reducible refine Below.allocS ?_ _) | ((with_reducible refine Below.setCell ?_ ?_ _); rotate_left; focus (first | omega | (simp; done) | (simp; omega))) | (with_reducible refine Below.step ?_ (by assumption))))

def wq (x : Nat) : Nat := fconv .f64 .f32 (fbin .sub .f64 (fconv .f32 .f64 (cn .f32 x)) (fwhole .down (fconv .f32 .f64 (cn .f32 x))))
theorem wq_sm {x : Nat} (h : finB .f32 x = true) : Sm .f32 0 (wq x) := narrow_sm (frac32 .down (by rw [finB_cn]; exact h)) (by decide) (by decide)
theorem wq_ok {x : Nat} (h : finB .f32 x = true) : convOk .f64 .f32 (fbin .sub .f64 (fconv .f32 .f64 (cn .f32 x)) (fwhole .down (fconv .f32 .f64 (cn .f32 x)))) = true := (narrow_ok (frac32 .down (by rw [finB_cn]; exact h)) (by decide)).1
theorem wq_num {x : Nat} (h : finB .f32 x = true) : isN .f32 (wq x) = false := (wq_sm h).not_nan
def wrapQ (x : Nat) : Nat := if eqF .f32 (wq x) 0 || eqF .f32 (wq x) 1065353216 then 0 else wq x
theorem wrap_sm {x : Nat} (h : finB .f32 x = true) : Sm .f32 0 (wrapQ x) := by
  unfold wrapQ
  split
  · exact ⟨false, 0, -149, by decide +kernel, .inl rfl⟩
  · exact wq_sm h
theorem wq_ge {x : Nat} (h : finB .f32 x = true) : geF .f32 (wq x) 1065353216 = eqF .f32 (wq x) 1065353216 := by
  unfold geF
  rw [le_one (wq_sm h), Bool.false_or]

set_option maxRecDepth 100000 in
set_option maxHeartbeats 1000000 in
theorem l05Wrap_any (x : Nat) (w : World) (hfin : finB .f32 x = true) : Calls Try.prog 79 #[.float .f32 x] w (RX .f32 (wrapQ x) w) := by
  have hg := wq_ge hfin
  have hgt := le_one (wq_sm hfin)
  cases c0 : eqF .f32 (wq x) 0 <;> cases c1 : eqF .f32 (wq x) 1065353216
  all_goals
    have HW : Hid (wrapQ x = if eqF .f32 (wq x) 0 || eqF .f32 (wq x) 1065353216 then 0 else wq x) := rfl
    rw [c1] at hg
    go_enter Try.func79, Try.ntmps79
    go_wp2_with (first | (refine wpList_widen rfl rfl Try.underlying34 Try.underlying22 rfl (fun r n hr => ?_)) | (refine wpList_fbin rfl rfl rfl rfl rfl (fun r n hr => ?_)) | (go_at_call 80; refine (mathFloor_any _ _).mono ?_; rintro e w' ⟨r, n, rfl, hq, rfl⟩; have HQ := Lib.hid hq; clear hq) | (go_at_call 107; refine (l01Narrow_any _ _).mono ?_; rintro e w' ⟨r, n, rfl, hq, rfl⟩; have h5 : cn .f32 r = wq x := (by have h6 := hq; clear hq; simp only [Hid] at *; simp only [*] at h6; exact h6 (wq_ok hfin)); obtain rfl := exact_of h5 (wq_num hfin); clear h5 hq))
    go_ret
    refine ⟨_, ret_float ?_, rfl⟩
    rw [HW.out, c0, c1]
    rfl

set_option maxRecDepth 100000 in
set_option maxHeartbeats 1000000 in
theorem implWrap_fin (x : Nat) (w : World) (hfin : finB .f32 x = true) : Calls Try.prog 38 #[.float .f32 x] w fun e w' => ∃ n, e = .returned (.tuple #[.float .f32 (wrapQ x), .bool true]) ∧ w' = w.drewN n := by
  cases c0 : eqF .f32 (wq x) 0 <;> cases c1 : eqF .f32 (wq x) 1065353216
  all_goals
    have HW : wrapQ x = if eqF .f32 (wq x) 0 || eqF .f32 (wq x) 1065353216 then 0 else wq x := rfl
    rw [c0, c1] at HW
    simp only [Bool.or_false, Bool.or_true, Bool.false_eq_true, if_true, if_false] at HW
    rw [HW]
    clear HW
    go_enter Try.func38, Try.ntmps38
    go_wp2_with (first | (refine wpList_widen rfl rfl Try.underlying34 Try.underlying22 rfl (fun r n hr => ?_)) | (refine wpList_fbin rfl rfl rfl rfl rfl (fun r n hr => ?_)) | (go_at_call 68; refine (IsFinite_any _ _).mono ?_; rintro e w' ⟨n, rfl, rfl⟩) | (go_at_call 80; refine (mathFloor_any _ _).mono ?_; rintro e w' ⟨r, n, rfl, hq, rfl⟩; have HQ := Lib.hid hq; clear hq) | ((refine wpList_narrow rfl rfl Try.underlying22 Try.underlying34 rfl (fun r n hr => ?_)); have hq := hr.out; clear hr; have h5 : cn .f32 r = wq x := (by have h6 := hq; clear hq; simp only [Hid] at *; simp only [*] at h6; exact h6 (wq_ok hfin)); obtain rfl := exact_of h5 (wq_num hfin); clear h5 hq))
    go_ret2
    exact ⟨_, rfl, rfl⟩

theorem pf_x {Q : Nat} {b : Bool} {w w' : World} (hq : isN .f32 Q = false) (hb : b = true) (h : Below w.heap.size w w') : PF (condF b Q) b w (.returned (.tuple #[.float .f32 Q, .bool true])) w' := by
  subst hb
  exact ⟨_, rfl, cn_of_not hq, h⟩

theorem specWrapTurn_any (x : Nat) (w : World) : Calls Try.prog 37 #[.float .f32 x] w (PF (condF (finB .f32 x) (wrapQ x)) (finB .f32 x) w) := by
  cases hfin : finB .f32 x
  all_goals
    go_enter Try.func37, Try.ntmps37
    go_wp2_with (first | (go_at_call 64; refine (l01Finite_any _ _).mono ?_; rintro e w' ⟨n, rfl, rfl⟩) | (go_at_call 79; refine (l05Wrap_any _ _ hfin).mono ?_; rintro e w' ⟨n, rfl, rfl⟩))
    go_ret2
    first | ((refine pf_x (wrap_sm hfin).not_nan rfl ?_); (repeat (first | (with_reducible exact Below.refl _ _) | (with_reducible refine Below.drewN ?_ _) | (with_reducible refine Below.drew ?_) | (with_reducible refine Below.allocS ?_ _) | ((with_reducible refine Below.setCell ?_ ?_ _); rotate_left; focus (first | omega | (simp; done) | (simp; omega))) | (with_reducible refine Below.step ?_ (by assumption)))); done) | ((refine pf_none rfl ?_); (repeat (first | (with_reducible exact Below.refl _ _) | (with_reducible refine Below.drewN ?_ _) | (with_reducible refine Below.drew ?_) | (with_reducible refine Below.allocS ?_ _) | ((with_reducible refine Below.setCell ?_ ?_ _); rotate_left; focus (first | omega | (simp; done) | (simp; omega))) | (with_reducible refine Below.step ?_ (by assumption)))); done)

theorem implWrapTurn_any (x : Nat) (w : World) : Calls Try.prog 38 #[.float .f32 x] w (PF (condF (finB .f32 x) (wrapQ x)) (finB .f32 x) w) := by
  cases hfin : finB .f32 x
  · go_enter Try.func38, Try.ntmps38
    go_wp2_with (first | (go_at_call 68; refine (IsFinite_any _ _).mono ?_; rintro e w' ⟨n, rfl, rfl⟩))
    go_ret2
    refine pf_none rfl ?_
    (repeat (first | (with_reducible exact Below.refl _ _) | (with_reducible refine Below.drewN ?_ _) | (with_reducible refine Below.drew ?_) | (with_reducible refine Below.allocS ?_ _) | ((with_reducible refine Below.setCell ?_ ?_ _); rotate_left; focus (first | omega | (simp; done) | (simp; omega))) | (with_reducible refine Below.step ?_ (by assumption))))
  · refine (implWrap_fin x w hfin).mono ?_
    rintro e w' ⟨n, rfl, rfl⟩
    refine pf_x (wrap_sm hfin).not_nan rfl ?_
    (repeat (first | (with_reducible exact Below.refl _ _) | (with_reducible refine Below.drewN ?_ _) | (with_reducible refine Below.drew ?_) | (with_reducible refine Below.allocS ?_ _) | ((with_reducible refine Below.setCell ?_ ?_ _); rotate_left; focus (first | omega | (simp; done) | (simp; omega))) | (with_reducible refine Below.step ?_ (by assumption))))

set_option maxRecDepth 100000 in
set_option maxHeartbeats 4000000 in
theorem lawWrapTurn_walk (z0 : Nat) (_ : z0 < 4294967296) (w : World) : Calls Try.prog 10 #[.float .f32 z0] w fun e w' => e = .returned (.bool true) ∧ Below w.heap.size w w' := by
  go_enter Try.func10, Try.ntmps10
  go_wp2_with fail
  refine (specWrapTurn_any z0 _).mono ?_
  rintro e w1 ⟨r0_0, rfl, q0_0, hb⟩
  have Hq0_0 := Lib.hid q0_0
  clear q0_0
  go_wp2_with fail
  refine (implWrapTurn_any z0 _).mono ?_
  rintro e w3 ⟨r1_0, rfl, q1_0, hb⟩
  have Hq1_0 := Lib.hid q1_0
  clear q1_0
  go_wp2_with (first | (refine wpList_widen rfl rfl Try.underlying34 Try.underlying22 rfl (fun r n hr => ?_)) | (go_at_call 21; refine (sameFloat_any _ _ _ (widen_same (Hid.out (by assumption)) (Hid.out (by assumption)) (Hq1_0.out.trans Hq0_0.out.symm))).mono ?_; rintro e w' ⟨n, rfl, rfl⟩))
  go_ret
  refine ⟨rfl, ?_⟩
  (try have hB := hC.1.2)
  (repeat (first | assumption | (with_reducible exact Below.refl _ _) | (with_reducible refine Below.drewN ?_ _) | (with_reducible refine Below.drew ?_) | (with_reducible refine Below.allocS ?_ _) | ((with_reducible refine Below.setCell ?_ ?_ _); rotate_left; focus (first | omega | (simp; done) | (simp; omega))) | (with_reducible refine Below.step ?_ (by assumption))))

theorem fbin_sub_of32 {x y : Nat} {s t : Bool} {m n : Nat} {i j : Int} (hx : FloatKind.f32.decode x = .number s m i) (hy : FloatKind.f32.decode y = .number t n j) :
    ∃ u, fbin .sub .f32 x y = FloatKind.f32.format.nearest u (Ieee.signed s m (i - min i j).toNat + Ieee.signed (!t) n (j - min i j).toNat).natAbs (min i j) := by
  unfold fbin floatBits Ieee.Format.sub
  show ∃ u, (((FloatKind.f32.decode x).sum (FloatKind.f32.decode y).opposite).map FloatKind.f32.format.write).getD _ = _
  rw [hx, hy]
  exact ⟨_, rfl⟩
theorem fbin_add_of32 {x y : Nat} {s t : Bool} {m n : Nat} {i j : Int} (hx : FloatKind.f32.decode x = .number s m i) (hy : FloatKind.f32.decode y = .number t n j) :
    ∃ u, fbin .add .f32 x y = FloatKind.f32.format.nearest u (Ieee.signed s m (i - min i j).toNat + Ieee.signed t n (j - min i j).toNat).natAbs (min i j) := by
  unfold fbin floatBits Ieee.Format.add
  show ∃ u, (((FloatKind.f32.decode x).sum (FloatKind.f32.decode y)).map FloatKind.f32.format.write).getD _ = _
  rw [hx, hy]
  exact ⟨_, rfl⟩
theorem sm_sub32 {x y : Nat} {a b e : Int} (hx : Sm .f32 a x) (hy : Sm .f32 b y) (ha : a + 1 ≤ e) (hb : b + 1 ≤ e) (h1 : -100 ≤ e) (h2 : e ≤ 126) : Sm .f32 e (fbin .sub .f32 x y) := by
  obtain ⟨s, m, i, hx, hm⟩ := hx
  obtain ⟨t, n, j, hy, hn⟩ := hy
  obtain ⟨u, hu⟩ := fbin_sub_of32 hx hy
  rw [hu]
  exact sm_nearest32 _ _ _ e (MagLe.add hm hn ha hb) h1 h2
theorem sm_add32 {x y : Nat} {a b e : Int} (hx : Sm .f32 a x) (hy : Sm .f32 b y) (ha : a + 1 ≤ e) (hb : b + 1 ≤ e) (h1 : -100 ≤ e) (h2 : e ≤ 126) : Sm .f32 e (fbin .add .f32 x y) := by
  obtain ⟨s, m, i, hx, hm⟩ := hx
  obtain ⟨t, n, j, hy, hn⟩ := hy
  obtain ⟨u, hu⟩ := fbin_add_of32 hx hy
  rw [hu]
  exact sm_nearest32 _ _ _ e (MagLe.add hm hn ha hb) h1 h2
def dq (a b : Nat) : Nat := fbin .sub .f32 (wrapQ b) (wrapQ a)
def apartQ (a b : Nat) : Nat := if gtF .f32 (dq a b) 1056964608 then fbin .sub .f32 (dq a b) 1065353216 else if leF .f32 (dq a b) 3204448256 then fbin .add .f32 (dq a b) 1065353216 else dq a b
theorem dq_sm {a b : Nat} (ha : finB .f32 a = true) (hb : finB .f32 b = true) : Sm .f32 1 (dq a b) := sm_sub32 (wrap_sm hb) (wrap_sm ha) (by decide) (by decide) (by decide) (by decide)
theorem one_sm : Sm .f32 0 1065353216 := ⟨false, 8388608, -23, by decide +kernel, magLe_iff.2 (.inr ⟨by decide, by decide⟩)⟩
theorem apart_sm {a b : Nat} (ha : finB .f32 a = true) (hb : finB .f32 b = true) : Sm .f32 2 (apartQ a b) := by
  unfold apartQ
  split
  · exact sm_sub32 (dq_sm ha hb) one_sm (by decide) (by decide) (by decide) (by decide)
  · split
    · exact sm_add32 (dq_sm ha hb) one_sm (by decide) (by decide) (by decide) (by decide)
    · exact (dq_sm ha hb).mono (by decide)
theorem wrap_cn {x : Nat} (h : finB .f32 x = true) : cn .f32 (wrapQ x) = wrapQ x := cn_of_not (wrap_sm h).not_nan
theorem dq_of {a b r : Nat} (ha : finB .f32 a = true) (hb : finB .f32 b = true) (h : cn .f32 r = fbin .sub .f32 (cn .f32 (wrapQ b)) (cn .f32 (wrapQ a))) : r = dq a b := by
  rw [wrap_cn ha, wrap_cn hb] at h
  exact exact_of h (dq_sm ha hb).not_nan
theorem dq_cn {a b : Nat} (ha : finB .f32 a = true) (hb : finB .f32 b = true) : cn .f32 (dq a b) = dq a b := cn_of_not (dq_sm ha hb).not_nan

set_option maxRecDepth 100000 in
set_option maxHeartbeats 1000000 in
theorem l05Apart_any (a b : Nat) (w : World) (ha : finB .f32 a = true) (hb : finB .f32 b = true) : Calls Try.prog 89 #[.float .f32 a, .float .f32 b] w (RF .f32 (apartQ a b) w) := by
  cases c0 : gtF .f32 (dq a b) 1056964608 <;> cases c1 : leF .f32 (dq a b) 3204448256
  all_goals
    have HW : Hid (apartQ a b = if gtF .f32 (dq a b) 1056964608 then fbin .sub .f32 (dq a b) 1065353216 else if leF .f32 (dq a b) 3204448256 then fbin .add .f32 (dq a b) 1065353216 else dq a b) := rfl
    go_enter Try.func89, Try.ntmps89
    go_wp2_with (first | (go_at_call 79; refine (l05Wrap_any _ _ (by assumption)).mono ?_; rintro e w' ⟨n, rfl, rfl⟩) | ((refine wpList_fbin rfl rfl rfl rfl rfl (fun r n hr => ?_)); obtain rfl := dq_of ha hb hr.out; clear hr) | (refine wpList_fbin rfl rfl rfl rfl rfl (fun r n hr => ?_)))
    go_ret
    refine ⟨_, _, rfl, ?_, rfl⟩
    rw [HW.out, c0, c1]
    first | (simp; exact dq_cn ha hb; done) | (simp; have := hr.out; rw [dq_cn ha hb, show cn .f32 1065353216 = 1065353216 by decide +kernel] at this; exact this)

theorem wrapped_any (x : Nat) (w : World) (hfin : finB .f32 x = true) : Calls Try.prog 111 #[.float .f32 x] w (RX .f32 (wrapQ x) w) := by
  go_enter Try.func111, Try.ntmps111
  go_wp2_with (first | (go_at_call 38; refine (implWrap_fin _ _ hfin).mono ?_; rintro e w' ⟨n, rfl, rfl⟩))
  go_ret
  exact ⟨_, rfl, rfl⟩

set_option maxRecDepth 100000 in
set_option maxHeartbeats 1000000 in
theorem apart_any (a b : Nat) (w : World) (ha : finB .f32 a = true) (hb : finB .f32 b = true) : Calls Try.prog 90 #[.float .f32 a, .float .f32 b] w (RF .f32 (apartQ a b) w) := by
  cases c0 : gtF .f32 (dq a b) 1056964608 <;> cases c1 : leF .f32 (dq a b) 3204448256
  all_goals
    have HW : Hid (apartQ a b = if gtF .f32 (dq a b) 1056964608 then fbin .sub .f32 (dq a b) 1065353216 else if leF .f32 (dq a b) 3204448256 then fbin .add .f32 (dq a b) 1065353216 else dq a b) := rfl
    go_enter Try.func90, Try.ntmps90
    go_wp2_with (first | (go_at_call 111; refine (wrapped_any _ _ (by assumption)).mono ?_; rintro e w' ⟨n, rfl, rfl⟩) | ((refine wpList_fbin rfl rfl rfl rfl rfl (fun r n hr => ?_)); obtain rfl := dq_of ha hb hr.out; clear hr) | (refine wpList_fbin rfl rfl rfl rfl rfl (fun r n hr => ?_)))
    go_ret
    refine ⟨_, _, rfl, ?_, rfl⟩
    rw [HW.out, c0, c1]
    first | (simp; exact dq_cn ha hb; done) | (simp; have := hr.out; rw [dq_cn ha hb, show cn .f32 1065353216 = 1065353216 by decide +kernel] at this; exact this)

theorem pf_y {r Q : Nat} {b : Bool} {w w' : World} (hq : cn .f32 r = Q) (hb : b = true) (h : Below w.heap.size w w') : PF (condF b Q) b w (.returned (.tuple #[.float .f32 r, .bool true])) w' := by
  subst hb
  exact ⟨_, rfl, hq, h⟩
theorem specTurnsApart_any (a b : Nat) (w : World) : Calls Try.prog 50 #[.float .f32 a, .float .f32 b] w (PF (condF (fin2 a b) (apartQ a b)) (fin2 a b) w) := by
  cases ha : finB .f32 a <;> cases hb : finB .f32 b
  all_goals
    have hf : fin2 a b = (finB .f32 a && finB .f32 b) := rfl
    rw [ha, hb] at hf
    rw [hf]
    clear hf
    go_enter Try.func50, Try.ntmps50
    go_wp2_with (first | (go_at_call 64; refine (l01Finite_any _ _).mono ?_; rintro e w' ⟨n, rfl, rfl⟩) | (go_at_call 89; refine (l05Apart_any _ _ _ ha hb).mono ?_; rintro e w' ⟨r, n, rfl, hq, rfl⟩; have HQ := Lib.hid hq; clear hq))
    go_ret2
    first | ((refine pf_y HQ.out rfl ?_); (repeat (first | (with_reducible exact Below.refl _ _) | (with_reducible refine Below.drewN ?_ _) | (with_reducible refine Below.drew ?_) | (with_reducible refine Below.allocS ?_ _) | ((with_reducible refine Below.setCell ?_ ?_ _); rotate_left; focus (first | omega | (simp; done) | (simp; omega))) | (with_reducible refine Below.step ?_ (by assumption)))); done) | ((refine pf_none rfl ?_); (repeat (first | (with_reducible exact Below.refl _ _) | (with_reducible refine Below.drewN ?_ _) | (with_reducible refine Below.drew ?_) | (with_reducible refine Below.allocS ?_ _) | ((with_reducible refine Below.setCell ?_ ?_ _); rotate_left; focus (first | omega | (simp; done) | (simp; omega))) | (with_reducible refine Below.step ?_ (by assumption)))); done)

theorem implTurnsApart_any (a b : Nat) (w : World) : Calls Try.prog 51 #[.float .f32 a, .float .f32 b] w (PF (condF (fin2 a b) (apartQ a b)) (fin2 a b) w) := by
  cases h2 : fin2 a b
  all_goals
    have hab : fin2 a b = true → finB .f32 a = true ∧ finB .f32 b = true := fun h => by unfold fin2 at h; simpa using h
    have HAB := Lib.hid hab
    clear hab
    go_enter Try.func51, Try.ntmps51
    go_wp2_with fail
    refine (finite2_any a b _ _ ?_ ?_).mono ?_
    · simp [go_sem]
    · simp [go_sem]
    rintro e w' ⟨n, rfl, rfl⟩
    go_wp2_with (first | (go_at_call 90; refine (apart_any _ _ _ (HAB.out h2).1 (HAB.out h2).2).mono ?_; rintro e w' ⟨r, n, rfl, hq, rfl⟩; have HQ := Lib.hid hq; clear hq))
    go_ret2
    first | ((refine pf_y HQ.out rfl ?_); (repeat (first | (with_reducible exact Below.refl _ _) | (with_reducible refine Below.drewN ?_ _) | (with_reducible refine Below.drew ?_) | (with_reducible refine Below.allocS ?_ _) | ((with_reducible refine Below.setCell ?_ ?_ _); rotate_left; focus (first | omega | (simp; done) | (simp; omega))) | (with_reducible refine Below.step ?_ (by assumption)))); done) | ((refine pf_none rfl ?_); (repeat (first | (with_reducible exact Below.refl _ _) | (with_reducible refine Below.drewN ?_ _) | (with_reducible refine Below.drew ?_) | (with_reducible refine Below.allocS ?_ _) | ((with_reducible refine Below.setCell ?_ ?_ _); rotate_left; focus (first | omega | (simp; done) | (simp; omega))) | (with_reducible refine Below.step ?_ (by assumption)))); done)

set_option maxRecDepth 100000 in
set_option maxHeartbeats 4000000 in
theorem lawTurnsApart_walk (z0 z1 : Nat) (_ : z0 < 4294967296) (_ : z1 < 4294967296) (w : World) : Calls Try.prog 14 #[.float .f32 z0, .float .f32 z1] w fun e w' => e = .returned (.bool true) ∧ Below w.heap.size w w' := by
  go_enter Try.func14, Try.ntmps14
  go_wp2_with fail
  refine (specTurnsApart_any z0 z1 _).mono ?_
  rintro e w1 ⟨r0_0, rfl, q0_0, hb⟩
  have Hq0_0 := Lib.hid q0_0
  clear q0_0
  go_wp2_with fail
  refine (implTurnsApart_any z0 z1 _).mono ?_
  rintro e w3 ⟨r1_0, rfl, q1_0, hb⟩
  have Hq1_0 := Lib.hid q1_0
  clear q1_0
  go_wp2_with (first | (refine wpList_widen rfl rfl Try.underlying34 Try.underlying22 rfl (fun r n hr => ?_)) | (go_at_call 21; refine (sameFloat_any _ _ _ (widen_same (Hid.out (by assumption)) (Hid.out (by assumption)) (Hq1_0.out.trans Hq0_0.out.symm))).mono ?_; rintro e w' ⟨n, rfl, rfl⟩))
  go_ret
  refine ⟨rfl, ?_⟩
  (try have hB := hC.1.2)
  (repeat (first | assumption | (with_reducible exact Below.refl _ _) | (with_reducible refine Below.drewN ?_ _) | (with_reducible refine Below.drew ?_) | (with_reducible refine Below.allocS ?_ _) | ((with_reducible refine Below.setCell ?_ ?_ _); rotate_left; focus (first | omega | (simp; done) | (simp; omega))) | (with_reducible refine Below.step ?_ (by assumption))))

end Go.Proofs.Ytciamnnfnbmjpaa
