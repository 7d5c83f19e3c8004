/-
  The walks of roots, of spins' sizes, of wrapped turns, of tops compared.
-/
import Derived.Test.YtbmabpnolheghaaWk
import Derived.Test.YtbmabpnolheghaaNw
set_option linter.unusedVariables false
set_option linter.unusedSimpArgs false
namespace Go.Proofs.Ytbmabpnolheghaa
open Go.RowKit

theorem exact_of {k : FloatKind} {r X : Nat} (h : cn k r = X) (hn : isN k X = false) : r = X := by
  have : isN k r = false := by rw [← isN_cn, h, hn]
  rw [← h, cn_of_not this]
/-- It returns just this float; some draws. -/
def RX (k : FloatKind) (x : Nat) (w : World) (e : Ending) (w' : World) : Prop := ∃ n, e = .returned (.float k x) ∧ w' = w.drewN n
/-- It returns a float narrowed. -/
def RN (x : Nat) (w : World) (e : Ending) (w' : World) : Prop := ∃ r n, e = .returned (.float .f32 r) ∧ (convOk .f64 .f32 (cn .f64 x) = true → cn .f32 r = fconv .f64 .f32 (cn .f64 x)) ∧ w' = w.drewN n
def rootQ (x : Nat) : Nat := fconv .f64 .f32 (fsqrt (fconv .f32 .f64 x))

set_option maxRecDepth 100000 in
theorem mathSqrt_any (x : Nat) (w : World) : Calls Try.prog 166 #[.float .f64 x] w (RF .f64 (fsqrt (cn .f64 x)) w) := by
  go_enter Try.func166, Try.ntmps166
  go_wp2_with (first | (refine wpList_sqrt rfl (by simp [execOp, resolve, invoke, go_sem]; exact run_callFunc_extern Try.func184 (by kernel_rfl) (by kernel_rfl) (by kernel_rfl) (e := Extern.MathSqrt.sqrt) (by kernel_rfl) _ _) (fun r n hr => ?_)))
  go_ret
  exact ⟨_, _, rfl, hr.out, rfl⟩

set_option maxRecDepth 100000 in
theorem l01Narrow_any (x : Nat) (w : World) : Calls Try.prog 168 #[.float .f64 x] w (RN x w) := by
  go_enter Try.func168, Try.ntmps168
  go_wp2_with (first | (refine wpList_narrow rfl rfl Try.underlying23 Try.underlying85 rfl (fun r n hr => ?_)))
  go_ret
  exact ⟨_, _, rfl, hr.out, rfl⟩

set_option maxRecDepth 100000 in
theorem l01Sqrt_any (x : Nat) (w : World) : Calls Try.prog 147 #[.float .f32 x] w (RF .f32 (rootQ (cn .f32 x)) w) := by
  go_enter Try.func147, Try.ntmps147
  go_wp2_with (first | (refine wpList_widen rfl rfl Try.underlying85 Try.underlying23 rfl (fun r n hr => ?_)) | (go_at_call 166; refine (mathSqrt_any _ _).mono ?_; rintro e w' ⟨r, n, rfl, hq, rfl⟩; have HQ := Lib.hid hq; clear hq) | (go_at_call 168; refine (l01Narrow_any _ _).mono ?_; rintro e w' ⟨r, n, rfl, hq, rfl⟩; have HR := Lib.hid hq; clear hq))
  go_ret
  refine ⟨_, _, rfl, ?_, rfl⟩
  have h6 := HR.out
  clear HR
  simp only [Hid] at *
  simp only [*] at h6
  exact h6 (root_ok _)

set_option maxRecDepth 100000 in
theorem RootNumber_any (x : Nat) (w : World) : Calls Try.prog 142 #[.float .f32 x] w (RF .f32 (rootQ (cn .f32 x)) w) := by
  go_enter Try.func142, Try.ntmps142
  go_wp2_with (first | (refine wpList_widen rfl rfl Try.underlying85 Try.underlying23 rfl (fun r n hr => ?_)) | (go_at_call 166; refine (mathSqrt_any _ _).mono ?_; rintro e w' ⟨r, n, rfl, hq, rfl⟩; have HQ := Lib.hid hq; clear hq) | (refine wpList_narrow rfl rfl Try.underlying23 Try.underlying85 rfl (fun r n hr => ?_)))
  go_ret
  refine ⟨_, _, rfl, ?_, rfl⟩
  have h6 := hr.out
  clear hr
  simp only [Hid] at *
  simp only [*] at h6
  exact h6 (root_ok _)

set_option maxRecDepth 100000 in
theorem mathFloor_any (x : Nat) (w : World) : Calls Try.prog 185 #[.float .f64 x] w (RF .f64 (fwhole .down (cn .f64 x)) w) := by
  go_enter Try.func185, Try.ntmps185
  go_wp2_with (first | (refine wpList_whole rfl (by simp [execOp, resolve, invoke, go_sem]; exact run_callFunc_extern Try.func204 (by kernel_rfl) (by kernel_rfl) (by kernel_rfl) (e := Extern.MathFloor.toIntegral "math.archFloor" .down) (by kernel_rfl) _ _) (fun r n hr => ?_)))
  go_ret
  exact ⟨_, _, rfl, hr.out, rfl⟩

def prodQ (a0 a1 a2 a3 b0 b1 b2 b3 : Nat) : Nat := fbin .add .f32 (fbin .add .f32 (fbin .add .f32 (mulC a0 b0) (mulC a1 b1)) (mulC a2 b2)) (mulC a3 b3)
def sizeQ (x0 x1 x2 x3 : Nat) : Nat := rootQ (prodQ x0 x1 x2 x3 x0 x1 x2 x3)

set_option maxRecDepth 100000 in
set_option maxHeartbeats 4000000 in
theorem products_any (a0 a1 a2 a3 b0 b1 b2 b3 : Nat) (w : World) : Calls Try.prog 143 #[.agg #[.float .f32 a0, .float .f32 a1, .float .f32 a2, .float .f32 a3], .agg #[.float .f32 b0, .float .f32 b1, .float .f32 b2, .float .f32 b3]] w (BF .f32 (prodQ a0 a1 a2 a3 b0 b1 b2 b3) w) := by
  go_enter Try.func143, Try.ntmps143
  go_wp2_with (first | (refine wpList_fbin rfl rfl rfl rfl rfl (fun r n hr => ?_)))
  go_ret
  refine ⟨_, rfl, ?_, ?_⟩
  · unfold prodQ mulC
    simp only [Hid] at *
    simp only [*]
  · (repeat (first | (with_reducible exact Below.refl _ _) | (with_reducible refine Below.drewN ?_ _) | (with_reducible refine Below.drew ?_) | (with_reducible refine Below.allocS ?_ _) | ((with_reducible refine Below.setCell ?_ ?_ _); rotate_left; focus (first | omega | (simp; done) | (simp; omega))) | (with_reducible refine Below.step ?_ (by assumption))))

set_option maxRecDepth 100000 in
set_option maxHeartbeats 4000000 in
theorem l04Size_any (x0 x1 x2 x3 : Nat) (w : World) : Calls Try.prog 139 #[.agg #[.float .f32 x0, .float .f32 x1, .float .f32 x2, .float .f32 x3]] w (BF .f32 (sizeQ x0 x1 x2 x3) w) := by
  go_enter Try.func139, Try.ntmps139
  go_wp2_with (first | (refine wpList_fbin rfl rfl rfl rfl rfl (fun r n hr => ?_)) | (go_at_call 147; refine (l01Sqrt_any _ _).mono ?_; rintro e w' ⟨r, n, rfl, hq, rfl⟩; have HQ := Lib.hid hq; clear hq))
  go_ret
  refine ⟨_, rfl, ?_, ?_⟩
  · unfold sizeQ prodQ mulC
    simp only [Hid] at *
    simp only [*]
  · (repeat (first | (with_reducible exact Below.refl _ _) | (with_reducible refine Below.drewN ?_ _) | (with_reducible refine Below.drew ?_) | (with_reducible refine Below.allocS ?_ _) | ((with_reducible refine Below.setCell ?_ ?_ _); rotate_left; focus (first | omega | (simp; done) | (simp; omega))) | (with_reducible refine Below.step ?_ (by assumption))))


set_option maxRecDepth 100000 in
set_option maxHeartbeats 4000000 in
theorem implSizeOfSpin_any (x0 x1 x2 x3 : Nat) (w : World) : Calls Try.prog 98 #[.agg #[.float .f32 x0, .float .f32 x1, .float .f32 x2, .float .f32 x3]] w (BF .f32 (sizeQ x0 x1 x2 x3) w) := by
  go_enter Try.func98, Try.ntmps98
  go_wp2_with (first | (go_at_call 143; refine (products_any _ _ _ _ _ _ _ _ _).mono ?_; rintro e w1 ⟨r, rfl, hq, hb⟩; have HQ := Lib.hid hq; clear hq; have hk := Held.below hb (l := [(⟨w.heap.size, 0, none⟩, .float .f32 x0), (⟨w.heap.size, 1, none⟩, .float .f32 x1), (⟨w.heap.size, 2, none⟩, .float .f32 x2), (⟨w.heap.size, 3, none⟩, .float .f32 x3)]) (by simp [Held, go_sem, *]); simp only [Held, and_true] at hk) | (go_at_call 142; refine (RootNumber_any _ _).mono ?_; rintro e w' ⟨r, n, rfl, hq, rfl⟩; have HQ := Lib.hid hq; clear hq))
  go_ret
  refine ⟨_, rfl, ?_, ?_⟩
  · unfold sizeQ
    simp only [Hid] at *
    simp only [*]
  · (repeat (first | (with_reducible exact Below.refl _ _) | (with_reducible refine Below.drewN ?_ _) | (with_reducible refine Below.drew ?_) | (with_reducible refine Below.allocS ?_ _) | ((with_reducible refine Below.setCell ?_ ?_ _); rotate_left; focus (first | omega | (simp; done) | (simp; omega))) | (with_reducible refine Below.step ?_ (by assumption))))


def wq (x : Nat) : Nat := fconv .f64 .f32 (fbin .sub .f64 (fconv .f32 .f64 (cn .f32 x)) (fwhole .down (fconv .f32 .f64 (cn .f32 x))))
theorem wq_sm {x : Nat} (h : finB .f32 x = true) : Sm .f32 0 (wq x) := narrow_sm (frac32 .down (by rw [finB_cn]; exact h)) (by decide) (by decide)
theorem wq_ok {x : Nat} (h : finB .f32 x = true) : convOk .f64 .f32 (fbin .sub .f64 (fconv .f32 .f64 (cn .f32 x)) (fwhole .down (fconv .f32 .f64 (cn .f32 x)))) = true := (narrow_ok (frac32 .down (by rw [finB_cn]; exact h)) (by decide)).1
theorem wq_num {x : Nat} (h : finB .f32 x = true) : isN .f32 (wq x) = false := (wq_sm h).not_nan
def wrapQ (x : Nat) : Nat := if eqF .f32 (wq x) 0 || eqF .f32 (wq x) 1065353216 then 0 else wq x
theorem wrap_sm {x : Nat} (h : finB .f32 x = true) : Sm .f32 0 (wrapQ x) := by
  unfold wrapQ
  split
  · exact ⟨false, 0, -149, by decide +kernel, .inl rfl⟩
  · exact wq_sm h
theorem wq_ge {x : Nat} (h : finB .f32 x = true) : geF .f32 (wq x) 1065353216 = eqF .f32 (wq x) 1065353216 := by
  unfold geF
  rw [le_one (wq_sm h), Bool.false_or]

set_option maxRecDepth 100000 in
set_option maxHeartbeats 1000000 in
theorem l05Wrap_any (x : Nat) (w : World) (hfin : finB .f32 x = true) : Calls Try.prog 167 #[.float .f32 x] w (RX .f32 (wrapQ x) w) := by
  have hg := wq_ge hfin
  have hgt := le_one (wq_sm hfin)
  cases c0 : eqF .f32 (wq x) 0 <;> cases c1 : eqF .f32 (wq x) 1065353216
  all_goals
    have HW : Hid (wrapQ x = if eqF .f32 (wq x) 0 || eqF .f32 (wq x) 1065353216 then 0 else wq x) := rfl
    rw [c1] at hg
    go_enter Try.func167, Try.ntmps167
    go_wp2_with (first | (refine wpList_widen rfl rfl Try.underlying85 Try.underlying23 rfl (fun r n hr => ?_)) | (refine wpList_fbin rfl rfl rfl rfl rfl (fun r n hr => ?_)) | (go_at_call 185; refine (mathFloor_any _ _).mono ?_; rintro e w' ⟨r, n, rfl, hq, rfl⟩; have HQ := Lib.hid hq; clear hq) | (go_at_call 168; refine (l01Narrow_any _ _).mono ?_; rintro e w' ⟨r, n, rfl, hq, rfl⟩; have h5 : cn .f32 r = wq x := (by have h6 := hq; clear hq; simp only [Hid] at *; simp only [*] at h6; exact h6 (wq_ok hfin)); obtain rfl := exact_of h5 (wq_num hfin); clear h5 hq))
    go_ret
    refine ⟨_, ret_float ?_, rfl⟩
    rw [HW.out, c0, c1]
    rfl

set_option maxRecDepth 100000 in
set_option maxHeartbeats 1000000 in
theorem implWrap_fin (x : Nat) (w : World) (hfin : finB .f32 x = true) : Calls Try.prog 186 #[.float .f32 x] w fun e w' => ∃ n, e = .returned (.tuple #[.float .f32 (wrapQ x), .bool true]) ∧ w' = w.drewN n := by
  cases c0 : eqF .f32 (wq x) 0 <;> cases c1 : eqF .f32 (wq x) 1065353216
  all_goals
    have HW : wrapQ x = if eqF .f32 (wq x) 0 || eqF .f32 (wq x) 1065353216 then 0 else wq x := rfl
    rw [c0, c1] at HW
    simp only [Bool.or_false, Bool.or_true, Bool.false_eq_true, if_true, if_false] at HW
    rw [HW]
    clear HW
    go_enter Try.func186, Try.ntmps186
    go_wp2_with (first | (refine wpList_widen rfl rfl Try.underlying85 Try.underlying23 rfl (fun r n hr => ?_)) | (refine wpList_fbin rfl rfl rfl rfl rfl (fun r n hr => ?_)) | (go_at_call 79; refine (IsFinite_any _ _).mono ?_; rintro e w' ⟨n, rfl, rfl⟩) | (go_at_call 185; refine (mathFloor_any _ _).mono ?_; rintro e w' ⟨r, n, rfl, hq, rfl⟩; have HQ := Lib.hid hq; clear hq) | ((refine wpList_narrow rfl rfl Try.underlying23 Try.underlying85 rfl (fun r n hr => ?_)); have hq := hr.out; clear hr; have h5 : cn .f32 r = wq x := (by have h6 := hq; clear hq; simp only [Hid] at *; simp only [*] at h6; exact h6 (wq_ok hfin)); obtain rfl := exact_of h5 (wq_num hfin); clear h5 hq))
    go_ret2
    exact ⟨_, rfl, rfl⟩

theorem pf_x {Q : Nat} {b : Bool} {w w' : World} (hq : isN .f32 Q = false) (hb : b = true) (h : Below w.heap.size w w') : PF (condF b Q) b w (.returned (.tuple #[.float .f32 Q, .bool true])) w' := by
  subst hb
  exact ⟨_, rfl, cn_of_not hq, h⟩


theorem implWrapTurn_any (x : Nat) (w : World) : Calls Try.prog 186 #[.float .f32 x] w (PF (condF (finB .f32 x) (wrapQ x)) (finB .f32 x) w) := by
  cases hfin : finB .f32 x
  · go_enter Try.func186, Try.ntmps186
    go_wp2_with (first | (go_at_call 79; refine (IsFinite_any _ _).mono ?_; rintro e w' ⟨n, rfl, rfl⟩))
    go_ret2
    refine pf_none rfl ?_
    (repeat (first | (with_reducible exact Below.refl _ _) | (with_reducible refine Below.drewN ?_ _) | (with_reducible refine Below.drew ?_) | (with_reducible refine Below.allocS ?_ _) | ((with_reducible refine Below.setCell ?_ ?_ _); rotate_left; focus (first | omega | (simp; done) | (simp; omega))) | (with_reducible refine Below.step ?_ (by assumption))))
  · refine (implWrap_fin x w hfin).mono ?_
    rintro e w' ⟨n, rfl, rfl⟩
    refine pf_x (wrap_sm hfin).not_nan rfl ?_
    (repeat (first | (with_reducible exact Below.refl _ _) | (with_reducible refine Below.drewN ?_ _) | (with_reducible refine Below.drew ?_) | (with_reducible refine Below.allocS ?_ _) | ((with_reducible refine Below.setCell ?_ ?_ _); rotate_left; focus (first | omega | (simp; done) | (simp; omega))) | (with_reducible refine Below.step ?_ (by assumption))))


theorem fbin_sub_of32 {x y : Nat} {s t : Bool} {m n : Nat} {i j : Int} (hx : FloatKind.f32.decode x = .number s m i) (hy : FloatKind.f32.decode y = .number t n j) :
    ∃ u, fbin .sub .f32 x y = FloatKind.f32.format.nearest u (Ieee.signed s m (i - min i j).toNat + Ieee.signed (!t) n (j - min i j).toNat).natAbs (min i j) := by
  unfold fbin floatBits Ieee.Format.sub
  show ∃ u, (((FloatKind.f32.decode x).sum (FloatKind.f32.decode y).opposite).map FloatKind.f32.format.write).getD _ = _
  rw [hx, hy]
  exact ⟨_, rfl⟩
theorem fbin_add_of32 {x y : Nat} {s t : Bool} {m n : Nat} {i j : Int} (hx : FloatKind.f32.decode x = .number s m i) (hy : FloatKind.f32.decode y = .number t n j) :
    ∃ u, fbin .add .f32 x y = FloatKind.f32.format.nearest u (Ieee.signed s m (i - min i j).toNat + Ieee.signed t n (j - min i j).toNat).natAbs (min i j) := by
  unfold fbin floatBits Ieee.Format.add
  show ∃ u, (((FloatKind.f32.decode x).sum (FloatKind.f32.decode y)).map FloatKind.f32.format.write).getD _ = _
  rw [hx, hy]
  exact ⟨_, rfl⟩
theorem sm_sub32 {x y : Nat} {a b e : Int} (hx : Sm .f32 a x) (hy : Sm .f32 b y) (ha : a + 1 ≤ e) (hb : b + 1 ≤ e) (h1 : -100 ≤ e) (h2 : e ≤ 126) : Sm .f32 e (fbin .sub .f32 x y) := by
  obtain ⟨s, m, i, hx, hm⟩ := hx
  obtain ⟨t, n, j, hy, hn⟩ := hy
  obtain ⟨u, hu⟩ := fbin_sub_of32 hx hy
  rw [hu]
  exact sm_nearest32 _ _ _ e (MagLe.add hm hn ha hb) h1 h2
theorem sm_add32 {x y : Nat} {a b e : Int} (hx : Sm .f32 a x) (hy : Sm .f32 b y) (ha : a + 1 ≤ e) (hb : b + 1 ≤ e) (h1 : -100 ≤ e) (h2 : e ≤ 126) : Sm .f32 e (fbin .add .f32 x y) := by
  obtain ⟨s, m, i, hx, hm⟩ := hx
  obtain ⟨t, n, j, hy, hn⟩ := hy
  obtain ⟨u, hu⟩ := fbin_add_of32 hx hy
  rw [hu]
  exact sm_nearest32 _ _ _ e (MagLe.add hm hn ha hb) h1 h2
def dq (a b : Nat) : Nat := fbin .sub .f32 (wrapQ b) (wrapQ a)
def apartQ (a b : Nat) : Nat := if gtF .f32 (dq a b) 1056964608 then fbin .sub .f32 (dq a b) 1065353216 else if leF .f32 (dq a b) 3204448256 then fbin .add .f32 (dq a b) 1065353216 else dq a b
theorem dq_sm {a b : Nat} (ha : finB .f32 a = true) (hb : finB .f32 b = true) : Sm .f32 1 (dq a b) := sm_sub32 (wrap_sm hb) (wrap_sm ha) (by decide) (by decide) (by decide) (by decide)
theorem one_sm : Sm .f32 0 1065353216 := ⟨false, 8388608, -23, by decide +kernel, magLe_iff.2 (.inr ⟨by decide, by decide⟩)⟩
theorem apart_sm {a b : Nat} (ha : finB .f32 a = true) (hb : finB .f32 b = true) : Sm .f32 2 (apartQ a b) := by
  unfold apartQ
  split
  · exact sm_sub32 (dq_sm ha hb) one_sm (by decide) (by decide) (by decide) (by decide)
  · split
    · exact sm_add32 (dq_sm ha hb) one_sm (by decide) (by decide) (by decide) (by decide)
    · exact (dq_sm ha hb).mono (by decide)
theorem wrap_cn {x : Nat} (h : finB .f32 x = true) : cn .f32 (wrapQ x) = wrapQ x := cn_of_not (wrap_sm h).not_nan
theorem dq_of {a b r : Nat} (ha : finB .f32 a = true) (hb : finB .f32 b = true) (h : cn .f32 r = fbin .sub .f32 (cn .f32 (wrapQ b)) (cn .f32 (wrapQ a))) : r = dq a b := by
  rw [wrap_cn ha, wrap_cn hb] at h
  exact exact_of h (dq_sm ha hb).not_nan
theorem dq_cn {a b : Nat} (ha : finB .f32 a = true) (hb : finB .f32 b = true) : cn .f32 (dq a b) = dq a b := cn_of_not (dq_sm ha hb).not_nan



theorem pf_y {r Q : Nat} {b : Bool} {w w' : World} (hq : cn .f32 r = Q) (hb : b = true) (h : Below w.heap.size w w') : PF (condF b Q) b w (.returned (.tuple #[.float .f32 r, .bool true])) w' := by
  subst hb
  exact ⟨_, rfl, hq, h⟩


end Go.Proofs.Ytbmabpnolheghaa
