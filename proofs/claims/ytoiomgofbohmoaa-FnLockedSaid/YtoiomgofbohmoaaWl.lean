/-
  The walks of roots, of spins' sizes, of wrapped turns, of tops compared.
-/
import Derived.Test.YtoiomgofbohmoaaWk
import Derived.Test.YtoiomgofbohmoaaNw
set_option linter.unusedVariables false
set_option linter.unusedSimpArgs false
namespace Go.Proofs.Ytoiomgofbohmoaa
open Go.RowKit

theorem exact_of {k : FloatKind} {r X : Nat} (h : cn k r = X) (hn : isN k X = false) : r = X := by
  have : isN k r = false := by rw [← isN_cn, h, hn]
  rw [← h, cn_of_not this]
/-- It returns just this float; some draws. -/
def RX (k : FloatKind) (x : Nat) (w : World) (e : Ending) (w' : World) : Prop := ∃ n, e = .returned (.float k x) ∧ w' = w.drewN n
/-- It returns a float narrowed. -/
def RN (x : Nat) (w : World) (e : Ending) (w' : World) : Prop := ∃ r n, e = .returned (.float .f32 r) ∧ (convOk .f64 .f32 (cn .f64 x) = true → cn .f32 r = fconv .f64 .f32 (cn .f64 x)) ∧ w' = w.drewN n
def rootQ (x : Nat) : Nat := fconv .f64 .f32 (fsqrt (fconv .f32 .f64 x))

set_option maxRecDepth 100000 in
theorem mathSqrt_any (x : Nat) (w : World) : Calls Try.prog 28 #[.float .f64 x] w (RF .f64 (fsqrt (cn .f64 x)) w) := by
  go_enter Try.func28, Try.ntmps28
  go_wp2_with (first | (refine wpList_sqrt rfl (by simp [execOp, resolve, invoke, go_sem]; exact run_callFunc_extern Try.func36 (by kernel_rfl) (by kernel_rfl) (by kernel_rfl) (e := Extern.MathSqrt.sqrt) (by kernel_rfl) _ _) (fun r n hr => ?_)))
  go_ret
  exact ⟨_, _, rfl, hr.out, rfl⟩

set_option maxRecDepth 100000 in
theorem l01Narrow_any (x : Nat) (w : World) : Calls Try.prog 29 #[.float .f64 x] w (RN x w) := by
  go_enter Try.func29, Try.ntmps29
  go_wp2_with (first | (refine wpList_narrow rfl rfl Try.underlying24 Try.underlying28 rfl (fun r n hr => ?_)))
  go_ret
  exact ⟨_, _, rfl, hr.out, rfl⟩


set_option maxRecDepth 100000 in
theorem RootNumber_any (x : Nat) (w : World) : Calls Try.prog 17 #[.float .f32 x] w (RF .f32 (rootQ (cn .f32 x)) w) := by
  go_enter Try.func17, Try.ntmps17
  go_wp2_with (first | (refine wpList_widen rfl rfl Try.underlying28 Try.underlying24 rfl (fun r n hr => ?_)) | (go_at_call 28; refine (mathSqrt_any _ _).mono ?_; rintro e w' ⟨r, n, rfl, hq, rfl⟩; have HQ := Lib.hid hq; clear hq) | (refine wpList_narrow rfl rfl Try.underlying24 Try.underlying28 rfl (fun r n hr => ?_)))
  go_ret
  refine ⟨_, _, rfl, ?_, rfl⟩
  have h6 := hr.out
  clear hr
  simp only [Hid] at *
  simp only [*] at h6
  exact h6 (root_ok _)


def prodQ (a0 a1 a2 a3 b0 b1 b2 b3 : Nat) : Nat := fbin .add .f32 (fbin .add .f32 (fbin .add .f32 (mulC a0 b0) (mulC a1 b1)) (mulC a2 b2)) (mulC a3 b3)
def sizeQ (x0 x1 x2 x3 : Nat) : Nat := rootQ (prodQ x0 x1 x2 x3 x0 x1 x2 x3)






def wq (x : Nat) : Nat := fconv .f64 .f32 (fbin .sub .f64 (fconv .f32 .f64 (cn .f32 x)) (fwhole .down (fconv .f32 .f64 (cn .f32 x))))
theorem wq_sm {x : Nat} (h : finB .f32 x = true) : Sm .f32 0 (wq x) := narrow_sm (frac32 .down (by rw [finB_cn]; exact h)) (by decide) (by decide)
theorem wq_ok {x : Nat} (h : finB .f32 x = true) : convOk .f64 .f32 (fbin .sub .f64 (fconv .f32 .f64 (cn .f32 x)) (fwhole .down (fconv .f32 .f64 (cn .f32 x)))) = true := (narrow_ok (frac32 .down (by rw [finB_cn]; exact h)) (by decide)).1
theorem wq_num {x : Nat} (h : finB .f32 x = true) : isN .f32 (wq x) = false := (wq_sm h).not_nan
def wrapQ (x : Nat) : Nat := if eqF .f32 (wq x) 0 || eqF .f32 (wq x) 1065353216 then 0 else wq x
theorem wrap_sm {x : Nat} (h : finB .f32 x = true) : Sm .f32 0 (wrapQ x) := by
  unfold wrapQ
  split
  · exact ⟨false, 0, -149, by decide +kernel, .inl rfl⟩
  · exact wq_sm h
theorem wq_ge {x : Nat} (h : finB .f32 x = true) : geF .f32 (wq x) 1065353216 = eqF .f32 (wq x) 1065353216 := by
  unfold geF
  rw [le_one (wq_sm h), Bool.false_or]



theorem pf_x {Q : Nat} {b : Bool} {w w' : World} (hq : isN .f32 Q = false) (hb : b = true) (h : Below w.heap.size w w') : PF (condF b Q) b w (.returned (.tuple #[.float .f32 Q, .bool true])) w' := by
  subst hb
  exact ⟨_, rfl, cn_of_not hq, h⟩




theorem fbin_sub_of32 {x y : Nat} {s t : Bool} {m n : Nat} {i j : Int} (hx : FloatKind.f32.decode x = .number s m i) (hy : FloatKind.f32.decode y = .number t n j) :
    ∃ u, fbin .sub .f32 x y = FloatKind.f32.format.nearest u (Ieee.signed s m (i - min i j).toNat + Ieee.signed (!t) n (j - min i j).toNat).natAbs (min i j) := by
  unfold fbin floatBits Ieee.Format.sub
  show ∃ u, (((FloatKind.f32.decode x).sum (FloatKind.f32.decode y).opposite).map FloatKind.f32.format.write).getD _ = _
  rw [hx, hy]
  exact ⟨_, rfl⟩
theorem fbin_add_of32 {x y : Nat} {s t : Bool} {m n : Nat} {i j : Int} (hx : FloatKind.f32.decode x = .number s m i) (hy : FloatKind.f32.decode y = .number t n j) :
    ∃ u, fbin .add .f32 x y = FloatKind.f32.format.nearest u (Ieee.signed s m (i - min i j).toNat + Ieee.signed t n (j - min i j).toNat).natAbs (min i j) := by
  unfold fbin floatBits Ieee.Format.add
  show ∃ u, (((FloatKind.f32.decode x).sum (FloatKind.f32.decode y)).map FloatKind.f32.format.write).getD _ = _
  rw [hx, hy]
  exact ⟨_, rfl⟩
theorem sm_sub32 {x y : Nat} {a b e : Int} (hx : Sm .f32 a x) (hy : Sm .f32 b y) (ha : a + 1 ≤ e) (hb : b + 1 ≤ e) (h1 : -100 ≤ e) (h2 : e ≤ 126) : Sm .f32 e (fbin .sub .f32 x y) := by
  obtain ⟨s, m, i, hx, hm⟩ := hx
  obtain ⟨t, n, j, hy, hn⟩ := hy
  obtain ⟨u, hu⟩ := fbin_sub_of32 hx hy
  rw [hu]
  exact sm_nearest32 _ _ _ e (MagLe.add hm hn ha hb) h1 h2
theorem sm_add32 {x y : Nat} {a b e : Int} (hx : Sm .f32 a x) (hy : Sm .f32 b y) (ha : a + 1 ≤ e) (hb : b + 1 ≤ e) (h1 : -100 ≤ e) (h2 : e ≤ 126) : Sm .f32 e (fbin .add .f32 x y) := by
  obtain ⟨s, m, i, hx, hm⟩ := hx
  obtain ⟨t, n, j, hy, hn⟩ := hy
  obtain ⟨u, hu⟩ := fbin_add_of32 hx hy
  rw [hu]
  exact sm_nearest32 _ _ _ e (MagLe.add hm hn ha hb) h1 h2
def dq (a b : Nat) : Nat := fbin .sub .f32 (wrapQ b) (wrapQ a)
def apartQ (a b : Nat) : Nat := if gtF .f32 (dq a b) 1056964608 then fbin .sub .f32 (dq a b) 1065353216 else if leF .f32 (dq a b) 3204448256 then fbin .add .f32 (dq a b) 1065353216 else dq a b
theorem dq_sm {a b : Nat} (ha : finB .f32 a = true) (hb : finB .f32 b = true) : Sm .f32 1 (dq a b) := sm_sub32 (wrap_sm hb) (wrap_sm ha) (by decide) (by decide) (by decide) (by decide)
theorem one_sm : Sm .f32 0 1065353216 := ⟨false, 8388608, -23, by decide +kernel, magLe_iff.2 (.inr ⟨by decide, by decide⟩)⟩
theorem apart_sm {a b : Nat} (ha : finB .f32 a = true) (hb : finB .f32 b = true) : Sm .f32 2 (apartQ a b) := by
  unfold apartQ
  split
  · exact sm_sub32 (dq_sm ha hb) one_sm (by decide) (by decide) (by decide) (by decide)
  · split
    · exact sm_add32 (dq_sm ha hb) one_sm (by decide) (by decide) (by decide) (by decide)
    · exact (dq_sm ha hb).mono (by decide)
theorem wrap_cn {x : Nat} (h : finB .f32 x = true) : cn .f32 (wrapQ x) = wrapQ x := cn_of_not (wrap_sm h).not_nan
theorem dq_of {a b r : Nat} (ha : finB .f32 a = true) (hb : finB .f32 b = true) (h : cn .f32 r = fbin .sub .f32 (cn .f32 (wrapQ b)) (cn .f32 (wrapQ a))) : r = dq a b := by
  rw [wrap_cn ha, wrap_cn hb] at h
  exact exact_of h (dq_sm ha hb).not_nan
theorem dq_cn {a b : Nat} (ha : finB .f32 a = true) (hb : finB .f32 b = true) : cn .f32 (dq a b) = dq a b := cn_of_not (dq_sm ha hb).not_nan



theorem pf_y {r Q : Nat} {b : Bool} {w w' : World} (hq : cn .f32 r = Q) (hb : b = true) (h : Below w.heap.size w w') : PF (condF b Q) b w (.returned (.tuple #[.float .f32 r, .bool true])) w' := by
  subst hb
  exact ⟨_, rfl, hq, h⟩


end Go.Proofs.Ytoiomgofbohmoaa
