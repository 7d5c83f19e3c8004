/-
  The walks of falls.
-/
import Derived.Test.YtciamnnfnbmjpaaWe
import Derived.Test.YtciamnnfnbmjpaaFy
import Derived.Test.YtciamnnfnbmjpaaCy
set_option linter.unusedVariables false
set_option linter.unusedSimpArgs false
namespace Go.Proofs.Ytciamnnfnbmjpaa
open Go.RowKit

def VB3 (B : Bool) (Q0 Q1 Q2 : Nat) (w : World) (e : Ending) (w' : World) : Prop := ∃ r0 r1 r2, e = .returned (.tuple #[.agg #[.float .f32 r0, .float .f32 r1, .float .f32 r2], .bool B]) ∧ (cn .f32 r0 = condF B Q0 ∧ cn .f32 r1 = condF B Q1 ∧ cn .f32 r2 = condF B Q2) ∧ Below w.heap.size w w'
theorem fin3_cn (x y z : Nat) : fin3 (cn .f32 x) (cn .f32 y) (cn .f32 z) = fin3 x y z := by simp only [fin3, finB_cn]
theorem fin3_of {r0 r1 r2 Q0 Q1 Q2 : Nat} (h : cn .f32 r0 = Q0 ∧ cn .f32 r1 = Q1 ∧ cn .f32 r2 = Q2) : fin3 r0 r1 r2 = fin3 Q0 Q1 Q2 := by rw [← h.1, ← h.2.1, ← h.2.2, fin3_cn]
theorem condF_of {b : Bool} {r Q : Nat} (h : cn .f32 r = Q) : cn .f32 (condF b r) = condF b Q := by
  cases b
  · exact cn_zero
  · exact h
theorem condF_true {b : Bool} {r Q : Nat} (hb : b = true) (h : cn .f32 r = Q) : cn .f32 r = condF b Q := by rw [hb]; exact h
theorem condF_false {b : Bool} {Q : Nat} (hb : b = false) : cn .f32 0 = condF b Q := by rw [hb]; exact cn_zero

def flyD (pull time : Nat) : Nat := fbin .mul .f32 (fbin .mul .f32 (fbin .mul .f32 (cn .f32 1056964608) (cn .f32 pull)) (cn .f32 time)) (cn .f32 time)
def flyA (at' speed pull time : Nat) : Nat := fbin .sub .f32 (fbin .add .f32 (cn .f32 at') (fbin .mul .f32 (cn .f32 time) (cn .f32 speed))) (flyD pull time)
def flyS (speed pull time : Nat) : Nat := fbin .sub .f32 (cn .f32 speed) (fbin .mul .f32 (cn .f32 pull) (cn .f32 time))
def flyT (t time : Nat) : Nat := fbin .add .f32 (cn .f32 t) (cn .f32 time)
@[go_sem] theorem build_fall0 (w : World) : (Instr.build 53 #[]).run Try.prog w = .ok (.agg #[.float .f32 0, .float .f32 0, .float .f32 0]) w := run_build w 53 _ _ (by kernel_rfl)
@[go_sem] theorem build_fall2 (a b : Nat) (w : World) : (Instr.build 53 #[(0, .float .f32 a), (1, .float .f32 b)]).run Try.prog w = .ok (.agg #[.float .f32 a, .float .f32 b, .float .f32 0]) w := run_build w 53 _ _ (by kernel_rfl)
@[go_sem] theorem build_fall3 (a b c : Nat) (w : World) : (Instr.build 53 #[(0, .float .f32 a), (1, .float .f32 b), (2, .float .f32 c)]).run Try.prog w = .ok (.agg #[.float .f32 a, .float .f32 b, .float .f32 c]) w := run_build w 53 _ _ (by kernel_rfl)

set_option maxRecDepth 100000 in
set_option maxHeartbeats 4000000 in
theorem l06Fly_any (t0 t1 t2 t3 x0 x1 x2 z b : Nat) (w : World) (hH : Held [(⟨b, 0, none⟩, .float .f32 t0), (⟨b, 1, none⟩, .float .f32 t1), (⟨b, 2, none⟩, .float .f32 t2), (⟨b, 3, none⟩, .float .f32 t3)] w) :
    Calls Try.prog 65 #[.pointer (some ⟨b, 0, none⟩), .agg #[.float .f32 x0, .float .f32 x1, .float .f32 x2], .float .f32 z] w (BF3 (flyA x0 x1 t3 z) (flyS x1 t3 z) (flyT x2 z) w) := by
  have hk := hH
  simp only [Held, and_true] at hk
  go_enter Try.func65, Try.ntmps65
  go_wp2_with (first | (refine wpList_fbin rfl rfl rfl rfl rfl (fun r n hr => ?_)))
  refine region_calmA w (w.heap.size + 1 + 1) [(⟨b, 3, none⟩, .float .f32 t3), (⟨w.heap.size, 0, none⟩, .float .f32 x0), (⟨w.heap.size, 1, none⟩, .float .f32 x1), (⟨w.heap.size, 2, none⟩, .float .f32 x2), (⟨w.heap.size + 1, 0, none⟩, .float .f32 0), (⟨w.heap.size + 1, 1, none⟩, .float .f32 0), (⟨w.heap.size + 1, 2, none⟩, .float .f32 0)] (fun _ _ _ => False) [(19, .new 8 3), (20, .put 8 36)] (by kernel_rfl) (by kernel_rfl) (by kernel_rfl) ⟨⟨by simp [Held, go_sem, *], by (repeat (first | (with_reducible exact Below.refl _ _) | (with_reducible refine Below.drewN ?_ _) | (with_reducible refine Below.drew ?_) | (with_reducible refine Below.allocS ?_ _) | ((with_reducible refine Below.setCell ?_ ?_ _); rotate_left; focus (first | omega | (simp; done) | (simp; omega))) | (with_reducible refine Below.step ?_ (by assumption))))⟩, by (first | (simp; done) | (simp; omega) | omega)⟩ ?_
  repeat (first | (refine calmA_plain rfl rfl ?_ (fun K hK w1 hC => ?_); (focus (intro _ _; simp [RA]; done)); have hC' := hC.1.1; simp only [Held, and_true] at hC'; go_wp2_with (first | (refine wpList_fbin rfl rfl rfl rfl rfl (fun r n hr => ?_)) | (refine wpList_widen rfl rfl Try.underlying34 Try.underlying22 rfl (fun r n hr => ?_))); refine ⟨rfl, (by first | exact Below.refl _ _ | exact below_drewN _), hK _ ?_⟩; clear hC hC' hK K w1) | (refine calmA_check rfl rfl rfl ?_ ?_; (focus (intro _ _; simp [RA]; done))))
  refine calmA_alloc (n := 3) (zs := #[.float .f32 0, .float .f32 0, .float .f32 0]) (t := 53) rfl rfl ?_ ?_ ?_ ?_ (fun b hb => ?_)
  · simp
  · intro a w h; simp [RA]; exact h
  · intro w; simp [execOp, go_sem]; done
  · rfl
  refine calmA_store (ia := 19) (n := 3) rfl rfl rfl rfl hb rfl ?_ ?_ ?_ ?_ ?_ ?_ ?_ ?_ ?_ ?_
  · kernel_rfl
  · intro a w h; simp [RA] at h; exact h
  · rfl
  · rfl
  · simp [Value.oneCell']
  · intro a w h; simp [RA]; exact h
  · (first | (simp; done) | (simp; omega) | (simp [*]; done) | (simp [*]; omega))
  · (first | omega | (simp [*]; done) | (simp [*]; omega))
  · rfl
  refine calmA_nil ?_
  intro w' hC hF
  have hC' := hC.1.1
  simp only [Held, and_true] at hC'
  obtain ⟨b', vs', e1, e2, hN, hS⟩ := RA_get hF (i := 20) (f := .put 8 36) (by simp) (by simp)
  simp [Act.put, Act.eval] at e1 e2
  subst e1 e2
  simp [Held, cellsAt] at hS
  go_wp2_with (first | (refine wpList_fbin rfl rfl rfl rfl rfl (fun r n hr => ?_)))
  refine bodyPost_ret (v := ?vv) ?hh rfl ?pp
  case hh => simp [results, Try.results65, go_sem, *]; rfl
  case pp =>
    refine ⟨_, _, _, rfl, ?_, ?_⟩
    · unfold flyA flyD flyS flyT
      simp only [Hid] at *
      refine ⟨?_, ?_, ?_⟩ <;> simp only [*]
    · (have hB := hC.1.2; (repeat (first | assumption | (with_reducible exact Below.refl _ _) | (with_reducible refine Below.drewN ?_ _) | (with_reducible refine Below.drew ?_) | (with_reducible refine Below.allocS ?_ _) | ((with_reducible refine Below.setCell ?_ ?_ _); rotate_left; focus (first | omega | (simp; done) | (simp; omega))) | (with_reducible refine Below.step ?_ (by assumption)))))

set_option maxRecDepth 100000 in
theorem l06Fall_any (x0 x1 x2 b : Nat) (w : World) (h0 : w.cell? ⟨b, 0, none⟩ = some (.float .f32 x0)) (h1 : w.cell? ⟨b, 1, none⟩ = some (.float .f32 x1)) (h2 : w.cell? ⟨b, 2, none⟩ = some (.float .f32 x2)) : Calls Try.prog 66 #[.pointer (some ⟨b, 0, none⟩)] w (RB (fin3 x0 x1 x2) w) := by
  go_enter Try.func66, Try.ntmps66
  go_wp2_with (first | (go_at_call 64; refine (l01Finite_any _ _).mono ?_; rintro e w' ⟨n, rfl, rfl⟩))
  all_goals (go_ret; unfold fin3; first | exact ⟨_, ret_bool (by simp_all), rfl⟩ | exact ⟨0, ret_bool (by simp_all), rfl⟩)

set_option maxRecDepth 100000 in
theorem l06Both_any (t0 t1 t2 t3 x0 x1 x2 b c : Nat) (w : World) (hH : Held [(⟨b, 0, none⟩, .float .f32 t0), (⟨b, 1, none⟩, .float .f32 t1), (⟨b, 2, none⟩, .float .f32 t2), (⟨b, 3, none⟩, .float .f32 t3)] w) (hX : Held [(⟨c, 0, none⟩, .float .f32 x0), (⟨c, 1, none⟩, .float .f32 x1), (⟨c, 2, none⟩, .float .f32 x2)] w) : Calls Try.prog 63 #[.pointer (some ⟨b, 0, none⟩), .pointer (some ⟨c, 0, none⟩)] w (RB (tableB t0 t1 t2 t3 && fin3 x0 x1 x2) w) := by
  simp only [Held, and_true] at hH hX
  go_enter Try.func63, Try.ntmps63
  go_wp2_with (first | (go_at_call 99; refine (l06Table_any t0 t1 t2 t3 _ _ ?_ ?_ ?_ ?_).mono ?_; (simp [*]); (simp [*]); (simp [*]); (simp [*]); rintro e w' ⟨n, rfl, rfl⟩) | (go_at_call 66; refine (l06Fall_any x0 x1 x2 _ _ ?_ ?_ ?_).mono ?_; (simp [*]); (simp [*]); (simp [*]); rintro e w' ⟨n, rfl, rfl⟩))
  all_goals (go_ret; first | exact ⟨_, ret_bool (by simp_all), rfl⟩ | exact ⟨0, ret_bool (by simp_all), rfl⟩)

def flyB (t0 t1 t2 t3 x0 x1 x2 z : Nat) : Bool := (tableB t0 t1 t2 t3 && fin3 x0 x1 x2 && finB .f32 z) && fin3 (flyA x0 x1 t3 z) (flyS x1 t3 z) (flyT x2 z)

set_option maxRecDepth 100000 in
set_option maxHeartbeats 4000000 in
theorem specFlyFall_any (t0 t1 t2 t3 x0 x1 x2 z : Nat) (w : World) : Calls Try.prog 25 #[.agg #[.float .f32 t0, .float .f32 t1, .float .f32 t2, .float .f32 t3], .agg #[.float .f32 x0, .float .f32 x1, .float .f32 x2], .float .f32 z] w (VB3 (flyB t0 t1 t2 t3 x0 x1 x2 z) (flyA x0 x1 t3 z) (flyS x1 t3 z) (flyT x2 z) w) := by
  cases h1 : (tableB t0 t1 t2 t3 && fin3 x0 x1 x2) <;> cases h2 : finB .f32 z <;> cases h3 : fin3 (flyA x0 x1 t3 z) (flyS x1 t3 z) (flyT x2 z)
  all_goals
    go_enter Try.func25, Try.ntmps25
    go_wp2_with (first | (go_at_call 64; refine (l01Finite_any _ _).mono ?_; rintro e w' ⟨n, rfl, rfl⟩) | (go_at_call 63; refine (l06Both_any t0 t1 t2 t3 x0 x1 x2 _ _ _ ?_ ?_).mono ?_; (simp [Held, go_sem]); (simp [Held, go_sem]); rintro e w' ⟨n, rfl, rfl⟩) | (go_at_call 65; refine (l06Fly_any t0 t1 t2 t3 x0 x1 x2 z _ _ ?_).mono ?_; (simp [Held, go_sem]); rintro e w1 ⟨r0, r1, r2, rfl, hq, hb⟩; have hfin := fin3_of hq; rw [h3] at hfin; have HQ := Lib.hid hq; clear hq; have hk := Held.below hb (l := [(⟨w.heap.size, 0, none⟩, .float .f32 t0), (⟨w.heap.size, 1, none⟩, .float .f32 t1), (⟨w.heap.size, 2, none⟩, .float .f32 t2), (⟨w.heap.size, 3, none⟩, .float .f32 t3), (⟨(w.heap.size + 1), 0, none⟩, .float .f32 x0), (⟨(w.heap.size + 1), 1, none⟩, .float .f32 x1), (⟨(w.heap.size + 1), 2, none⟩, .float .f32 x2), (⟨(w.heap.size + 1 + 1), 0, none⟩, .float .f32 0), (⟨(w.heap.size + 1 + 1), 1, none⟩, .float .f32 0), (⟨(w.heap.size + 1 + 1), 2, none⟩, .float .f32 0)]) (by simp [Held, go_sem, *]); simp only [Held, and_true] at hk) | (go_at_call 66; refine (l06Fall_any r0 r1 r2 _ _ ?_ ?_ ?_).mono ?_; (simp [go_sem, *]); (simp [go_sem, *]); (simp [go_sem, *]); rintro e w' ⟨n, rfl, rfl⟩))
    refine bodyPost_ret (v := ?_) (by first | (simp [results, Try.results25, go_sem, *]; rfl) | (simp [results, Try.results25, go_sem, *]; done)) rfl ?_
    unfold flyB
    rw [h1, h2, h3]
    first | (refine ⟨_, _, _, rfl, ⟨HQ.out.1, HQ.out.2.1, HQ.out.2.2⟩, ?_⟩; (repeat (first | (with_reducible exact Below.refl _ _) | (with_reducible refine Below.drewN ?_ _) | (with_reducible refine Below.drew ?_) | (with_reducible refine Below.allocS ?_ _) | ((with_reducible refine Below.setCell ?_ ?_ _); rotate_left; focus (first | omega | (simp; done) | (simp; omega))) | (with_reducible refine Below.step ?_ (by assumption)))); done) | (refine ⟨_, _, _, rfl, ⟨cn_zero, cn_zero, cn_zero⟩, ?_⟩; (repeat (first | (with_reducible exact Below.refl _ _) | (with_reducible refine Below.drewN ?_ _) | (with_reducible refine Below.drew ?_) | (with_reducible refine Below.allocS ?_ _) | ((with_reducible refine Below.setCell ?_ ?_ _); rotate_left; focus (first | omega | (simp; done) | (simp; omega))) | (with_reducible refine Below.step ?_ (by assumption)))); done)

theorem finite3_new (x0 x1 x2 b : Nat) (w : World) (t : TypeId) (n : Nat) (hb : w.heap.size = b) : Calls Try.prog 57 #[.slice (some ⟨b, 0, none⟩) 3 3] ((w.alloc (.cells #[.float .f32 x0, .float .f32 x1, .float .f32 x2] t)).drewN n) (RB (fin3 x0 x1 x2) ((w.alloc (.cells #[.float .f32 x0, .float .f32 x1, .float .f32 x2] t)).drewN n)) := by
  subst hb
  exact finite3_any x0 x1 x2 _ _ (by simp [go_sem]) (by simp [go_sem]) (by simp [go_sem])

theorem vb3_told {r0 r1 r2 Q0 Q1 Q2 : Nat} {B : Bool} {w w' : World} (hq : cn .f32 r0 = Q0 ∧ cn .f32 r1 = Q1 ∧ cn .f32 r2 = Q2) (hB : B = fin3 Q0 Q1 Q2) (hf : (!fin3 r0 r1 r2) = false) (hb : Below w.heap.size w w') :
    VB3 B Q0 Q1 Q2 w (.returned (.tuple #[.agg #[.float .f32 r0, .float .f32 r1, .float .f32 r2], .bool true])) w' := by
  have hB' : B = true := by rw [hB, ← fin3_of hq]; simpa using hf
  subst hB'
  exact ⟨_, _, _, rfl, hq, hb⟩
theorem vb3_none {Q0 Q1 Q2 : Nat} {B : Bool} {w w' : World} (hB : B = false) (hb : Below w.heap.size w w') :
    VB3 B Q0 Q1 Q2 w (.returned (.tuple #[.agg #[.float .f32 0, .float .f32 0, .float .f32 0], .bool false])) w' := by
  subst hB
  exact ⟨_, _, _, rfl, ⟨cn_zero, cn_zero, cn_zero⟩, hb⟩
theorem vb3_bad {r0 r1 r2 Q0 Q1 Q2 : Nat} {B : Bool} {w w' : World} (hq : cn .f32 r0 = Q0 ∧ cn .f32 r1 = Q1 ∧ cn .f32 r2 = Q2) (hB : B = fin3 Q0 Q1 Q2) (hf : (!fin3 r0 r1 r2) = true) (hb : Below w.heap.size w w') :
    VB3 B Q0 Q1 Q2 w (.returned (.tuple #[.agg #[.float .f32 0, .float .f32 0, .float .f32 0], .bool false])) w' :=
  vb3_none (by rw [hB, ← fin3_of hq]; simpa using hf) hb
/-- A vector and whether it is finite. -/
def VT3 (B : Bool) (x0 x1 x2 : Nat) : Value := .tuple #[.agg #[.float .f32 (condF B x0), .float .f32 (condF B x1), .float .f32 (condF B x2)], .bool B]
theorem vb3_of_told {r0 r1 r2 Q0 Q1 Q2 : Nat} {B : Bool} {w w' : World} (hq : cn .f32 r0 = Q0 ∧ cn .f32 r1 = Q1 ∧ cn .f32 r2 = Q2) (hB : B = fin3 Q0 Q1 Q2) (hb : Below w.heap.size w w') :
    VB3 B Q0 Q1 Q2 w (.returned (VT3 (fin3 r0 r1 r2) r0 r1 r2)) w' := by
  rw [fin3_of hq, ← hB]
  exact ⟨_, _, _, rfl, ⟨condF_of hq.1, condF_of hq.2.1, condF_of hq.2.2⟩, hb⟩

set_option maxRecDepth 100000 in
theorem fallOk_any (t0 t1 t2 t3 x0 x1 x2 : Nat) (w : World) : Calls Try.prog 67 #[.agg #[.float .f32 t0, .float .f32 t1, .float .f32 t2, .float .f32 t3], .agg #[.float .f32 x0, .float .f32 x1, .float .f32 x2]] w (BB (tableB t0 t1 t2 t3 && fin3 x0 x1 x2) w) := by
  cases h1 : tableB t0 t1 t2 t3
  all_goals
    go_enter Try.func67, Try.ntmps67
    go_wp2_with fail
    refine (implValidTable_any t0 t1 t2 t3 _).mono ?_
    rintro e w1 ⟨rfl, hb⟩
    have hk := Held.below hb (l := [(⟨(w.heap.size + 1), 0, none⟩, .float .f32 x0), (⟨(w.heap.size + 1), 1, none⟩, .float .f32 x1), (⟨(w.heap.size + 1), 2, none⟩, .float .f32 x2)]) (by simp [Held, go_sem, *])
    simp only [Held, and_true] at hk
    go_wp2_with (first | (go_at_call 57; refine (finite3_any x0 x1 x2 _ _ ?_ ?_ ?_).mono ?_; (simp [go_sem]); (simp [go_sem]); (simp [go_sem]); rintro e w' ⟨n, rfl, rfl⟩))
    go_ret
    refine ⟨ret_bool (by simp), ?_⟩
    (repeat (first | (with_reducible exact Below.refl _ _) | (with_reducible refine Below.drewN ?_ _) | (with_reducible refine Below.drew ?_) | (with_reducible refine Below.allocS ?_ _) | ((with_reducible refine Below.setCell ?_ ?_ _); rotate_left; focus (first | omega | (simp; done) | (simp; omega))) | (with_reducible refine Below.step ?_ (by assumption))))


end Go.Proofs.Ytciamnnfnbmjpaa
