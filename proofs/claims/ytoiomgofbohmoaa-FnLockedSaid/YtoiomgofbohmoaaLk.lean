/-
  The walk of the law Locked.
-/
import Derived.Test.YtoiomgofbohmoaaLj
import Derived.Deep.QuietTactic
import Derived.BigQuiet
set_option linter.unusedVariables false
set_option linter.unusedSimpArgs false
namespace Go.Proofs.Ytoiomgofbohmoaa
open Go.RowKit

theorem LockApart_lit {x y Q : Nat} {B : Bool} (hB : (lockB x y && finB .f32 (lockQ x y)) = B) (hQ : lockQ x y = Q) (hx : x < 4294967296) (w : World) : Calls Try.prog 6 #[.float .f32 x, .float .f32 y] w (PF (condF B Q) B w) := by
  subst hB
  subst hQ
  exact implLockApart_any x y w hx
theorem RestSwing_lit {x y Q : Nat} {B : Bool} (hB : restB x y = B) (hQ : restQ x y = Q) (w : World) : Calls Try.prog 9 #[.float .f32 x, .float .f32 y] w (PF (condF B Q) B w) := by
  subst hB
  subst hQ
  exact implRestSwing_any x y w
theorem Escape_lit {x y z t Q : Nat} {B : Bool} (hB : escR x y z t = B) (hQ : escQ x y z t = Q) (w : World) : Calls Try.prog 10 #[.float .f32 x, .float .f32 y, .float .f32 z, .float .f32 t] w (PF (condF B Q) B w) := by
  subst hB
  subst hQ
  exact implEscapeOnce_any x y z t w
theorem Sine_lit {x S : Nat} (h : sineQ (cn .f32 x) = S) (hn : isN .f32 S = false) (w : World) : Calls Try.prog 8 #[.float .f32 x] w (RX .f32 S w) :=
  (SineTurns_spec x w).mono fun e w' ⟨r, n, he, hq, hw⟩ => ⟨n, by rw [he, exact_of (hq.trans h) hn], hw⟩
theorem Gap_lit {x y G : Nat} (h : gapF (cn .f64 x) (cn .f64 y) = G) (hn : isN .f64 G = false) (w : World) : Calls Try.prog 7 #[.float .f64 x, .float .f64 y] w (RX .f64 G w) :=
  (b10Gap_any x y w).mono fun e w' ⟨r, n, he, hq, hw⟩ => ⟨n, by rw [he, exact_of (hq.trans h) hn], hw⟩
theorem widen_some {x : Nat} (h : finB .f32 x = true) : floatToFloatBits .f32 x .f64 = some (fconv .f32 .f64 x) := by
  have hn := isN_of_fin h
  have ho := widen_ok x
  unfold convOk at ho
  rw [hn, h] at ho
  unfold floatToFloatBits fconv
  rw [hn]
  unfold finB at h
  generalize FloatKind.f32.decode x = d at *
  cases d with
  | nan s t => cases h
  | infinity s => cases h
  | number s m e =>
    simp only [Bool.not_true, Bool.or_false, Bool.false_or, Bool.not_eq_true'] at ho
    simp [ho]
theorem RX.quiet {P : Program} {f : FuncId} {args : Array Value} {w : World} {n : Nat} {k : FloatKind} {x : Nat} (h : Calls P f args (w.drewN n) (RX k x (w.drewN n))) :
    Calls P f args (w.drewN n) fun e w'' => e = .returned (.float k x) ∧ ∃ m, w'' = w.drewN m :=
  h.mono fun _ _ ⟨m, he, hm⟩ => ⟨he, n + m, by rw [hm, World.drewN_drewN]⟩
theorem pf_exact {r Q : Nat} (h : cn .f32 r = condF true Q) (hn : isN .f32 Q = false) : r = Q := exact_of h hn
theorem one_eq : eqF .f32 1065353216 1065353216 = true := by decide +kernel
set_option maxRecDepth 100000 in
set_option maxHeartbeats 8000000 in
theorem lawLocked_walk (v : Value) (n : Nat) (l : List Nat) (v' : Value) (n' : Nat) (l' : List Nat) (w : World) (h : RowAt w v 1 n (bl l)) (h' : RowAt w v' 1 n' (bl l')) (hl : ∀ x ∈ l, x < 256) (hl' : ∀ x ∈ l', x < 256) : Calls Try.prog 3 #[v, v'] w fun e w' => e = .returned (.bool true) ∧ Below w.heap.size w w' := by
  have H := Lib.hid h
  have H' := Lib.hid h'
  clear h h'
  have hcv : ∀ (z : Int) (w : World), (convert 2 24 (.int .i64 z)).run Try.prog w = .ok (.float .f32 (floatOfInt .f32 z)) w := fun z w => run_convert_int_float w 2 24 .i64 .f32 z (by kernel_rfl) Try.underlying24
  go_enter Try.func3, Try.ntmps3
  go_wp2_with fail
  refine (b10Long_any v v' n n' l l' _ H.out H'.out).mono ?_
  rintro e w1 ⟨bb, rfl, e9⟩
  subst w1
  cases bb
  case true =>
    go_wp2
    go_ret
    exact ⟨rfl, Below.refl _ _⟩
  go_wp2_with (first | (refine wpList_fx rfl rfl rfl rfl rfl (by with_reducible assumption) ?_))
  refine (b10At_0_16 v n l _ ?_ hl).mono ?_
  · refine RowAt.below H.out ?_
    (repeat (first | assumption | (with_reducible exact Below.refl _ _) | (with_reducible refine Below.drewN ?_ _) | (with_reducible refine Below.drew ?_) | (with_reducible refine Below.allocS ?_ _) | ((with_reducible refine Below.setCell ?_ ?_ _); rotate_left; focus (first | omega | (simp; done) | (simp; omega))) | (with_reducible refine Below.step ?_ (by assumption))))
  rintro e w9 ⟨a, ha, rfl, e9⟩
  subst w9
  obtain ⟨link, hlink⟩ : ∃ y, linkQ a = y := ⟨_, rfl⟩
  have f0 := link_some ha hlink
  go_wp2_with (first | (refine wpList_fx rfl rfl rfl rfl rfl (by with_reducible assumption) ?_))
  refine (b10At_1_33 v n l _ ?_ hl).mono ?_
  · refine RowAt.below H.out ?_
    (repeat (first | assumption | (with_reducible exact Below.refl _ _) | (with_reducible refine Below.drewN ?_ _) | (with_reducible refine Below.drew ?_) | (with_reducible refine Below.allocS ?_ _) | ((with_reducible refine Below.setCell ?_ ?_ _); rotate_left; focus (first | omega | (simp; done) | (simp; omega))) | (with_reducible refine Below.step ?_ (by assumption))))
  rintro e w9 ⟨b, hb, rfl, e9⟩
  subst w9
  obtain ⟨prod, less, two, ap, S, LW, SW, MW, DW, G, f1, f2, f3, f4, f5, f6, f7, f8, f9, f10, f11, f12, f13, f14, f15, f16, f17, f18, f19, f20, f21, f22, f23⟩ := facts1 ha hb hlink
  clear hlink f0
  go_wp2_with (first | (refine wpList_fx rfl rfl rfl rfl rfl (by with_reducible assumption) ?_))
  refine (LockApart_lit f6 f7 f4 _).mono ?_
  rintro e w1 ⟨r1, rfl, q1, b1⟩
  obtain rfl := pf_exact q1 f8
  clear f6 f7
  go_wp2_with (first | (refine wpList_fx rfl rfl rfl rfl rfl (by with_reducible assumption) ?_))
  refine (LockApart_lit f9 rfl f5 _).mono ?_
  rintro e w2 ⟨r2, rfl, q2, b2⟩
  clear f9 q2 q1
  go_wp2_with (first | (refine wpList_fx rfl rfl rfl rfl rfl (by with_reducible assumption) ?_) | (refine wpList_wx rfl rfl Try.underlying28 Try.underlying24 rfl (by with_reducible assumption) (by with_reducible assumption) (fun n9 => ?_)) | (go_at_call 8; refine (Sine_lit (by with_reducible assumption) (by with_reducible assumption) _).mono ?_; rintro e w' ⟨n9, rfl, rfl⟩) | (go_at_call 7; refine (Gap_lit (by with_reducible assumption) (by with_reducible assumption) _).mono ?_; rintro e w' ⟨n9, rfl, rfl⟩))
  clear f1 f2 f3 f4 f5 f8 f10 f11 f12 f13 f14 f15 f16 f17 f18 f19 f20 f21 f22 f23
  refine (b10At_0_7 v' n' l' _ ?_ hl').mono ?_
  · refine RowAt.below H'.out ?_
    (repeat (first | assumption | (with_reducible exact Below.refl _ _) | (with_reducible refine Below.drewN ?_ _) | (with_reducible refine Below.drew ?_) | (with_reducible refine Below.allocS ?_ _) | ((with_reducible refine Below.setCell ?_ ?_ _); rotate_left; focus (first | omega | (simp; done) | (simp; omega))) | (with_reducible refine Below.step ?_ (by assumption))))
  rintro e w9 ⟨c, hc, rfl, e9⟩
  subst w9
  obtain ⟨keep, hkeep⟩ : ∃ y, keepQ c = y := ⟨_, rfl⟩
  have f0 := kept_some hc hkeep
  go_wp2_with (first | (refine wpList_fx rfl rfl rfl rfl rfl (by with_reducible assumption) ?_))
  refine (b10At_1_8 v' n' l' _ ?_ hl').mono ?_
  · refine RowAt.below H'.out ?_
    (repeat (first | assumption | (with_reducible exact Below.refl _ _) | (with_reducible refine Below.drewN ?_ _) | (with_reducible refine Below.drew ?_) | (with_reducible refine Below.allocS ?_ _) | ((with_reducible refine Below.setCell ?_ ?_ _); rotate_left; focus (first | omega | (simp; done) | (simp; omega))) | (with_reducible refine Below.step ?_ (by assumption))))
  rintro e w9 ⟨d, hd, rfl, e9⟩
  subst w9
  obtain ⟨kick, hkick⟩ : ∃ y, kickQ d = y := ⟨_, rfl⟩
  have f1 := kick_some hd hkick
  obtain ⟨rest, same, last, SW, RW, G, g1, g2, g3, g4, g5, g6, g7, g8, g9, g10, g11, g12, g13, g14, g15, g16, g17, g18, g19⟩ := facts2 hc hd hkeep hkick
  clear hkeep hkick f0
  go_wp2_with (first | (refine wpList_fx rfl rfl rfl rfl rfl (by with_reducible assumption) ?_))
  refine (RestSwing_lit g1 g2 _).mono ?_
  rintro e w3 ⟨r3, rfl, q3, b3⟩
  obtain rfl := pf_exact q3 g3
  clear f1 g1 g2
  go_wp2_with fail
  refine (Escape_lit g4 g5 _).mono ?_
  rintro e w4 ⟨r4, rfl, q4, b4⟩
  obtain rfl := pf_exact q4 g6
  clear g4 g5
  go_wp2_with fail
  refine (implRunEscape_lit g14 _).mono ?_
  rintro e w5 ⟨u, rfl, ou, b5⟩
  have hB5 : Below w.heap.size w w5 := by (repeat (first | assumption | (with_reducible exact Below.refl _ _) | (with_reducible refine Below.drewN ?_ _) | (with_reducible refine Below.drew ?_) | (with_reducible refine Below.allocS ?_ _) | ((with_reducible refine Below.setCell ?_ ?_ _); rotate_left; focus (first | omega | (simp; done) | (simp; omega))) | (with_reducible refine Below.step ?_ (by assumption))))
  obtain ⟨g, cg, rfl⟩ := ownsRow_own ou (by decide)
  have OU := Lib.hid ou
  have hcell : ∀ (w8 : World), w8.ownsRow w4.heap.size 24 1 (.slice (some ⟨g, 0, none⟩) 41 cg) 41 (fl (escL 1065353216 keep kick 0 40)) → ∀ k, k < 41 → w8.cell? ⟨g, k, none⟩ = some (.float .f32 (swingAt keep kick k)) := by
    intro w8 o8 k hk
    have h9 := o8.cellAt k (by show k < 41 * 1; omega)
    rw [h9]
    show (fl (escL 1065353216 keep kick 0 40))[k]? = _
    unfold fl escL swingAt
    rw [List.getElem?_map, List.getElem?_map, List.getElem?_range (by omega)]
    rfl
  have hc0 : w5.cell? ⟨g, 0, none⟩ = some (.float .f32 1065353216) := hcell w5 OU.out 0 (by decide)
  have e1 := one_eq
  have hz5 := hB5.size
  clear ou
  go_wp2_with (first | (refine wpList_fx rfl rfl rfl rfl rfl (by with_reducible assumption) ?_) | (refine wpList_wx rfl rfl Try.underlying28 Try.underlying24 rfl (by with_reducible assumption) (by with_reducible assumption) (fun n9 => ?_)) | (go_at_call 7; refine (Gap_lit (by with_reducible assumption) (by with_reducible assumption) _).mono ?_; rintro e w' ⟨n9, rfl, rfl⟩))
  clear hc0 e1 g6 g7 g11 g12 g13
  go_loopw [19] (fun kv wr => ∃ j : Nat, j ≤ 40 ∧ kv = .int .i64 ((j : Int) + 1) ∧ wr.ownsRow w4.heap.size 24 1 (.slice (some ⟨g, 0, none⟩) 41 cg) 41 (fl (escL 1065353216 keep kick 0 40)) ∧ Below w.heap.size w wr) (fun kv _ => 41 - (intOf kv).toNat)
  case atStart => exact ⟨0, by decide, rfl, (by have h9 := OU.out; (repeat (first | (with_reducible refine World.ownsRow.alloc ?_ _) | (with_reducible refine ownsRow_drewN ?_ _) | ((with_reducible refine ownsRow_setCell_below ?_ ?_ _); rotate_left; focus (first | omega | (simp; done) | (simp; omega))))); exact h9), by (repeat (first | assumption | (with_reducible exact Below.refl _ _) | (with_reducible refine Below.drewN ?_ _) | (with_reducible refine Below.drew ?_) | (with_reducible refine Below.allocS ?_ _) | ((with_reducible refine Below.setCell ?_ ?_ _); rotate_left; focus (first | omega | (simp; done) | (simp; omega))) | (with_reducible refine Below.step ?_ (by assumption))))⟩
  case round =>
    obtain ⟨j, hj, rfl, orow, hBr⟩ := hrel
    have OR := Lib.hid orow
    clear orow
    by_cases hlt : j < 40
    · have d1 : decide ((j : Int) + 1 < 41) = true := decide_eq_true (by omega)
      obtain ⟨x, y, XW, YW, GX, GY, MX, s1, s2, s3, s4, s5, s6, s7, s8, s9, s10, s11, s12, s13, s14, s15, s16, s17⟩ := g19 j hlt
      have hx : wr.cell? ⟨g, j, none⟩ = some (.float .f32 x) := by rw [← s1]; exact hcell wr OR.out j (by omega)
      go_wp2_with fail
      refine (Escape_lit s3 s4 _).mono ?_
      rintro e w6 ⟨r6, rfl, q6, b6⟩
      obtain rfl := pf_exact q6 s5
      have B6 : Below wr.heap.size wr w6 := by
        refine Below.step ?_ b6
        (repeat (first | (with_reducible exact Below.refl _ _) | (with_reducible refine Below.drewN ?_ _) | (with_reducible refine Below.drew ?_) | (with_reducible refine Below.allocS ?_ _) | ((with_reducible refine Below.setCell ?_ ?_ _); rotate_left; focus (first | omega | (simp; done) | (simp; omega)))))
      have OR6 := Lib.hid (ownsRow_below OR.out B6)
      have hB6 : Below w.heap.size w w6 := by (repeat (first | assumption | (with_reducible exact Below.refl _ _) | (with_reducible refine Below.drewN ?_ _) | (with_reducible refine Below.drew ?_) | (with_reducible refine Below.allocS ?_ _) | ((with_reducible refine Below.setCell ?_ ?_ _); rotate_left; focus (first | omega | (simp; done) | (simp; omega))) | (with_reducible refine Below.step ?_ (by assumption))))
      have hx6 : w6.cell? ⟨g, j, none⟩ = some (.float .f32 x) := by rw [← s1]; exact hcell w6 OR6.out j (by omega)
      have hy6 : w6.cell? ⟨g, j + 1, none⟩ = some (.float .f32 r6) := by rw [← s2]; exact hcell w6 OR6.out (j + 1) (by omega)
      clear hx q6 b6 s1 s2 s3 s4 s5 B6
      have hcx : ∀ w8 : World, (convert 24 28 (.float .f32 x)).run Try.prog w8 = .ok (.float .f64 XW) w8 := fun w8 => run_convert_float_float w8 _ _ .f32 .f64 x XW (by kernel_rfl) (by kernel_rfl) (by rw [← s10]; exact widen_some s7)
      have hcy : ∀ w8 : World, (convert 24 28 (.float .f32 r6)).run Try.prog w8 = .ok (.float .f64 YW) w8 := fun w8 => run_convert_float_float w8 _ _ .f32 .f64 r6 YW (by kernel_rfl) (by kernel_rfl) (by rw [← s11]; exact widen_some s8)
      have hcr : ∀ w8 : World, (convert 24 28 (.float .f32 r3)).run Try.prog w8 = .ok (.float .f64 RW) w8 := fun w8 => run_convert_float_float w8 _ _ .f32 .f64 r3 RW (by kernel_rfl) (by kernel_rfl) (by rw [← g10]; exact widen_some g8)
      have hadd : ∀ w8 : World, (binOp .add 28 (.float .f64 GX) (.float .f64 4562254508917369340)).run Try.prog w8 = .ok (.float .f64 MX) w8 := fun w8 => run_float_arith w8 .add _ .f64 GX _ _ s16
      have i1 : (0 : Int) ≤ (j : Int) := by omega
      have i2 : (j : Int) < (41 : Int) := by omega
      have i3 : (j : Int) + 1 < (41 : Int) := by omega
      clear hcell g18 g19
      go_wp2_with fail
      go_quiet (first | (go_at_call 12; exact RB.quiet (SameNumber_spec s9 _ s6 s6)) | (go_at_call 7; exact RX.quiet (Gap_lit (by with_reducible assumption) (by with_reducible assumption) _)))
      go_wp2_with fail
      go_roundw
      case rel => exact ⟨j + 1, hlt, (by first | go_num | (congr 1; omega)), (by have h9 := OR6.out; (repeat (first | (with_reducible refine World.ownsRow.alloc ?_ _) | (with_reducible refine ownsRow_drewN ?_ _) | ((with_reducible refine ownsRow_setCell_below ?_ ?_ _); rotate_left; focus (first | omega | (simp; done) | (simp; omega))))); exact h9), by (repeat (first | assumption | (with_reducible exact Below.refl _ _) | (with_reducible refine Below.drewN ?_ _) | (with_reducible refine Below.drew ?_) | (with_reducible refine Below.allocS ?_ _) | ((with_reducible refine Below.setCell ?_ ?_ _); rotate_left; focus (first | omega | (simp; done) | (simp; omega))) | (with_reducible refine Below.step ?_ (by assumption))))⟩
      case measure => simp [intOf]; omega
    · obtain rfl : j = 40 := by omega
      have d1 : decide (((40 : Nat) : Int) + 1 < 41) = false := by decide
      go_wp2_with fail
      refine (Escape_lit g15 g16 _).mono ?_
      rintro e w6 ⟨r6, rfl, q6, b6⟩
      obtain rfl := pf_exact q6 g17
      go_wp2_with fail
      go_ret
      refine ⟨rfl, ?_⟩
      (repeat (first | assumption | (with_reducible exact Below.refl _ _) | (with_reducible refine Below.drewN ?_ _) | (with_reducible refine Below.drew ?_) | (with_reducible refine Below.allocS ?_ _) | ((with_reducible refine Below.setCell ?_ ?_ _); rotate_left; focus (first | omega | (simp; done) | (simp; omega))) | (with_reducible refine Below.step ?_ (by assumption))))
end Go.Proofs.Ytoiomgofbohmoaa
