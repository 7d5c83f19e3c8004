/-
  The walks of slices of a law's arguments: their sizes, copies, comparisons, marks.
-/
import Derived.Test.YtciamnnfnbmjpaaSa
import Derived.Test.YtciamnnfnbmjpaaCy
import Derived.Test.YtciamnnfnbmjpaaWe
set_option linter.unusedVariables false
set_option linter.unusedSimpArgs false
namespace Go.Proofs.Ytciamnnfnbmjpaa
open Go.RowKit

def NewRow (E : TypeId) (c n : Nat) (xs : List Value) (w : World) (e : Ending) (w' : World) : Prop :=
  ∃ g, e = .returned (.slice (some ⟨g, 0, none⟩) n n) ∧ w'.ownsRow w.heap.size E c (.slice (some ⟨g, 0, none⟩) n n) n xs ∧ Below w.heap.size w w'






theorem info_Float32 : (Try.prog.info? 22).map (fun i => (i.zero, i.size, i.bytes)) = some (some (.float .f32 0), 1, 4) := by kernel_rfl

set_option maxRecDepth 100000 in
set_option maxHeartbeats 2000000 in
theorem eqFloat32S_any (v v' : Value) (n : Nat) (l m : List Nat) (w : World) (h : RowAt w v 1 n (fl l)) (h' : RowAt w v' 1 n (fl m)) (he : l.map (cn .f32) = m.map (cn .f32)) : Calls Try.prog 41 #[v, v'] w (BB true w) := by
  obtain ⟨h1, h2, ao, cap, rfl, h3⟩ := h
  obtain ⟨h1', _, ao', cap', rfl, h3'⟩ := h'
  have H3 := Lib.hid h3
  have H3' := Lib.hid h3'
  have HE := Lib.hid he
  clear h3 h3' he
  rw [fl_length] at h1 h1'
  have h2' : n ≤ 9223372036854775807 := h2
  go_enter Try.func41, Try.ntmps41
  go_wp2
  go_loopw [5] (fun i wr => ∃ k : Nat, k ≤ n ∧ i = .int .i64 (k : Int) ∧ Below w.heap.size w wr) (fun i _ => n - (intOf i).toNat)
  case atStart => exact ⟨0, Nat.zero_le _, rfl, Below.refl _ _⟩
  case round =>
    obtain ⟨k, hk, rfl, hb⟩ := hrel
    by_cases hlt : k < n
    · obtain ⟨b, o, rfl, hbl, hcell⟩ := H3.out.resolve_left (by omega)
      obtain ⟨b', o', rfl, hbl', hcell'⟩ := H3'.out.resolve_left (by omega)
      obtain ⟨x0, hx0⟩ := fl_some (l := l) (j := k) (by omega)
      have fx0 : wr.cell? ⟨b, o + k, none⟩ = some (.float .f32 x0) := (hb.cell (p := ⟨b, o + (k), none⟩) hbl).trans (hcell (k) _ hx0).1
      have gx0 : wr.frozen? ⟨b, o + k, none⟩ = false := (hb.frozen (p := ⟨b, o + (k), none⟩) hbl).trans (hcell (k) _ hx0).2
      obtain ⟨y0, hy0⟩ := fl_some (l := m) (j := k) (by omega)
      have fy0 : wr.cell? ⟨b', o' + k, none⟩ = some (.float .f32 y0) := (hb.cell (p := ⟨b', o' + (k), none⟩) hbl').trans (hcell' (k) _ hy0).1
      have gy0 : wr.frozen? ⟨b', o' + k, none⟩ = false := (hb.frozen (p := ⟨b', o' + (k), none⟩) hbl').trans (hcell' (k) _ hy0).2
      have E0 := Lib.hid (cn_at HE.out hx0 hy0)
      have hbw : b < wr.heap.size := Nat.lt_of_lt_of_le hbl hb.size
      have hbw' : b' < wr.heap.size := Nat.lt_of_lt_of_le hbl' hb.size
      clear hx0 hy0 hcell hcell'
      go_wp2_with fail
      refine region_calmA wr (wr.heap.size) [(⟨b, o + k, none⟩, .float .f32 x0), (⟨b', o' + k, none⟩, .float .f32 y0)] (fun _ _ v => v = .bool true) [] (by kernel_rfl) (by kernel_rfl) (by kernel_rfl) ⟨⟨by simp [Held, go_sem, *], by (repeat (first | assumption | (with_reducible exact Below.refl _ _) | (with_reducible refine Below.drewN ?_ _) | (with_reducible refine Below.drew ?_) | (with_reducible refine Below.allocS ?_ _) | ((with_reducible refine Below.setCell ?_ ?_ _); rotate_left; focus (first | omega | (simp; done) | (simp; omega))) | (with_reducible refine Below.step ?_ (by assumption))))⟩, by (first | (simp; done) | (simp; omega) | omega)⟩ ?_
      repeat (first | (first | (refine calmA_plain rfl rfl ?_ (fun K hK w1 hC => ?_); (focus (intro _ _; simp [RA]; done)); have hC' := hC.1.1; simp only [Held, and_true] at hC'; go_wp2_with (first | (refine wpList_fbin rfl rfl rfl rfl rfl (fun r n hr => ?_)) | (refine wpList_widen rfl rfl Try.underlying34 Try.underlying22 rfl (fun r n hr => ?_))); refine ⟨rfl, (by first | exact Below.refl _ _ | exact below_drewN _), hK _ ?_⟩; clear hC hC' hK K w1) | (refine calmA_check rfl rfl rfl ?_ ?_; (focus (intro _ _; simp [RA]; done)))) | (refine calmA_call (f := 21) (args := _) rfl ?_ (by (intro w1; simp [execOp, resolve, invoke, go_sem]; with_reducible rfl)) (fun w1 hC => ?_) ?_; (focus (intro _ _; simp [RA]; done)); (focus (refine (sameFloat_any _ _ _ (widen_same (Hid.out (by assumption)) (Hid.out (by assumption)) E0.out)).mono ?_; rintro e w2 ⟨n, rfl, rfl⟩; exact ⟨_, rfl, rfl, below_drewN _⟩)); rintro v rfl))
      refine calmA_nil ?_
      intro w' hC hF
      have hC' := hC.1.1
      simp only [Held, and_true] at hC'
      have hB3 := Below.step hb hC.1.2
      go_wp2_with fail
      go_roundw
      case rel => exact ⟨k + 1, hlt, by go_num, hB3⟩
      case measure => simp [intOf]; omega
    · obtain rfl : k = n := by omega
      go_wp2
      go_ret
      exact ⟨rfl, hb⟩

set_option maxRecDepth 100000 in
set_option maxHeartbeats 2000000 in
theorem markFloat32S_any (v : Value) (n k0 base : Nat) (xs : List Value) (w : World) (h : w.ownsRow base 22 1 v n xs) (hk0 : k0 ≤ 1073741824) (hn : n ≤ 1073741824) :
    Calls Try.prog 42 #[v, .int .i64 (k0 : Int)] w fun e w' => e = .returned (.int .i64 ((k0 + n * 1 : Nat) : Int)) ∧ w'.ownsRow base 22 1 v n (marks k0 (n * 1)) ∧ w.grownBy w' v.ownBlock := by
  have hcv : ∀ (z : Int) (w : World), (convert 3 22 (.int .i64 z)).run Try.prog w = .ok (.float .f32 (floatOfInt .f32 z)) w := fun z w => run_convert_int_float w 3 22 .i64 .f32 z (by kernel_rfl) Try.underlying22
  have h0 := h
  rcases h.2 with ⟨rfl, rfl⟩ | ⟨g, cap, cur, rfl, a2, a3, a4, a5, a6, a7⟩
  · have hx : xs = [] := List.eq_nil_of_length_eq_zero (by simpa using h.1)
    subst hx
    have H0 := Lib.hid h0
    clear h h0
    go_enter Try.func42, Try.ntmps42
    go_wp2
    go_loopw [1, 5] (fun q i wr => q = .int .i64 (k0 : Int) ∧ i = .int .i64 0 ∧ wr = w) (fun _ _ _ => 0)
    case atStart => exact ⟨rfl, rfl, rfl⟩
    case round =>
      obtain ⟨rfl, rfl, rfl⟩ := hrel
      go_wp2
      go_ret
      exact ⟨ret_int (by omega), H0.out, World.grownBy.refl _ _⟩
  · have hl : xs.length = n * 1 := h.1
    have H0 := Lib.hid h0
    have ha2 := Lib.hid a2
    clear h h0 a2 a3 a4 a5 a6 a7
    have HM : Hid ((marks k0 (n * 1)).length = xs.length) := (marks_length _ _).trans hl.symm
    go_enter Try.func42, Try.ntmps42
    go_wp2
    go_loopw [1, 5] (fun q i wr => ∃ j K : Nat, j ≤ n ∧ K = k0 + j * 1 ∧ i = .int .i64 (j : Int) ∧ q = .int .i64 (K : Int) ∧ wr.ownsRow base 22 1 (.slice (some ⟨g, 0, none⟩) n cap) n (part (marks k0 (n * 1)) xs (j)) ∧ w.grownBy wr (some g)) (fun _ i _ => n - (intOf i).toNat)
    case atStart => exact ⟨0, k0, Nat.zero_le _, by omega, rfl, rfl, by (try rw [Nat.zero_mul]); rw [part_zero]; exact H0.out, World.grownBy.refl _ _⟩
    case round =>
      obtain ⟨j, K, hj, hK, rfl, rfl, ho, hg⟩ := hrel
      by_cases hlt : j < n
      · have HK := Lib.hid hK
        have hKb : K ≤ 1073741824 + n * 1 := by omega
        clear hK
        have m0 : Hid ((marks k0 (n * 1))[j]? = some (.float .f32 (floatOfInt .f32 ((K : Int))))) := by
          show _ = _
          rw [marks_get (by omega)]
          congr 3
          have := HK.out
          omega
        obtain ⟨u0, c0⟩ := cell_some ho (j) (by omega)
        have d0 := ho.frozenAt (j)
        have HO := Lib.hid ho
        have HG := Lib.hid hg
        clear ho hg
        go_wp2
        go_roundw
        case rel =>
          have s0 := HO.out
          have q0 := HG.out
          have t0 := s0.stored (j) (.float .f32 (floatOfInt .f32 ((K : Int))))
          have q1 := grownBy_trans q0 t0.2
          have s1 := t0.1
          rw [part_set HM.out m0.out] at s1
          refine ⟨j + 1, K + 1, hlt, by have := HK.out; omega, by go_num, by go_num, ?_, ?_⟩
          · exact s1
          · exact q1
        case measure => simp [intOf]; omega
      · obtain rfl : j = n := by omega
        have h4 := part_full HM.out
        rw [marks_length] at h4
        (try rw [Nat.mul_one] at h4)
        have HK := Lib.hid hK
        clear hK
        go_wp2
        go_ret
        refine ⟨ret_int (by have := HK.out; omega), ?_, hg⟩
        (try rw [Nat.mul_one] at ho ⊢)
        rw [h4] at ho
        exact ho

set_option maxRecDepth 100000 in
set_option maxHeartbeats 2000000 in
theorem heldFloat32S_any (v : Value) (n k0 : Nat) (w : World) (h : RowAt w v 1 n (marks k0 (n * 1))) (hk0 : k0 ≤ 1073741824) (hn : n ≤ 1073741824) :
    Calls Try.prog 43 #[v, .int .i64 (k0 : Int)] w fun e w' => e = .returned (.int .i64 ((k0 + n * 1 : Nat) : Int)) ∧ w' = w := by
  have hcv : ∀ (z : Int) (w : World), (convert 3 22 (.int .i64 z)).run Try.prog w = .ok (.float .f32 (floatOfInt .f32 z)) w := fun z w => run_convert_int_float w 3 22 .i64 .f32 z (by kernel_rfl) Try.underlying22
  obtain ⟨h1, h2, ao, cap, rfl, h3⟩ := h
  have H3 := Lib.hid h3
  clear h3 h1
  go_enter Try.func43, Try.ntmps43
  go_wp2
  go_loopw [1, 5] (fun q i wr => ∃ j K : Nat, j ≤ n ∧ K = k0 + j * 1 ∧ i = .int .i64 (j : Int) ∧ q = .int .i64 (K : Int) ∧ wr = w) (fun _ i _ => n - (intOf i).toNat)
  case atStart => exact ⟨0, k0, Nat.zero_le _, by omega, rfl, rfl, rfl⟩
  case round =>
    obtain ⟨j, K, hj, hK, rfl, rfl, rfl⟩ := hrel
    by_cases hlt : j < n
    · obtain ⟨b, o, rfl, hbl, hcell⟩ := H3.out.resolve_left (by omega)
      have HK := Lib.hid hK
      have hKb : K ≤ 1073741824 + n * 1 := by omega
      clear hK
      have m0 : (marks k0 (n * 1))[j]? = some (.float .f32 (floatOfInt .f32 ((K : Int)))) := by
        rw [marks_get (by omega)]
        congr 3
        have := HK.out
        omega
      have f0 : wr.cell? ⟨b, o + j, none⟩ = some (.float .f32 (floatOfInt .f32 ((K : Int)))) := (hcell (j) _ m0).1
      have e0 := eqF_int ((K : Int))
      clear m0
      go_wp2
      go_roundw
      case rel => exact ⟨j + 1, K + 1, hlt, by have := HK.out; omega, by go_num, by go_num, by first | trivial | rfl⟩
      case measure => simp [intOf]; omega
    · obtain rfl : j = n := by omega
      have HK := Lib.hid hK
      clear hK
      go_wp2
      go_ret
      exact ⟨ret_int (by have := HK.out; omega), by first | trivial | rfl⟩





theorem info_Vector : (Try.prog.info? 43).map (fun i => (i.zero, i.size, i.bytes)) = some (some (.agg #[.float .f32 0, .float .f32 0, .float .f32 0]), 3, 12) := by kernel_rfl








theorem info_Int64 : (Try.prog.info? 2).map (fun i => (i.zero, i.size, i.bytes)) = some (some (.int .i64 0), 1, 8) := by kernel_rfl









end Go.Proofs.Ytciamnnfnbmjpaa
