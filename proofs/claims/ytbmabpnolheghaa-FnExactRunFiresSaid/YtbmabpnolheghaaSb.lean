/-
  The walks of slices of a law's arguments: their sizes, copies, comparisons, marks.
-/
import Derived.Test.YtbmabpnolheghaaSa
import Derived.Test.YtbmabpnolheghaaCy
import Derived.Test.YtbmabpnolheghaaWe
set_option linter.unusedVariables false
set_option linter.unusedSimpArgs false
namespace Go.Proofs.Ytbmabpnolheghaa
open Go.RowKit

def NewRow (E : TypeId) (c n : Nat) (xs : List Value) (w : World) (e : Ending) (w' : World) : Prop :=
  ∃ g, e = .returned (.slice (some ⟨g, 0, none⟩) n n) ∧ w'.ownsRow w.heap.size E c (.slice (some ⟨g, 0, none⟩) n n) n xs ∧ Below w.heap.size w w'

set_option maxRecDepth 100000 in
theorem toClockX_any (x0 x1 : Nat) (w : World) : Calls Try.prog 130 #[.agg #[.float .f32 x0, .float .f32 x1]] w fun e w' => e = .returned (.agg #[.float .f32 x0, .float .f32 x1]) ∧ w' = ((w.alloc (.cells #[.float .f32 x0, .float .f32 x1] 162)).alloc (.cells #[.float .f32 x0, .float .f32 x1] 113)).alloc (.cells #[.float .f32 x0, .float .f32 x1] 113) := by
  go_enter Try.func130, Try.ntmps130
  go_wp2
  exact bodyPost_ret (v := .agg #[.float .f32 x0, .float .f32 x1]) (by simp [results, Try.results130, go_sem]) rfl ⟨rfl, rfl⟩

theorem toClock_any (x0 x1 : Nat) (w : World) : Calls Try.prog 130 #[.agg #[.float .f32 x0, .float .f32 x1]] w (BV (.agg #[.float .f32 x0, .float .f32 x1]) w) := by
  refine (toClockX_any x0 x1 w).mono ?_
  rintro e w' ⟨rfl, rfl⟩
  refine ⟨rfl, ?_⟩
  (repeat (first | (with_reducible exact Below.refl _ _) | (with_reducible refine Below.drewN ?_ _) | (with_reducible refine Below.drew ?_) | (with_reducible refine Below.allocS ?_ _) | ((with_reducible refine Below.setCell ?_ ?_ _); rotate_left; focus (first | omega | (simp; done) | (simp; omega))) | (with_reducible refine Below.step ?_ (by assumption))))

set_option maxRecDepth 100000 in
theorem toBallX_any (x0 x1 x2 : Nat) (w : World) : Calls Try.prog 118 #[.agg #[.float .f32 x0, .float .f32 x1, .float .f32 x2]] w fun e w' => e = .returned (.agg #[.float .f32 x0, .float .f32 x1, .float .f32 x2]) ∧ w' = ((w.alloc (.cells #[.float .f32 x0, .float .f32 x1, .float .f32 x2] 151)).alloc (.cells #[.float .f32 x0, .float .f32 x1, .float .f32 x2] 94)).alloc (.cells #[.float .f32 x0, .float .f32 x1, .float .f32 x2] 94) := by
  go_enter Try.func118, Try.ntmps118
  go_wp2
  exact bodyPost_ret (v := .agg #[.float .f32 x0, .float .f32 x1, .float .f32 x2]) (by simp [results, Try.results118, go_sem]) rfl ⟨rfl, rfl⟩

theorem toBall_any (x0 x1 x2 : Nat) (w : World) : Calls Try.prog 118 #[.agg #[.float .f32 x0, .float .f32 x1, .float .f32 x2]] w (BV (.agg #[.float .f32 x0, .float .f32 x1, .float .f32 x2]) w) := by
  refine (toBallX_any x0 x1 x2 w).mono ?_
  rintro e w' ⟨rfl, rfl⟩
  refine ⟨rfl, ?_⟩
  (repeat (first | (with_reducible exact Below.refl _ _) | (with_reducible refine Below.drewN ?_ _) | (with_reducible refine Below.drew ?_) | (with_reducible refine Below.allocS ?_ _) | ((with_reducible refine Below.setCell ?_ ?_ _); rotate_left; focus (first | omega | (simp; done) | (simp; omega))) | (with_reducible refine Below.step ?_ (by assumption))))

set_option maxRecDepth 100000 in
theorem eqClock_any (x0 x1 y0 y1 : Nat) (w : World) (e0 : cn .f32 x0 = cn .f32 y0) (e1 : cn .f32 x1 = cn .f32 y1) : Calls Try.prog 132 #[.agg #[.float .f32 x0, .float .f32 x1], .agg #[.float .f32 y0, .float .f32 y1]] w (BB true w) := by
  have E0 := Lib.hid e0
  have E1 := Lib.hid e1
  clear e0 e1
  go_enter Try.func132, Try.ntmps132
  go_wp2_with (first | (refine wpList_widen rfl rfl Try.underlying85 Try.underlying23 rfl (fun r n hr => ?_)) | (go_at_call 52; refine (sameFloat_any _ _ _ (widen_same (Hid.out (by assumption)) (Hid.out (by assumption)) (Hid.out (by assumption)))).mono ?_; rintro e w' ⟨n, rfl, rfl⟩))
  go_ret
  refine ⟨rfl, ?_⟩
  (repeat (first | (with_reducible exact Below.refl _ _) | (with_reducible refine Below.drewN ?_ _) | (with_reducible refine Below.drew ?_) | (with_reducible refine Below.allocS ?_ _) | ((with_reducible refine Below.setCell ?_ ?_ _); rotate_left; focus (first | omega | (simp; done) | (simp; omega))) | (with_reducible refine Below.step ?_ (by assumption))))

set_option maxRecDepth 100000 in
theorem eqBall_any (x0 x1 x2 y0 y1 y2 : Nat) (w : World) (e0 : cn .f32 x0 = cn .f32 y0) (e1 : cn .f32 x1 = cn .f32 y1) (e2 : cn .f32 x2 = cn .f32 y2) : Calls Try.prog 121 #[.agg #[.float .f32 x0, .float .f32 x1, .float .f32 x2], .agg #[.float .f32 y0, .float .f32 y1, .float .f32 y2]] w (BB true w) := by
  have E0 := Lib.hid e0
  have E1 := Lib.hid e1
  have E2 := Lib.hid e2
  clear e0 e1 e2
  go_enter Try.func121, Try.ntmps121
  go_wp2_with (first | (refine wpList_widen rfl rfl Try.underlying85 Try.underlying23 rfl (fun r n hr => ?_)) | (go_at_call 52; refine (sameFloat_any _ _ _ (widen_same (Hid.out (by assumption)) (Hid.out (by assumption)) (Hid.out (by assumption)))).mono ?_; rintro e w' ⟨n, rfl, rfl⟩))
  go_ret
  refine ⟨rfl, ?_⟩
  (repeat (first | (with_reducible exact Below.refl _ _) | (with_reducible refine Below.drewN ?_ _) | (with_reducible refine Below.drew ?_) | (with_reducible refine Below.allocS ?_ _) | ((with_reducible refine Below.setCell ?_ ?_ _); rotate_left; focus (first | omega | (simp; done) | (simp; omega))) | (with_reducible refine Below.step ?_ (by assumption))))

theorem szFloat32S_any (v : Value) (n left : Nat) (xs : List Value) (w : World) (h : RowAt w v 1 n xs) (hl : left ≤ 1048576) :
    Calls Try.prog 73 #[v, .int .i64 (left : Int)] w fun e w' => e = .returned (.int .i64 (if n ≤ left then ((left - n : Nat) : Int) else -1)) ∧ w' = w := by
  obtain ⟨h1, h2, ao, cap, rfl, h3⟩ := h
  have H3 := Lib.hid h3
  clear h3 h1
  unfold maxLen at h2
  by_cases hn : n ≤ left
  · rw [if_pos hn]
    go_enter Try.func73, Try.ntmps73
    go_wp2
    go_ret
    exact ⟨ret_int (by omega), rfl⟩
  · rw [if_neg hn]
    go_enter Try.func73, Try.ntmps73
    go_wp2
    go_ret
    exact ⟨rfl, rfl⟩

theorem info_Float32 : (Try.prog.info? 23).map (fun i => (i.zero, i.size, i.bytes)) = some (some (.float .f32 0), 1, 4) := by kernel_rfl
set_option maxRecDepth 100000 in
set_option maxHeartbeats 2000000 in
theorem toFloat32S_any (v : Value) (n : Nat) (l : List Nat) (w : World) (h : RowAt w v 1 n (fl l)) (hn : n ≤ 1048576) : Calls Try.prog 76 #[v] w (NewRow 23 1 n (fl l) w) := by
  obtain ⟨h1, h2, ao, cap, rfl, h3⟩ := h
  have H3 := Lib.hid h3
  clear h3
  rw [fl_length] at h1
  have h2' : n ≤ 9223372036854775807 := h2
  obtain ⟨i0, hi, hz0, hz1, hz2⟩ := info_parts info_Float32
  go_enter Try.func76, Try.ntmps76
  go_wp2_with (at_make; refine wpList_make_full _ rfl _ _ 42 rfl w.heap.size 23 i0 (.float .f32 0) 1 Try.underlying42 hi hz0 hz1 .i64 .i64 _ _ n rfl rfl rfl rfl ?b2 ?b3 ?b4 ?_)
  case b2 => rw [hz2]; omega
  case b3 => exact h2
  case b4 => exact Nat.le_refl _
  intro w1 hown hgrow
  have hB : Below w.heap.size w w1 := (Below.refl _ _).grown hgrow (Nat.le_refl _) (by simp)
  obtain ⟨zs, hown⟩ : ∃ zs, w1.ownsRow w.heap.size 23 1 (.slice (some ⟨w.heap.size, 0, none⟩) n n) n zs := ⟨_, hown⟩
  have hzl : (fl l).length = zs.length := by rw [hown.1, fl_length, h1]
  have hwl : w.heap.size < w1.heap.size := (hown.lt _ rfl).2
  have HZ := Lib.hid hzl
  have HO := Lib.hid hown
  clear hgrow hzl
  go_wp2
  go_loopw [4] (fun i wr => ∃ k : Nat, k ≤ n ∧ i = .int .i64 (k : Int) ∧ wr.ownsRow w.heap.size 23 1 (.slice (some ⟨w.heap.size, 0, none⟩) n n) n (part (fl l) zs (k)) ∧ Below w.heap.size w wr) (fun i _ => n - (intOf i).toNat)
  case atStart => exact ⟨0, Nat.zero_le _, rfl, by (try rw [Nat.zero_mul]); rw [part_zero]; exact HO.out, hB⟩
  case round =>
    obtain ⟨k, hk, rfl, ho, hb⟩ := hrel
    by_cases hlt : k < n
    · obtain ⟨b, o, rfl, hbl, hcell⟩ := H3.out.resolve_left (by omega)
      obtain ⟨x0, hx0⟩ := fl_some (l := l) (j := k) (by omega)
      have f0 : wr.cell? ⟨b, o + k, none⟩ = some (.float .f32 x0) := (hb.cell (p := ⟨b, o + (k), none⟩) hbl).trans (hcell (k) _ hx0).1
      have g0 : wr.cell? ⟨w.heap.size, k, none⟩ = some (zs.getD k undef) := (ho.cellAt k (by omega)).trans (part_here HZ.out (by rw [← HZ.out, fl_length]; omega))
      have g1 : wr.frozen? ⟨w.heap.size, k, none⟩ = false := ho.frozenAt k
      have HS := Lib.hid (ho.stored k (.float .f32 x0))
      have HX := Lib.hid hx0
      clear hx0
      go_wp2
      go_roundw
      case rel =>
        refine ⟨k + 1, hlt, by go_num, ?_, ?_⟩
        · have := HS.out.1
          rw [part_set HZ.out HX.out] at this
          exact this
        · exact hb.setCell (Nat.le_refl _) _
      case measure => simp [intOf]; omega
    · obtain rfl : k = n := by omega
      go_wp2
      go_ret
      refine ⟨_, rfl, ?_, hb⟩
      have h4 := part_full HZ.out
      rw [fl_length, h1] at h4
      (try rw [Nat.mul_one] at h4)
      rw [h4] at ho
      exact ho

set_option maxRecDepth 100000 in
set_option maxHeartbeats 2000000 in
theorem eqFloat32S_any (v v' : Value) (n : Nat) (l m : List Nat) (w : World) (h : RowAt w v 1 n (fl l)) (h' : RowAt w v' 1 n (fl m)) (he : l.map (cn .f32) = m.map (cn .f32)) : Calls Try.prog 44 #[v, v'] w (BB true w) := by
  obtain ⟨h1, h2, ao, cap, rfl, h3⟩ := h
  obtain ⟨h1', _, ao', cap', rfl, h3'⟩ := h'
  have H3 := Lib.hid h3
  have H3' := Lib.hid h3'
  have HE := Lib.hid he
  clear h3 h3' he
  rw [fl_length] at h1 h1'
  have h2' : n ≤ 9223372036854775807 := h2
  go_enter Try.func44, Try.ntmps44
  go_wp2
  go_loopw [5] (fun i wr => ∃ k : Nat, k ≤ n ∧ i = .int .i64 (k : Int) ∧ Below w.heap.size w wr) (fun i _ => n - (intOf i).toNat)
  case atStart => exact ⟨0, Nat.zero_le _, rfl, Below.refl _ _⟩
  case round =>
    obtain ⟨k, hk, rfl, hb⟩ := hrel
    by_cases hlt : k < n
    · obtain ⟨b, o, rfl, hbl, hcell⟩ := H3.out.resolve_left (by omega)
      obtain ⟨b', o', rfl, hbl', hcell'⟩ := H3'.out.resolve_left (by omega)
      obtain ⟨x0, hx0⟩ := fl_some (l := l) (j := k) (by omega)
      have fx0 : wr.cell? ⟨b, o + k, none⟩ = some (.float .f32 x0) := (hb.cell (p := ⟨b, o + (k), none⟩) hbl).trans (hcell (k) _ hx0).1
      have gx0 : wr.frozen? ⟨b, o + k, none⟩ = false := (hb.frozen (p := ⟨b, o + (k), none⟩) hbl).trans (hcell (k) _ hx0).2
      obtain ⟨y0, hy0⟩ := fl_some (l := m) (j := k) (by omega)
      have fy0 : wr.cell? ⟨b', o' + k, none⟩ = some (.float .f32 y0) := (hb.cell (p := ⟨b', o' + (k), none⟩) hbl').trans (hcell' (k) _ hy0).1
      have gy0 : wr.frozen? ⟨b', o' + k, none⟩ = false := (hb.frozen (p := ⟨b', o' + (k), none⟩) hbl').trans (hcell' (k) _ hy0).2
      have E0 := Lib.hid (cn_at HE.out hx0 hy0)
      have hbw : b < wr.heap.size := Nat.lt_of_lt_of_le hbl hb.size
      have hbw' : b' < wr.heap.size := Nat.lt_of_lt_of_le hbl' hb.size
      clear hx0 hy0 hcell hcell'
      go_wp2_with fail
      refine region_calmA wr (wr.heap.size) [(⟨b, o + k, none⟩, .float .f32 x0), (⟨b', o' + k, none⟩, .float .f32 y0)] (fun _ _ v => v = .bool true) [] (by kernel_rfl) (by kernel_rfl) (by kernel_rfl) ⟨⟨by simp [Held, go_sem, *], by (repeat (first | assumption | (with_reducible exact Below.refl _ _) | (with_reducible refine Below.drewN ?_ _) | (with_reducible refine Below.drew ?_) | (with_reducible refine Below.allocS ?_ _) | ((with_reducible refine Below.setCell ?_ ?_ _); rotate_left; focus (first | omega | (simp; done) | (simp; omega))) | (with_reducible refine Below.step ?_ (by assumption))))⟩, by (first | (simp; done) | (simp; omega) | omega)⟩ ?_
      repeat (first | (first | (refine calmA_plain rfl rfl ?_ (fun K hK w1 hC => ?_); (focus (intro _ _; simp [RA]; done)); have hC' := hC.1.1; simp only [Held, and_true] at hC'; go_wp2_with (first | (refine wpList_fbin rfl rfl rfl rfl rfl (fun r n hr => ?_)) | (refine wpList_widen rfl rfl Try.underlying85 Try.underlying23 rfl (fun r n hr => ?_))); refine ⟨rfl, (by first | exact Below.refl _ _ | exact below_drewN _), hK _ ?_⟩; clear hC hC' hK K w1) | (refine calmA_check rfl rfl rfl ?_ ?_; (focus (intro _ _; simp [RA]; done)))) | (refine calmA_call (f := 52) (args := _) rfl ?_ (by (intro w1; simp [execOp, resolve, invoke, go_sem]; with_reducible rfl)) (fun w1 hC => ?_) ?_; (focus (intro _ _; simp [RA]; done)); (focus (refine (sameFloat_any _ _ _ (widen_same (Hid.out (by assumption)) (Hid.out (by assumption)) E0.out)).mono ?_; rintro e w2 ⟨n, rfl, rfl⟩; exact ⟨_, rfl, rfl, below_drewN _⟩)); rintro v rfl))
      refine calmA_nil ?_
      intro w' hC hF
      have hC' := hC.1.1
      simp only [Held, and_true] at hC'
      have hB3 := Below.step hb hC.1.2
      go_wp2_with fail
      go_roundw
      case rel => exact ⟨k + 1, hlt, by go_num, hB3⟩
      case measure => simp [intOf]; omega
    · obtain rfl : k = n := by omega
      go_wp2
      go_ret
      exact ⟨rfl, hb⟩

set_option maxRecDepth 100000 in
set_option maxHeartbeats 2000000 in
theorem markFloat32S_any (v : Value) (n k0 base : Nat) (xs : List Value) (w : World) (h : w.ownsRow base 23 1 v n xs) (hk0 : k0 ≤ 1073741824) (hn : n ≤ 1073741824) :
    Calls Try.prog 46 #[v, .int .i64 (k0 : Int)] w fun e w' => e = .returned (.int .i64 ((k0 + n * 1 : Nat) : Int)) ∧ w'.ownsRow base 23 1 v n (marks k0 (n * 1)) ∧ w.grownBy w' v.ownBlock := by
  have hcv : ∀ (z : Int) (w : World), (convert 3 23 (.int .i64 z)).run Try.prog w = .ok (.float .f32 (floatOfInt .f32 z)) w := fun z w => run_convert_int_float w 3 23 .i64 .f32 z (by kernel_rfl) Try.underlying23
  have h0 := h
  rcases h.2 with ⟨rfl, rfl⟩ | ⟨g, cap, cur, rfl, a2, a3, a4, a5, a6, a7⟩
  · have hx : xs = [] := List.eq_nil_of_length_eq_zero (by simpa using h.1)
    subst hx
    have H0 := Lib.hid h0
    clear h h0
    go_enter Try.func46, Try.ntmps46
    go_wp2
    go_loopw [1, 5] (fun q i wr => q = .int .i64 (k0 : Int) ∧ i = .int .i64 0 ∧ wr = w) (fun _ _ _ => 0)
    case atStart => exact ⟨rfl, rfl, rfl⟩
    case round =>
      obtain ⟨rfl, rfl, rfl⟩ := hrel
      go_wp2
      go_ret
      exact ⟨ret_int (by omega), H0.out, World.grownBy.refl _ _⟩
  · have hl : xs.length = n * 1 := h.1
    have H0 := Lib.hid h0
    have ha2 := Lib.hid a2
    clear h h0 a2 a3 a4 a5 a6 a7
    have HM : Hid ((marks k0 (n * 1)).length = xs.length) := (marks_length _ _).trans hl.symm
    go_enter Try.func46, Try.ntmps46
    go_wp2
    go_loopw [1, 5] (fun q i wr => ∃ j K : Nat, j ≤ n ∧ K = k0 + j * 1 ∧ i = .int .i64 (j : Int) ∧ q = .int .i64 (K : Int) ∧ wr.ownsRow base 23 1 (.slice (some ⟨g, 0, none⟩) n cap) n (part (marks k0 (n * 1)) xs (j)) ∧ w.grownBy wr (some g)) (fun _ i _ => n - (intOf i).toNat)
    case atStart => exact ⟨0, k0, Nat.zero_le _, by omega, rfl, rfl, by (try rw [Nat.zero_mul]); rw [part_zero]; exact H0.out, World.grownBy.refl _ _⟩
    case round =>
      obtain ⟨j, K, hj, hK, rfl, rfl, ho, hg⟩ := hrel
      by_cases hlt : j < n
      · have HK := Lib.hid hK
        have hKb : K ≤ 1073741824 + n * 1 := by omega
        clear hK
        have m0 : Hid ((marks k0 (n * 1))[j]? = some (.float .f32 (floatOfInt .f32 ((K : Int))))) := by
          show _ = _
          rw [marks_get (by omega)]
          congr 3
          have := HK.out
          omega
        obtain ⟨u0, c0⟩ := cell_some ho (j) (by omega)
        have d0 := ho.frozenAt (j)
        have HO := Lib.hid ho
        have HG := Lib.hid hg
        clear ho hg
        go_wp2
        go_roundw
        case rel =>
          have s0 := HO.out
          have q0 := HG.out
          have t0 := s0.stored (j) (.float .f32 (floatOfInt .f32 ((K : Int))))
          have q1 := grownBy_trans q0 t0.2
          have s1 := t0.1
          rw [part_set HM.out m0.out] at s1
          refine ⟨j + 1, K + 1, hlt, by have := HK.out; omega, by go_num, by go_num, ?_, ?_⟩
          · exact s1
          · exact q1
        case measure => simp [intOf]; omega
      · obtain rfl : j = n := by omega
        have h4 := part_full HM.out
        rw [marks_length] at h4
        (try rw [Nat.mul_one] at h4)
        have HK := Lib.hid hK
        clear hK
        go_wp2
        go_ret
        refine ⟨ret_int (by have := HK.out; omega), ?_, hg⟩
        (try rw [Nat.mul_one] at ho ⊢)
        rw [h4] at ho
        exact ho

set_option maxRecDepth 100000 in
set_option maxHeartbeats 2000000 in
theorem heldFloat32S_any (v : Value) (n k0 : Nat) (w : World) (h : RowAt w v 1 n (marks k0 (n * 1))) (hk0 : k0 ≤ 1073741824) (hn : n ≤ 1073741824) :
    Calls Try.prog 48 #[v, .int .i64 (k0 : Int)] w fun e w' => e = .returned (.int .i64 ((k0 + n * 1 : Nat) : Int)) ∧ w' = w := by
  have hcv : ∀ (z : Int) (w : World), (convert 3 23 (.int .i64 z)).run Try.prog w = .ok (.float .f32 (floatOfInt .f32 z)) w := fun z w => run_convert_int_float w 3 23 .i64 .f32 z (by kernel_rfl) Try.underlying23
  obtain ⟨h1, h2, ao, cap, rfl, h3⟩ := h
  have H3 := Lib.hid h3
  clear h3 h1
  go_enter Try.func48, Try.ntmps48
  go_wp2
  go_loopw [1, 5] (fun q i wr => ∃ j K : Nat, j ≤ n ∧ K = k0 + j * 1 ∧ i = .int .i64 (j : Int) ∧ q = .int .i64 (K : Int) ∧ wr = w) (fun _ i _ => n - (intOf i).toNat)
  case atStart => exact ⟨0, k0, Nat.zero_le _, by omega, rfl, rfl, rfl⟩
  case round =>
    obtain ⟨j, K, hj, hK, rfl, rfl, rfl⟩ := hrel
    by_cases hlt : j < n
    · obtain ⟨b, o, rfl, hbl, hcell⟩ := H3.out.resolve_left (by omega)
      have HK := Lib.hid hK
      have hKb : K ≤ 1073741824 + n * 1 := by omega
      clear hK
      have m0 : (marks k0 (n * 1))[j]? = some (.float .f32 (floatOfInt .f32 ((K : Int)))) := by
        rw [marks_get (by omega)]
        congr 3
        have := HK.out
        omega
      have f0 : wr.cell? ⟨b, o + j, none⟩ = some (.float .f32 (floatOfInt .f32 ((K : Int)))) := (hcell (j) _ m0).1
      have e0 := eqF_int ((K : Int))
      clear m0
      go_wp2
      go_roundw
      case rel => exact ⟨j + 1, K + 1, hlt, by have := HK.out; omega, by go_num, by go_num, by first | trivial | rfl⟩
      case measure => simp [intOf]; omega
    · obtain rfl : j = n := by omega
      have HK := Lib.hid hK
      clear hK
      go_wp2
      go_ret
      exact ⟨ret_int (by have := HK.out; omega), by first | trivial | rfl⟩

theorem szClockS_any (v : Value) (n left : Nat) (xs : List Value) (w : World) (h : RowAt w v 2 n xs) (hl : left ≤ 1048576) :
    Calls Try.prog 72 #[v, .int .i64 (left : Int)] w fun e w' => e = .returned (.int .i64 (if n ≤ left then ((left - n : Nat) : Int) else -1)) ∧ w' = w := by
  obtain ⟨h1, h2, ao, cap, rfl, h3⟩ := h
  have H3 := Lib.hid h3
  clear h3 h1
  unfold maxLen at h2
  by_cases hn : n ≤ left
  · rw [if_pos hn]
    go_enter Try.func72, Try.ntmps72
    go_wp2
    go_ret
    exact ⟨ret_int (by omega), rfl⟩
  · rw [if_neg hn]
    go_enter Try.func72, Try.ntmps72
    go_wp2
    go_ret
    exact ⟨rfl, rfl⟩

theorem info_Clock : (Try.prog.info? 113).map (fun i => (i.zero, i.size, i.bytes)) = some (some (.agg #[.float .f32 0, .float .f32 0]), 2, 8) := by kernel_rfl
set_option maxRecDepth 100000 in
set_option maxHeartbeats 2000000 in
theorem toClockS_any (v : Value) (n : Nat) (l : List Nat) (w : World) (h : RowAt w v 2 n (fl l)) (hn : n ≤ 1048576) : Calls Try.prog 75 #[v] w (NewRow 113 2 n (fl l) w) := by
  obtain ⟨h1, h2, ao, cap, rfl, h3⟩ := h
  have H3 := Lib.hid h3
  clear h3
  rw [fl_length] at h1
  have h2' : n ≤ 9223372036854775807 := h2
  obtain ⟨i0, hi, hz0, hz1, hz2⟩ := info_parts info_Clock
  go_enter Try.func75, Try.ntmps75
  go_wp2_with (at_make; refine wpList_make_full _ rfl _ _ 47 rfl w.heap.size 113 i0 (.agg #[.float .f32 0, .float .f32 0]) 2 Try.underlying47 hi hz0 hz1 .i64 .i64 _ _ n rfl rfl rfl rfl ?b2 ?b3 ?b4 ?_)
  case b2 => rw [hz2]; omega
  case b3 => exact h2
  case b4 => exact Nat.le_refl _
  intro w1 hown hgrow
  have hB : Below w.heap.size w w1 := (Below.refl _ _).grown hgrow (Nat.le_refl _) (by simp)
  obtain ⟨zs, hown⟩ : ∃ zs, w1.ownsRow w.heap.size 113 2 (.slice (some ⟨w.heap.size, 0, none⟩) n n) n zs := ⟨_, hown⟩
  have hzl : (fl l).length = zs.length := by rw [hown.1, fl_length, h1]
  have hwl : w.heap.size < w1.heap.size := (hown.lt _ rfl).2
  have HZ := Lib.hid hzl
  have HO := Lib.hid hown
  clear hgrow hzl
  go_wp2
  go_loopw [4] (fun i wr => ∃ k : Nat, k ≤ n ∧ i = .int .i64 (k : Int) ∧ wr.ownsRow w.heap.size 113 2 (.slice (some ⟨w.heap.size, 0, none⟩) n n) n (part (fl l) zs (k * 2)) ∧ Below w.heap.size w wr) (fun i _ => n - (intOf i).toNat)
  case atStart => exact ⟨0, Nat.zero_le _, rfl, by (try rw [Nat.zero_mul]); rw [part_zero]; exact HO.out, hB⟩
  case round =>
    obtain ⟨k, hk, rfl, ho, hb⟩ := hrel
    by_cases hlt : k < n
    · obtain ⟨b, o, rfl, hbl, hcell⟩ := H3.out.resolve_left (by omega)
      obtain ⟨x0, hx0⟩ := fl_some (l := l) (j := k * 2) (by omega)
      obtain ⟨x1, hx1⟩ := fl_some (l := l) (j := k * 2 + 1) (by omega)
      have f0 : wr.cell? ⟨b, o + k * 2, none⟩ = some (.float .f32 x0) := (hb.cell (p := ⟨b, o + (k * 2), none⟩) hbl).trans (hcell (k * 2) _ hx0).1
      have f1 : wr.cell? ⟨b, o + k * 2 + 1, none⟩ = some (.float .f32 x1) := (hb.cell (p := ⟨b, o + (k * 2 + 1), none⟩) hbl).trans (hcell (k * 2 + 1) _ hx1).1
      have HX0 := Lib.hid hx0
      have HX1 := Lib.hid hx1
      clear hx0 hx1
      have HO2 := Lib.hid ho
      clear ho
      go_wp2_with (first | (go_at_call 130; refine (toClock_any x0 x1 _).mono ?_; rintro e w2 ⟨rfl, hb2⟩; have ho2 := ownsRow_below HO2.out hb2; have hB2 := Below.step hb hb2; obtain ⟨u0, g0⟩ := cell_some ho2 (k * 2) (by omega); have gf0 := ho2.frozenAt (k * 2); obtain ⟨u1, g1⟩ := cell_some ho2 (k * 2 + 1) (by omega); have gf1 := ho2.frozenAt (k * 2 + 1); have HO3 := Lib.hid ho2; clear ho2))
      go_roundw
      case rel =>
        refine ⟨k + 1, hlt, by go_num, ?_, ?_⟩
        · have s0 := HO3.out
          have s1 := (s0.stored (k * 2) (.float .f32 x0)).1
          rw [part_set HZ.out HX0.out] at s1
          have s2 := (s1.stored (k * 2 + 1) (.float .f32 x1)).1
          rw [part_set HZ.out HX1.out] at s2
          rw [show (k + 1) * 2 = k * 2 + 2 by omega]
          exact s2
        · exact ((hB2).setCell (Nat.le_refl _) _).setCell (Nat.le_refl _) _
      case measure => simp [intOf]; omega
    · obtain rfl : k = n := by omega
      go_wp2
      go_ret
      refine ⟨_, rfl, ?_, hb⟩
      have h4 := part_full HZ.out
      rw [fl_length, h1] at h4
      (try rw [Nat.mul_one] at h4)
      rw [h4] at ho
      exact ho

set_option maxRecDepth 100000 in
set_option maxHeartbeats 2000000 in
theorem eqClockS_any (v v' : Value) (n : Nat) (l m : List Nat) (w : World) (h : RowAt w v 2 n (fl l)) (h' : RowAt w v' 2 n (fl m)) (he : l.map (cn .f32) = m.map (cn .f32)) : Calls Try.prog 80 #[v, v'] w (BB true w) := by
  obtain ⟨h1, h2, ao, cap, rfl, h3⟩ := h
  obtain ⟨h1', _, ao', cap', rfl, h3'⟩ := h'
  have H3 := Lib.hid h3
  have H3' := Lib.hid h3'
  have HE := Lib.hid he
  clear h3 h3' he
  rw [fl_length] at h1 h1'
  have h2' : n ≤ 9223372036854775807 := h2
  go_enter Try.func80, Try.ntmps80
  go_wp2
  go_loopw [5] (fun i wr => ∃ k : Nat, k ≤ n ∧ i = .int .i64 (k : Int) ∧ Below w.heap.size w wr) (fun i _ => n - (intOf i).toNat)
  case atStart => exact ⟨0, Nat.zero_le _, rfl, Below.refl _ _⟩
  case round =>
    obtain ⟨k, hk, rfl, hb⟩ := hrel
    by_cases hlt : k < n
    · obtain ⟨b, o, rfl, hbl, hcell⟩ := H3.out.resolve_left (by omega)
      obtain ⟨b', o', rfl, hbl', hcell'⟩ := H3'.out.resolve_left (by omega)
      obtain ⟨x0, hx0⟩ := fl_some (l := l) (j := k * 2) (by omega)
      have fx0 : wr.cell? ⟨b, o + k * 2, none⟩ = some (.float .f32 x0) := (hb.cell (p := ⟨b, o + (k * 2), none⟩) hbl).trans (hcell (k * 2) _ hx0).1
      have gx0 : wr.frozen? ⟨b, o + k * 2, none⟩ = false := (hb.frozen (p := ⟨b, o + (k * 2), none⟩) hbl).trans (hcell (k * 2) _ hx0).2
      obtain ⟨y0, hy0⟩ := fl_some (l := m) (j := k * 2) (by omega)
      have fy0 : wr.cell? ⟨b', o' + k * 2, none⟩ = some (.float .f32 y0) := (hb.cell (p := ⟨b', o' + (k * 2), none⟩) hbl').trans (hcell' (k * 2) _ hy0).1
      have gy0 : wr.frozen? ⟨b', o' + k * 2, none⟩ = false := (hb.frozen (p := ⟨b', o' + (k * 2), none⟩) hbl').trans (hcell' (k * 2) _ hy0).2
      have E0 := Lib.hid (cn_at HE.out hx0 hy0)
      obtain ⟨x1, hx1⟩ := fl_some (l := l) (j := k * 2 + 1) (by omega)
      have fx1 : wr.cell? ⟨b, o + k * 2 + 1, none⟩ = some (.float .f32 x1) := (hb.cell (p := ⟨b, o + (k * 2 + 1), none⟩) hbl).trans (hcell (k * 2 + 1) _ hx1).1
      have gx1 : wr.frozen? ⟨b, o + k * 2 + 1, none⟩ = false := (hb.frozen (p := ⟨b, o + (k * 2 + 1), none⟩) hbl).trans (hcell (k * 2 + 1) _ hx1).2
      obtain ⟨y1, hy1⟩ := fl_some (l := m) (j := k * 2 + 1) (by omega)
      have fy1 : wr.cell? ⟨b', o' + k * 2 + 1, none⟩ = some (.float .f32 y1) := (hb.cell (p := ⟨b', o' + (k * 2 + 1), none⟩) hbl').trans (hcell' (k * 2 + 1) _ hy1).1
      have gy1 : wr.frozen? ⟨b', o' + k * 2 + 1, none⟩ = false := (hb.frozen (p := ⟨b', o' + (k * 2 + 1), none⟩) hbl').trans (hcell' (k * 2 + 1) _ hy1).2
      have E1 := Lib.hid (cn_at HE.out hx1 hy1)
      have hbw : b < wr.heap.size := Nat.lt_of_lt_of_le hbl hb.size
      have hbw' : b' < wr.heap.size := Nat.lt_of_lt_of_le hbl' hb.size
      clear hx0 hy0 hx1 hy1 hcell hcell'
      go_wp2_with fail
      refine region_calmA wr (wr.heap.size) [(⟨b, o + k * 2, none⟩, .float .f32 x0), (⟨b, o + k * 2 + 1, none⟩, .float .f32 x1), (⟨b', o' + k * 2, none⟩, .float .f32 y0), (⟨b', o' + k * 2 + 1, none⟩, .float .f32 y1)] (fun _ _ v => v = .bool true) [] (by kernel_rfl) (by kernel_rfl) (by kernel_rfl) ⟨⟨by simp [Held, go_sem, *], by (repeat (first | assumption | (with_reducible exact Below.refl _ _) | (with_reducible refine Below.drewN ?_ _) | (with_reducible refine Below.drew ?_) | (with_reducible refine Below.allocS ?_ _) | ((with_reducible refine Below.setCell ?_ ?_ _); rotate_left; focus (first | omega | (simp; done) | (simp; omega))) | (with_reducible refine Below.step ?_ (by assumption))))⟩, by (first | (simp; done) | (simp; omega) | omega)⟩ ?_
      repeat (first | (first | (refine calmA_plain rfl rfl ?_ (fun K hK w1 hC => ?_); (focus (intro _ _; simp [RA]; done)); have hC' := hC.1.1; simp only [Held, and_true] at hC'; go_wp2_with (first | (refine wpList_fbin rfl rfl rfl rfl rfl (fun r n hr => ?_)) | (refine wpList_widen rfl rfl Try.underlying85 Try.underlying23 rfl (fun r n hr => ?_))); refine ⟨rfl, (by first | exact Below.refl _ _ | exact below_drewN _), hK _ ?_⟩; clear hC hC' hK K w1) | (refine calmA_check rfl rfl rfl ?_ ?_; (focus (intro _ _; simp [RA]; done)))) | (refine calmA_call (f := 132) (args := _) rfl ?_ (by (intro w1; simp [execOp, resolve, invoke, go_sem]; with_reducible rfl)) (fun w1 hC => ?_) ?_; (focus (intro _ _; simp [RA]; done)); (focus (refine (eqClock_any x0 x1 y0 y1 _ E0.out E1.out).mono ?_; rintro e w2 ⟨rfl, hb2⟩; exact ⟨_, rfl, rfl, hb2⟩)); rintro v rfl))
      refine calmA_nil ?_
      intro w' hC hF
      have hC' := hC.1.1
      simp only [Held, and_true] at hC'
      have hB3 := Below.step hb hC.1.2
      go_wp2_with fail
      go_roundw
      case rel => exact ⟨k + 1, hlt, by go_num, hB3⟩
      case measure => simp [intOf]; omega
    · obtain rfl : k = n := by omega
      go_wp2
      go_ret
      exact ⟨rfl, hb⟩

set_option maxRecDepth 100000 in
set_option maxHeartbeats 2000000 in
theorem markClockS_any (v : Value) (n k0 base : Nat) (xs : List Value) (w : World) (h : w.ownsRow base 113 2 v n xs) (hk0 : k0 ≤ 1073741824) (hn : n ≤ 1073741824) :
    Calls Try.prog 109 #[v, .int .i64 (k0 : Int)] w fun e w' => e = .returned (.int .i64 ((k0 + n * 2 : Nat) : Int)) ∧ w'.ownsRow base 113 2 v n (marks k0 (n * 2)) ∧ w.grownBy w' v.ownBlock := by
  have hcv : ∀ (z : Int) (w : World), (convert 3 23 (.int .i64 z)).run Try.prog w = .ok (.float .f32 (floatOfInt .f32 z)) w := fun z w => run_convert_int_float w 3 23 .i64 .f32 z (by kernel_rfl) Try.underlying23
  have h0 := h
  rcases h.2 with ⟨rfl, rfl⟩ | ⟨g, cap, cur, rfl, a2, a3, a4, a5, a6, a7⟩
  · have hx : xs = [] := List.eq_nil_of_length_eq_zero (by simpa using h.1)
    subst hx
    have H0 := Lib.hid h0
    clear h h0
    go_enter Try.func109, Try.ntmps109
    go_wp2
    go_loopw [1, 5] (fun q i wr => q = .int .i64 (k0 : Int) ∧ i = .int .i64 0 ∧ wr = w) (fun _ _ _ => 0)
    case atStart => exact ⟨rfl, rfl, rfl⟩
    case round =>
      obtain ⟨rfl, rfl, rfl⟩ := hrel
      go_wp2
      go_ret
      exact ⟨ret_int (by omega), H0.out, World.grownBy.refl _ _⟩
  · have hl : xs.length = n * 2 := h.1
    have H0 := Lib.hid h0
    have ha2 := Lib.hid a2
    clear h h0 a2 a3 a4 a5 a6 a7
    have HM : Hid ((marks k0 (n * 2)).length = xs.length) := (marks_length _ _).trans hl.symm
    go_enter Try.func109, Try.ntmps109
    go_wp2
    go_loopw [1, 5] (fun q i wr => ∃ j K : Nat, j ≤ n ∧ K = k0 + j * 2 ∧ i = .int .i64 (j : Int) ∧ q = .int .i64 (K : Int) ∧ wr.ownsRow base 113 2 (.slice (some ⟨g, 0, none⟩) n cap) n (part (marks k0 (n * 2)) xs (j * 2)) ∧ w.grownBy wr (some g)) (fun _ i _ => n - (intOf i).toNat)
    case atStart => exact ⟨0, k0, Nat.zero_le _, by omega, rfl, rfl, by (try rw [Nat.zero_mul]); rw [part_zero]; exact H0.out, World.grownBy.refl _ _⟩
    case round =>
      obtain ⟨j, K, hj, hK, rfl, rfl, ho, hg⟩ := hrel
      by_cases hlt : j < n
      · have HK := Lib.hid hK
        have hKb : K ≤ 1073741824 + n * 2 := by omega
        clear hK
        have m0 : Hid ((marks k0 (n * 2))[j * 2]? = some (.float .f32 (floatOfInt .f32 ((K : Int))))) := by
          show _ = _
          rw [marks_get (by omega)]
          congr 3
          have := HK.out
          omega
        have m1 : Hid ((marks k0 (n * 2))[j * 2 + 1]? = some (.float .f32 (floatOfInt .f32 ((K : Int) + 1)))) := by
          show _ = _
          rw [marks_get (by omega)]
          congr 3
          have := HK.out
          omega
        obtain ⟨u0, c0⟩ := cell_some ho (j * 2) (by omega)
        have d0 := ho.frozenAt (j * 2)
        obtain ⟨u1, c1⟩ := cell_some ho (j * 2 + 1) (by omega)
        have d1 := ho.frozenAt (j * 2 + 1)
        have HO := Lib.hid ho
        have HG := Lib.hid hg
        clear ho hg
        go_wp2
        go_roundw
        case rel =>
          have s0 := HO.out
          have q0 := HG.out
          have t0 := s0.stored (j * 2) (.float .f32 (floatOfInt .f32 ((K : Int))))
          have q1 := grownBy_trans q0 t0.2
          have s1 := t0.1
          rw [part_set HM.out m0.out] at s1
          have t1 := s1.stored (j * 2 + 1) (.float .f32 (floatOfInt .f32 ((K : Int) + 1)))
          have q2 := grownBy_trans q1 t1.2
          have s2 := t1.1
          rw [part_set HM.out m1.out] at s2
          refine ⟨j + 1, K + 2, hlt, by have := HK.out; omega, by go_num, by go_num, ?_, ?_⟩
          · rw [show (j + 1) * 2 = j * 2 + 2 by omega]
            exact s2
          · exact q2
        case measure => simp [intOf]; omega
      · obtain rfl : j = n := by omega
        have h4 := part_full HM.out
        rw [marks_length] at h4
        (try rw [Nat.mul_one] at h4)
        have HK := Lib.hid hK
        clear hK
        go_wp2
        go_ret
        refine ⟨ret_int (by have := HK.out; omega), ?_, hg⟩
        (try rw [Nat.mul_one] at ho ⊢)
        rw [h4] at ho
        exact ho

set_option maxRecDepth 100000 in
set_option maxHeartbeats 2000000 in
theorem heldClockS_any (v : Value) (n k0 : Nat) (w : World) (h : RowAt w v 2 n (marks k0 (n * 2))) (hk0 : k0 ≤ 1073741824) (hn : n ≤ 1073741824) :
    Calls Try.prog 110 #[v, .int .i64 (k0 : Int)] w fun e w' => e = .returned (.int .i64 ((k0 + n * 2 : Nat) : Int)) ∧ w' = w := by
  have hcv : ∀ (z : Int) (w : World), (convert 3 23 (.int .i64 z)).run Try.prog w = .ok (.float .f32 (floatOfInt .f32 z)) w := fun z w => run_convert_int_float w 3 23 .i64 .f32 z (by kernel_rfl) Try.underlying23
  obtain ⟨h1, h2, ao, cap, rfl, h3⟩ := h
  have H3 := Lib.hid h3
  clear h3 h1
  go_enter Try.func110, Try.ntmps110
  go_wp2
  go_loopw [1, 5] (fun q i wr => ∃ j K : Nat, j ≤ n ∧ K = k0 + j * 2 ∧ i = .int .i64 (j : Int) ∧ q = .int .i64 (K : Int) ∧ wr = w) (fun _ i _ => n - (intOf i).toNat)
  case atStart => exact ⟨0, k0, Nat.zero_le _, by omega, rfl, rfl, rfl⟩
  case round =>
    obtain ⟨j, K, hj, hK, rfl, rfl, rfl⟩ := hrel
    by_cases hlt : j < n
    · obtain ⟨b, o, rfl, hbl, hcell⟩ := H3.out.resolve_left (by omega)
      have HK := Lib.hid hK
      have hKb : K ≤ 1073741824 + n * 2 := by omega
      clear hK
      have m0 : (marks k0 (n * 2))[j * 2]? = some (.float .f32 (floatOfInt .f32 ((K : Int)))) := by
        rw [marks_get (by omega)]
        congr 3
        have := HK.out
        omega
      have f0 : wr.cell? ⟨b, o + j * 2, none⟩ = some (.float .f32 (floatOfInt .f32 ((K : Int)))) := (hcell (j * 2) _ m0).1
      have e0 := eqF_int ((K : Int))
      clear m0
      have m1 : (marks k0 (n * 2))[j * 2 + 1]? = some (.float .f32 (floatOfInt .f32 ((K : Int) + 1))) := by
        rw [marks_get (by omega)]
        congr 3
        have := HK.out
        omega
      have f1 : wr.cell? ⟨b, o + j * 2 + 1, none⟩ = some (.float .f32 (floatOfInt .f32 ((K : Int) + 1))) := (hcell (j * 2 + 1) _ m1).1
      have e1 := eqF_int ((K : Int) + 1)
      clear m1
      go_wp2
      go_roundw
      case rel => exact ⟨j + 1, K + 2, hlt, by have := HK.out; omega, by go_num, by go_num, by first | trivial | rfl⟩
      case measure => simp [intOf]; omega
    · obtain rfl : j = n := by omega
      have HK := Lib.hid hK
      clear hK
      go_wp2
      go_ret
      exact ⟨ret_int (by have := HK.out; omega), by first | trivial | rfl⟩

theorem szVectorS_any (v : Value) (n left : Nat) (xs : List Value) (w : World) (h : RowAt w v 3 n xs) (hl : left ≤ 1048576) :
    Calls Try.prog 85 #[v, .int .i64 (left : Int)] w fun e w' => e = .returned (.int .i64 (if n ≤ left then ((left - n : Nat) : Int) else -1)) ∧ w' = w := by
  obtain ⟨h1, h2, ao, cap, rfl, h3⟩ := h
  have H3 := Lib.hid h3
  clear h3 h1
  unfold maxLen at h2
  by_cases hn : n ≤ left
  · rw [if_pos hn]
    go_enter Try.func85, Try.ntmps85
    go_wp2
    go_ret
    exact ⟨ret_int (by omega), rfl⟩
  · rw [if_neg hn]
    go_enter Try.func85, Try.ntmps85
    go_wp2
    go_ret
    exact ⟨rfl, rfl⟩

theorem info_Vector : (Try.prog.info? 38).map (fun i => (i.zero, i.size, i.bytes)) = some (some (.agg #[.float .f32 0, .float .f32 0, .float .f32 0]), 3, 12) := by kernel_rfl
set_option maxRecDepth 100000 in
set_option maxHeartbeats 2000000 in
theorem toVectorS_any (v : Value) (n : Nat) (l : List Nat) (w : World) (h : RowAt w v 3 n (fl l)) (hn : n ≤ 1048576) : Calls Try.prog 88 #[v] w (NewRow 38 3 n (fl l) w) := by
  obtain ⟨h1, h2, ao, cap, rfl, h3⟩ := h
  have H3 := Lib.hid h3
  clear h3
  rw [fl_length] at h1
  have h2' : n ≤ 9223372036854775807 := h2
  obtain ⟨i0, hi, hz0, hz1, hz2⟩ := info_parts info_Vector
  go_enter Try.func88, Try.ntmps88
  go_wp2_with (at_make; refine wpList_make_full _ rfl _ _ 60 rfl w.heap.size 38 i0 (.agg #[.float .f32 0, .float .f32 0, .float .f32 0]) 3 Try.underlying60 hi hz0 hz1 .i64 .i64 _ _ n rfl rfl rfl rfl ?b2 ?b3 ?b4 ?_)
  case b2 => rw [hz2]; omega
  case b3 => exact h2
  case b4 => exact Nat.le_refl _
  intro w1 hown hgrow
  have hB : Below w.heap.size w w1 := (Below.refl _ _).grown hgrow (Nat.le_refl _) (by simp)
  obtain ⟨zs, hown⟩ : ∃ zs, w1.ownsRow w.heap.size 38 3 (.slice (some ⟨w.heap.size, 0, none⟩) n n) n zs := ⟨_, hown⟩
  have hzl : (fl l).length = zs.length := by rw [hown.1, fl_length, h1]
  have hwl : w.heap.size < w1.heap.size := (hown.lt _ rfl).2
  have HZ := Lib.hid hzl
  have HO := Lib.hid hown
  clear hgrow hzl
  go_wp2
  go_loopw [4] (fun i wr => ∃ k : Nat, k ≤ n ∧ i = .int .i64 (k : Int) ∧ wr.ownsRow w.heap.size 38 3 (.slice (some ⟨w.heap.size, 0, none⟩) n n) n (part (fl l) zs (k * 3)) ∧ Below w.heap.size w wr) (fun i _ => n - (intOf i).toNat)
  case atStart => exact ⟨0, Nat.zero_le _, rfl, by (try rw [Nat.zero_mul]); rw [part_zero]; exact HO.out, hB⟩
  case round =>
    obtain ⟨k, hk, rfl, ho, hb⟩ := hrel
    by_cases hlt : k < n
    · obtain ⟨b, o, rfl, hbl, hcell⟩ := H3.out.resolve_left (by omega)
      obtain ⟨x0, hx0⟩ := fl_some (l := l) (j := k * 3) (by omega)
      obtain ⟨x1, hx1⟩ := fl_some (l := l) (j := k * 3 + 1) (by omega)
      obtain ⟨x2, hx2⟩ := fl_some (l := l) (j := k * 3 + 2) (by omega)
      have f0 : wr.cell? ⟨b, o + k * 3, none⟩ = some (.float .f32 x0) := (hb.cell (p := ⟨b, o + (k * 3), none⟩) hbl).trans (hcell (k * 3) _ hx0).1
      have f1 : wr.cell? ⟨b, o + k * 3 + 1, none⟩ = some (.float .f32 x1) := (hb.cell (p := ⟨b, o + (k * 3 + 1), none⟩) hbl).trans (hcell (k * 3 + 1) _ hx1).1
      have f2 : wr.cell? ⟨b, o + k * 3 + 2, none⟩ = some (.float .f32 x2) := (hb.cell (p := ⟨b, o + (k * 3 + 2), none⟩) hbl).trans (hcell (k * 3 + 2) _ hx2).1
      have HX0 := Lib.hid hx0
      have HX1 := Lib.hid hx1
      have HX2 := Lib.hid hx2
      clear hx0 hx1 hx2
      have HO2 := Lib.hid ho
      clear ho
      go_wp2_with (first | (go_at_call 24; refine (toVector_any x0 x1 x2 _).mono ?_; rintro e w2 ⟨rfl, hb2⟩; have ho2 := ownsRow_below HO2.out hb2; have hB2 := Below.step hb hb2; obtain ⟨u0, g0⟩ := cell_some ho2 (k * 3) (by omega); have gf0 := ho2.frozenAt (k * 3); obtain ⟨u1, g1⟩ := cell_some ho2 (k * 3 + 1) (by omega); have gf1 := ho2.frozenAt (k * 3 + 1); obtain ⟨u2, g2⟩ := cell_some ho2 (k * 3 + 2) (by omega); have gf2 := ho2.frozenAt (k * 3 + 2); have HO3 := Lib.hid ho2; clear ho2))
      go_roundw
      case rel =>
        refine ⟨k + 1, hlt, by go_num, ?_, ?_⟩
        · have s0 := HO3.out
          have s1 := (s0.stored (k * 3) (.float .f32 x0)).1
          rw [part_set HZ.out HX0.out] at s1
          have s2 := (s1.stored (k * 3 + 1) (.float .f32 x1)).1
          rw [part_set HZ.out HX1.out] at s2
          have s3 := (s2.stored (k * 3 + 2) (.float .f32 x2)).1
          rw [part_set HZ.out HX2.out] at s3
          rw [show (k + 1) * 3 = k * 3 + 3 by omega]
          exact s3
        · exact (((hB2).setCell (Nat.le_refl _) _).setCell (Nat.le_refl _) _).setCell (Nat.le_refl _) _
      case measure => simp [intOf]; omega
    · obtain rfl : k = n := by omega
      go_wp2
      go_ret
      refine ⟨_, rfl, ?_, hb⟩
      have h4 := part_full HZ.out
      rw [fl_length, h1] at h4
      (try rw [Nat.mul_one] at h4)
      rw [h4] at ho
      exact ho

set_option maxRecDepth 100000 in
set_option maxHeartbeats 2000000 in
theorem eqVectorS_any (v v' : Value) (n : Nat) (l m : List Nat) (w : World) (h : RowAt w v 3 n (fl l)) (h' : RowAt w v' 3 n (fl m)) (he : l.map (cn .f32) = m.map (cn .f32)) : Calls Try.prog 94 #[v, v'] w (BB true w) := by
  obtain ⟨h1, h2, ao, cap, rfl, h3⟩ := h
  obtain ⟨h1', _, ao', cap', rfl, h3'⟩ := h'
  have H3 := Lib.hid h3
  have H3' := Lib.hid h3'
  have HE := Lib.hid he
  clear h3 h3' he
  rw [fl_length] at h1 h1'
  have h2' : n ≤ 9223372036854775807 := h2
  go_enter Try.func94, Try.ntmps94
  go_wp2
  go_loopw [5] (fun i wr => ∃ k : Nat, k ≤ n ∧ i = .int .i64 (k : Int) ∧ Below w.heap.size w wr) (fun i _ => n - (intOf i).toNat)
  case atStart => exact ⟨0, Nat.zero_le _, rfl, Below.refl _ _⟩
  case round =>
    obtain ⟨k, hk, rfl, hb⟩ := hrel
    by_cases hlt : k < n
    · obtain ⟨b, o, rfl, hbl, hcell⟩ := H3.out.resolve_left (by omega)
      obtain ⟨b', o', rfl, hbl', hcell'⟩ := H3'.out.resolve_left (by omega)
      obtain ⟨x0, hx0⟩ := fl_some (l := l) (j := k * 3) (by omega)
      have fx0 : wr.cell? ⟨b, o + k * 3, none⟩ = some (.float .f32 x0) := (hb.cell (p := ⟨b, o + (k * 3), none⟩) hbl).trans (hcell (k * 3) _ hx0).1
      have gx0 : wr.frozen? ⟨b, o + k * 3, none⟩ = false := (hb.frozen (p := ⟨b, o + (k * 3), none⟩) hbl).trans (hcell (k * 3) _ hx0).2
      obtain ⟨y0, hy0⟩ := fl_some (l := m) (j := k * 3) (by omega)
      have fy0 : wr.cell? ⟨b', o' + k * 3, none⟩ = some (.float .f32 y0) := (hb.cell (p := ⟨b', o' + (k * 3), none⟩) hbl').trans (hcell' (k * 3) _ hy0).1
      have gy0 : wr.frozen? ⟨b', o' + k * 3, none⟩ = false := (hb.frozen (p := ⟨b', o' + (k * 3), none⟩) hbl').trans (hcell' (k * 3) _ hy0).2
      have E0 := Lib.hid (cn_at HE.out hx0 hy0)
      obtain ⟨x1, hx1⟩ := fl_some (l := l) (j := k * 3 + 1) (by omega)
      have fx1 : wr.cell? ⟨b, o + k * 3 + 1, none⟩ = some (.float .f32 x1) := (hb.cell (p := ⟨b, o + (k * 3 + 1), none⟩) hbl).trans (hcell (k * 3 + 1) _ hx1).1
      have gx1 : wr.frozen? ⟨b, o + k * 3 + 1, none⟩ = false := (hb.frozen (p := ⟨b, o + (k * 3 + 1), none⟩) hbl).trans (hcell (k * 3 + 1) _ hx1).2
      obtain ⟨y1, hy1⟩ := fl_some (l := m) (j := k * 3 + 1) (by omega)
      have fy1 : wr.cell? ⟨b', o' + k * 3 + 1, none⟩ = some (.float .f32 y1) := (hb.cell (p := ⟨b', o' + (k * 3 + 1), none⟩) hbl').trans (hcell' (k * 3 + 1) _ hy1).1
      have gy1 : wr.frozen? ⟨b', o' + k * 3 + 1, none⟩ = false := (hb.frozen (p := ⟨b', o' + (k * 3 + 1), none⟩) hbl').trans (hcell' (k * 3 + 1) _ hy1).2
      have E1 := Lib.hid (cn_at HE.out hx1 hy1)
      obtain ⟨x2, hx2⟩ := fl_some (l := l) (j := k * 3 + 2) (by omega)
      have fx2 : wr.cell? ⟨b, o + k * 3 + 2, none⟩ = some (.float .f32 x2) := (hb.cell (p := ⟨b, o + (k * 3 + 2), none⟩) hbl).trans (hcell (k * 3 + 2) _ hx2).1
      have gx2 : wr.frozen? ⟨b, o + k * 3 + 2, none⟩ = false := (hb.frozen (p := ⟨b, o + (k * 3 + 2), none⟩) hbl).trans (hcell (k * 3 + 2) _ hx2).2
      obtain ⟨y2, hy2⟩ := fl_some (l := m) (j := k * 3 + 2) (by omega)
      have fy2 : wr.cell? ⟨b', o' + k * 3 + 2, none⟩ = some (.float .f32 y2) := (hb.cell (p := ⟨b', o' + (k * 3 + 2), none⟩) hbl').trans (hcell' (k * 3 + 2) _ hy2).1
      have gy2 : wr.frozen? ⟨b', o' + k * 3 + 2, none⟩ = false := (hb.frozen (p := ⟨b', o' + (k * 3 + 2), none⟩) hbl').trans (hcell' (k * 3 + 2) _ hy2).2
      have E2 := Lib.hid (cn_at HE.out hx2 hy2)
      have hbw : b < wr.heap.size := Nat.lt_of_lt_of_le hbl hb.size
      have hbw' : b' < wr.heap.size := Nat.lt_of_lt_of_le hbl' hb.size
      clear hx0 hy0 hx1 hy1 hx2 hy2 hcell hcell'
      go_wp2_with fail
      refine region_calmA wr (wr.heap.size) [(⟨b, o + k * 3, none⟩, .float .f32 x0), (⟨b, o + k * 3 + 1, none⟩, .float .f32 x1), (⟨b, o + k * 3 + 2, none⟩, .float .f32 x2), (⟨b', o' + k * 3, none⟩, .float .f32 y0), (⟨b', o' + k * 3 + 1, none⟩, .float .f32 y1), (⟨b', o' + k * 3 + 2, none⟩, .float .f32 y2)] (fun _ _ v => v = .bool true) [] (by kernel_rfl) (by kernel_rfl) (by kernel_rfl) ⟨⟨by simp [Held, go_sem, *], by (repeat (first | assumption | (with_reducible exact Below.refl _ _) | (with_reducible refine Below.drewN ?_ _) | (with_reducible refine Below.drew ?_) | (with_reducible refine Below.allocS ?_ _) | ((with_reducible refine Below.setCell ?_ ?_ _); rotate_left; focus (first | omega | (simp; done) | (simp; omega))) | (with_reducible refine Below.step ?_ (by assumption))))⟩, by (first | (simp; done) | (simp; omega) | omega)⟩ ?_
      repeat (first | (first | (refine calmA_plain rfl rfl ?_ (fun K hK w1 hC => ?_); (focus (intro _ _; simp [RA]; done)); have hC' := hC.1.1; simp only [Held, and_true] at hC'; go_wp2_with (first | (refine wpList_fbin rfl rfl rfl rfl rfl (fun r n hr => ?_)) | (refine wpList_widen rfl rfl Try.underlying85 Try.underlying23 rfl (fun r n hr => ?_))); refine ⟨rfl, (by first | exact Below.refl _ _ | exact below_drewN _), hK _ ?_⟩; clear hC hC' hK K w1) | (refine calmA_check rfl rfl rfl ?_ ?_; (focus (intro _ _; simp [RA]; done)))) | (refine calmA_call (f := 137) (args := _) rfl ?_ (by (intro w1; simp [execOp, resolve, invoke, go_sem]; with_reducible rfl)) (fun w1 hC => ?_) ?_; (focus (intro _ _; simp [RA]; done)); (focus (refine (eqVector_any x0 x1 x2 y0 y1 y2 _ E0.out E1.out E2.out).mono ?_; rintro e w2 ⟨rfl, hb2⟩; exact ⟨_, rfl, rfl, hb2⟩)); rintro v rfl))
      refine calmA_nil ?_
      intro w' hC hF
      have hC' := hC.1.1
      simp only [Held, and_true] at hC'
      have hB3 := Below.step hb hC.1.2
      go_wp2_with fail
      go_roundw
      case rel => exact ⟨k + 1, hlt, by go_num, hB3⟩
      case measure => simp [intOf]; omega
    · obtain rfl : k = n := by omega
      go_wp2
      go_ret
      exact ⟨rfl, hb⟩



theorem szBallS_any (v : Value) (n left : Nat) (xs : List Value) (w : World) (h : RowAt w v 3 n xs) (hl : left ≤ 1048576) :
    Calls Try.prog 57 #[v, .int .i64 (left : Int)] w fun e w' => e = .returned (.int .i64 (if n ≤ left then ((left - n : Nat) : Int) else -1)) ∧ w' = w := by
  obtain ⟨h1, h2, ao, cap, rfl, h3⟩ := h
  have H3 := Lib.hid h3
  clear h3 h1
  unfold maxLen at h2
  by_cases hn : n ≤ left
  · rw [if_pos hn]
    go_enter Try.func57, Try.ntmps57
    go_wp2
    go_ret
    exact ⟨ret_int (by omega), rfl⟩
  · rw [if_neg hn]
    go_enter Try.func57, Try.ntmps57
    go_wp2
    go_ret
    exact ⟨rfl, rfl⟩

theorem info_Ball : (Try.prog.info? 94).map (fun i => (i.zero, i.size, i.bytes)) = some (some (.agg #[.float .f32 0, .float .f32 0, .float .f32 0]), 3, 12) := by kernel_rfl
set_option maxRecDepth 100000 in
set_option maxHeartbeats 2000000 in
theorem toBallS_any (v : Value) (n : Nat) (l : List Nat) (w : World) (h : RowAt w v 3 n (fl l)) (hn : n ≤ 1048576) : Calls Try.prog 59 #[v] w (NewRow 94 3 n (fl l) w) := by
  obtain ⟨h1, h2, ao, cap, rfl, h3⟩ := h
  have H3 := Lib.hid h3
  clear h3
  rw [fl_length] at h1
  have h2' : n ≤ 9223372036854775807 := h2
  obtain ⟨i0, hi, hz0, hz1, hz2⟩ := info_parts info_Ball
  go_enter Try.func59, Try.ntmps59
  go_wp2_with (at_make; refine wpList_make_full _ rfl _ _ 28 rfl w.heap.size 94 i0 (.agg #[.float .f32 0, .float .f32 0, .float .f32 0]) 3 Try.underlying28 hi hz0 hz1 .i64 .i64 _ _ n rfl rfl rfl rfl ?b2 ?b3 ?b4 ?_)
  case b2 => rw [hz2]; omega
  case b3 => exact h2
  case b4 => exact Nat.le_refl _
  intro w1 hown hgrow
  have hB : Below w.heap.size w w1 := (Below.refl _ _).grown hgrow (Nat.le_refl _) (by simp)
  obtain ⟨zs, hown⟩ : ∃ zs, w1.ownsRow w.heap.size 94 3 (.slice (some ⟨w.heap.size, 0, none⟩) n n) n zs := ⟨_, hown⟩
  have hzl : (fl l).length = zs.length := by rw [hown.1, fl_length, h1]
  have hwl : w.heap.size < w1.heap.size := (hown.lt _ rfl).2
  have HZ := Lib.hid hzl
  have HO := Lib.hid hown
  clear hgrow hzl
  go_wp2
  go_loopw [4] (fun i wr => ∃ k : Nat, k ≤ n ∧ i = .int .i64 (k : Int) ∧ wr.ownsRow w.heap.size 94 3 (.slice (some ⟨w.heap.size, 0, none⟩) n n) n (part (fl l) zs (k * 3)) ∧ Below w.heap.size w wr) (fun i _ => n - (intOf i).toNat)
  case atStart => exact ⟨0, Nat.zero_le _, rfl, by (try rw [Nat.zero_mul]); rw [part_zero]; exact HO.out, hB⟩
  case round =>
    obtain ⟨k, hk, rfl, ho, hb⟩ := hrel
    by_cases hlt : k < n
    · obtain ⟨b, o, rfl, hbl, hcell⟩ := H3.out.resolve_left (by omega)
      obtain ⟨x0, hx0⟩ := fl_some (l := l) (j := k * 3) (by omega)
      obtain ⟨x1, hx1⟩ := fl_some (l := l) (j := k * 3 + 1) (by omega)
      obtain ⟨x2, hx2⟩ := fl_some (l := l) (j := k * 3 + 2) (by omega)
      have f0 : wr.cell? ⟨b, o + k * 3, none⟩ = some (.float .f32 x0) := (hb.cell (p := ⟨b, o + (k * 3), none⟩) hbl).trans (hcell (k * 3) _ hx0).1
      have f1 : wr.cell? ⟨b, o + k * 3 + 1, none⟩ = some (.float .f32 x1) := (hb.cell (p := ⟨b, o + (k * 3 + 1), none⟩) hbl).trans (hcell (k * 3 + 1) _ hx1).1
      have f2 : wr.cell? ⟨b, o + k * 3 + 2, none⟩ = some (.float .f32 x2) := (hb.cell (p := ⟨b, o + (k * 3 + 2), none⟩) hbl).trans (hcell (k * 3 + 2) _ hx2).1
      have HX0 := Lib.hid hx0
      have HX1 := Lib.hid hx1
      have HX2 := Lib.hid hx2
      clear hx0 hx1 hx2
      have HO2 := Lib.hid ho
      clear ho
      go_wp2_with (first | (go_at_call 118; refine (toBall_any x0 x1 x2 _).mono ?_; rintro e w2 ⟨rfl, hb2⟩; have ho2 := ownsRow_below HO2.out hb2; have hB2 := Below.step hb hb2; obtain ⟨u0, g0⟩ := cell_some ho2 (k * 3) (by omega); have gf0 := ho2.frozenAt (k * 3); obtain ⟨u1, g1⟩ := cell_some ho2 (k * 3 + 1) (by omega); have gf1 := ho2.frozenAt (k * 3 + 1); obtain ⟨u2, g2⟩ := cell_some ho2 (k * 3 + 2) (by omega); have gf2 := ho2.frozenAt (k * 3 + 2); have HO3 := Lib.hid ho2; clear ho2))
      go_roundw
      case rel =>
        refine ⟨k + 1, hlt, by go_num, ?_, ?_⟩
        · have s0 := HO3.out
          have s1 := (s0.stored (k * 3) (.float .f32 x0)).1
          rw [part_set HZ.out HX0.out] at s1
          have s2 := (s1.stored (k * 3 + 1) (.float .f32 x1)).1
          rw [part_set HZ.out HX1.out] at s2
          have s3 := (s2.stored (k * 3 + 2) (.float .f32 x2)).1
          rw [part_set HZ.out HX2.out] at s3
          rw [show (k + 1) * 3 = k * 3 + 3 by omega]
          exact s3
        · exact (((hB2).setCell (Nat.le_refl _) _).setCell (Nat.le_refl _) _).setCell (Nat.le_refl _) _
      case measure => simp [intOf]; omega
    · obtain rfl : k = n := by omega
      go_wp2
      go_ret
      refine ⟨_, rfl, ?_, hb⟩
      have h4 := part_full HZ.out
      rw [fl_length, h1] at h4
      (try rw [Nat.mul_one] at h4)
      rw [h4] at ho
      exact ho

set_option maxRecDepth 100000 in
set_option maxHeartbeats 2000000 in
theorem eqBallS_any (v v' : Value) (n : Nat) (l m : List Nat) (w : World) (h : RowAt w v 3 n (fl l)) (h' : RowAt w v' 3 n (fl m)) (he : l.map (cn .f32) = m.map (cn .f32)) : Calls Try.prog 64 #[v, v'] w (BB true w) := by
  obtain ⟨h1, h2, ao, cap, rfl, h3⟩ := h
  obtain ⟨h1', _, ao', cap', rfl, h3'⟩ := h'
  have H3 := Lib.hid h3
  have H3' := Lib.hid h3'
  have HE := Lib.hid he
  clear h3 h3' he
  rw [fl_length] at h1 h1'
  have h2' : n ≤ 9223372036854775807 := h2
  go_enter Try.func64, Try.ntmps64
  go_wp2
  go_loopw [5] (fun i wr => ∃ k : Nat, k ≤ n ∧ i = .int .i64 (k : Int) ∧ Below w.heap.size w wr) (fun i _ => n - (intOf i).toNat)
  case atStart => exact ⟨0, Nat.zero_le _, rfl, Below.refl _ _⟩
  case round =>
    obtain ⟨k, hk, rfl, hb⟩ := hrel
    by_cases hlt : k < n
    · obtain ⟨b, o, rfl, hbl, hcell⟩ := H3.out.resolve_left (by omega)
      obtain ⟨b', o', rfl, hbl', hcell'⟩ := H3'.out.resolve_left (by omega)
      obtain ⟨x0, hx0⟩ := fl_some (l := l) (j := k * 3) (by omega)
      have fx0 : wr.cell? ⟨b, o + k * 3, none⟩ = some (.float .f32 x0) := (hb.cell (p := ⟨b, o + (k * 3), none⟩) hbl).trans (hcell (k * 3) _ hx0).1
      have gx0 : wr.frozen? ⟨b, o + k * 3, none⟩ = false := (hb.frozen (p := ⟨b, o + (k * 3), none⟩) hbl).trans (hcell (k * 3) _ hx0).2
      obtain ⟨y0, hy0⟩ := fl_some (l := m) (j := k * 3) (by omega)
      have fy0 : wr.cell? ⟨b', o' + k * 3, none⟩ = some (.float .f32 y0) := (hb.cell (p := ⟨b', o' + (k * 3), none⟩) hbl').trans (hcell' (k * 3) _ hy0).1
      have gy0 : wr.frozen? ⟨b', o' + k * 3, none⟩ = false := (hb.frozen (p := ⟨b', o' + (k * 3), none⟩) hbl').trans (hcell' (k * 3) _ hy0).2
      have E0 := Lib.hid (cn_at HE.out hx0 hy0)
      obtain ⟨x1, hx1⟩ := fl_some (l := l) (j := k * 3 + 1) (by omega)
      have fx1 : wr.cell? ⟨b, o + k * 3 + 1, none⟩ = some (.float .f32 x1) := (hb.cell (p := ⟨b, o + (k * 3 + 1), none⟩) hbl).trans (hcell (k * 3 + 1) _ hx1).1
      have gx1 : wr.frozen? ⟨b, o + k * 3 + 1, none⟩ = false := (hb.frozen (p := ⟨b, o + (k * 3 + 1), none⟩) hbl).trans (hcell (k * 3 + 1) _ hx1).2
      obtain ⟨y1, hy1⟩ := fl_some (l := m) (j := k * 3 + 1) (by omega)
      have fy1 : wr.cell? ⟨b', o' + k * 3 + 1, none⟩ = some (.float .f32 y1) := (hb.cell (p := ⟨b', o' + (k * 3 + 1), none⟩) hbl').trans (hcell' (k * 3 + 1) _ hy1).1
      have gy1 : wr.frozen? ⟨b', o' + k * 3 + 1, none⟩ = false := (hb.frozen (p := ⟨b', o' + (k * 3 + 1), none⟩) hbl').trans (hcell' (k * 3 + 1) _ hy1).2
      have E1 := Lib.hid (cn_at HE.out hx1 hy1)
      obtain ⟨x2, hx2⟩ := fl_some (l := l) (j := k * 3 + 2) (by omega)
      have fx2 : wr.cell? ⟨b, o + k * 3 + 2, none⟩ = some (.float .f32 x2) := (hb.cell (p := ⟨b, o + (k * 3 + 2), none⟩) hbl).trans (hcell (k * 3 + 2) _ hx2).1
      have gx2 : wr.frozen? ⟨b, o + k * 3 + 2, none⟩ = false := (hb.frozen (p := ⟨b, o + (k * 3 + 2), none⟩) hbl).trans (hcell (k * 3 + 2) _ hx2).2
      obtain ⟨y2, hy2⟩ := fl_some (l := m) (j := k * 3 + 2) (by omega)
      have fy2 : wr.cell? ⟨b', o' + k * 3 + 2, none⟩ = some (.float .f32 y2) := (hb.cell (p := ⟨b', o' + (k * 3 + 2), none⟩) hbl').trans (hcell' (k * 3 + 2) _ hy2).1
      have gy2 : wr.frozen? ⟨b', o' + k * 3 + 2, none⟩ = false := (hb.frozen (p := ⟨b', o' + (k * 3 + 2), none⟩) hbl').trans (hcell' (k * 3 + 2) _ hy2).2
      have E2 := Lib.hid (cn_at HE.out hx2 hy2)
      have hbw : b < wr.heap.size := Nat.lt_of_lt_of_le hbl hb.size
      have hbw' : b' < wr.heap.size := Nat.lt_of_lt_of_le hbl' hb.size
      clear hx0 hy0 hx1 hy1 hx2 hy2 hcell hcell'
      go_wp2_with fail
      refine region_calmA wr (wr.heap.size) [(⟨b, o + k * 3, none⟩, .float .f32 x0), (⟨b, o + k * 3 + 1, none⟩, .float .f32 x1), (⟨b, o + k * 3 + 2, none⟩, .float .f32 x2), (⟨b', o' + k * 3, none⟩, .float .f32 y0), (⟨b', o' + k * 3 + 1, none⟩, .float .f32 y1), (⟨b', o' + k * 3 + 2, none⟩, .float .f32 y2)] (fun _ _ v => v = .bool true) [] (by kernel_rfl) (by kernel_rfl) (by kernel_rfl) ⟨⟨by simp [Held, go_sem, *], by (repeat (first | assumption | (with_reducible exact Below.refl _ _) | (with_reducible refine Below.drewN ?_ _) | (with_reducible refine Below.drew ?_) | (with_reducible refine Below.allocS ?_ _) | ((with_reducible refine Below.setCell ?_ ?_ _); rotate_left; focus (first | omega | (simp; done) | (simp; omega))) | (with_reducible refine Below.step ?_ (by assumption))))⟩, by (first | (simp; done) | (simp; omega) | omega)⟩ ?_
      repeat (first | (first | (refine calmA_plain rfl rfl ?_ (fun K hK w1 hC => ?_); (focus (intro _ _; simp [RA]; done)); have hC' := hC.1.1; simp only [Held, and_true] at hC'; go_wp2_with (first | (refine wpList_fbin rfl rfl rfl rfl rfl (fun r n hr => ?_)) | (refine wpList_widen rfl rfl Try.underlying85 Try.underlying23 rfl (fun r n hr => ?_))); refine ⟨rfl, (by first | exact Below.refl _ _ | exact below_drewN _), hK _ ?_⟩; clear hC hC' hK K w1) | (refine calmA_check rfl rfl rfl ?_ ?_; (focus (intro _ _; simp [RA]; done)))) | (refine calmA_call (f := 121) (args := _) rfl ?_ (by (intro w1; simp [execOp, resolve, invoke, go_sem]; with_reducible rfl)) (fun w1 hC => ?_) ?_; (focus (intro _ _; simp [RA]; done)); (focus (refine (eqBall_any x0 x1 x2 y0 y1 y2 _ E0.out E1.out E2.out).mono ?_; rintro e w2 ⟨rfl, hb2⟩; exact ⟨_, rfl, rfl, hb2⟩)); rintro v rfl))
      refine calmA_nil ?_
      intro w' hC hF
      have hC' := hC.1.1
      simp only [Held, and_true] at hC'
      have hB3 := Below.step hb hC.1.2
      go_wp2_with fail
      go_roundw
      case rel => exact ⟨k + 1, hlt, by go_num, hB3⟩
      case measure => simp [intOf]; omega
    · obtain rfl : k = n := by omega
      go_wp2
      go_ret
      exact ⟨rfl, hb⟩



theorem info_Int64 : (Try.prog.info? 2).map (fun i => (i.zero, i.size, i.bytes)) = some (some (.int .i64 0), 1, 8) := by kernel_rfl

set_option maxRecDepth 100000 in
set_option maxHeartbeats 2000000 in
theorem markInt64S_any (v : Value) (n k0 base : Nat) (xs : List Value) (w : World) (h : w.ownsRow base 2 1 v n xs) (hk0 : k0 ≤ 1073741824) (hn : n ≤ 1073741824) :
    Calls Try.prog 53 #[v, .int .i64 (k0 : Int)] w fun e w' => e = .returned (.int .i64 ((k0 + n * 1 : Nat) : Int)) ∧ w'.ownsRow base 2 1 v n (imarks k0 (n * 1)) ∧ w.grownBy w' v.ownBlock := by
  have h0 := h
  rcases h.2 with ⟨rfl, rfl⟩ | ⟨g, cap, cur, rfl, a2, a3, a4, a5, a6, a7⟩
  · have hx : xs = [] := List.eq_nil_of_length_eq_zero (by simpa using h.1)
    subst hx
    have H0 := Lib.hid h0
    clear h h0
    go_enter Try.func53, Try.ntmps53
    go_wp2
    go_loopw [1, 5] (fun q i wr => q = .int .i64 (k0 : Int) ∧ i = .int .i64 0 ∧ wr = w) (fun _ _ _ => 0)
    case atStart => exact ⟨rfl, rfl, rfl⟩
    case round =>
      obtain ⟨rfl, rfl, rfl⟩ := hrel
      go_wp2
      go_ret
      exact ⟨ret_int (by omega), H0.out, World.grownBy.refl _ _⟩
  · have hl : xs.length = n * 1 := h.1
    have H0 := Lib.hid h0
    have ha2 := Lib.hid a2
    clear h h0 a2 a3 a4 a5 a6 a7
    have HM : Hid ((imarks k0 (n * 1)).length = xs.length) := (imarks_length _ _).trans hl.symm
    go_enter Try.func53, Try.ntmps53
    go_wp2
    go_loopw [1, 5] (fun q i wr => ∃ j K : Nat, j ≤ n ∧ K = k0 + j * 1 ∧ i = .int .i64 (j : Int) ∧ q = .int .i64 (K : Int) ∧ wr.ownsRow base 2 1 (.slice (some ⟨g, 0, none⟩) n cap) n (part (imarks k0 (n * 1)) xs (j)) ∧ w.grownBy wr (some g)) (fun _ i _ => n - (intOf i).toNat)
    case atStart => exact ⟨0, k0, Nat.zero_le _, by omega, rfl, rfl, by (try rw [Nat.zero_mul]); rw [part_zero]; exact H0.out, World.grownBy.refl _ _⟩
    case round =>
      obtain ⟨j, K, hj, hK, rfl, rfl, ho, hg⟩ := hrel
      by_cases hlt : j < n
      · have HK := Lib.hid hK
        have hKb : K ≤ 1073741824 + n * 1 := by omega
        clear hK
        have m0 : Hid ((imarks k0 (n * 1))[j]? = some (.int .i64 (K : Int))) := by
          show _ = _
          rw [imarks_get (by omega)]
          congr 2
          have := HK.out
          omega
        obtain ⟨u0, c0⟩ := cell_some ho (j) (by omega)
        have d0 := ho.frozenAt (j)
        have HO := Lib.hid ho
        have HG := Lib.hid hg
        clear ho hg
        go_wp2
        go_roundw
        case rel =>
          have s0 := HO.out
          have q0 := HG.out
          have t0 := s0.stored (j) (.int .i64 (K : Int))
          have q1 := grownBy_trans q0 t0.2
          have s1 := t0.1
          rw [part_set HM.out m0.out] at s1
          refine ⟨j + 1, K + 1, hlt, by have := HK.out; omega, by go_num, by go_num, ?_, ?_⟩
          · exact s1
          · exact q1
        case measure => simp [intOf]; omega
      · obtain rfl : j = n := by omega
        have h4 := part_full HM.out
        rw [imarks_length] at h4
        (try rw [Nat.mul_one] at h4)
        have HK := Lib.hid hK
        clear hK
        go_wp2
        go_ret
        refine ⟨ret_int (by have := HK.out; omega), ?_, hg⟩
        (try rw [Nat.mul_one] at ho ⊢)
        rw [h4] at ho
        exact ho

set_option maxRecDepth 100000 in
set_option maxHeartbeats 2000000 in
theorem heldInt64S_any (v : Value) (n k0 : Nat) (w : World) (h : RowAt w v 1 n (imarks k0 (n * 1))) (hk0 : k0 ≤ 1073741824) (hn : n ≤ 1073741824) :
    Calls Try.prog 54 #[v, .int .i64 (k0 : Int)] w fun e w' => e = .returned (.int .i64 ((k0 + n * 1 : Nat) : Int)) ∧ w' = w := by
  obtain ⟨h1, h2, ao, cap, rfl, h3⟩ := h
  have H3 := Lib.hid h3
  clear h3 h1
  go_enter Try.func54, Try.ntmps54
  go_wp2
  go_loopw [1, 5] (fun q i wr => ∃ j K : Nat, j ≤ n ∧ K = k0 + j * 1 ∧ i = .int .i64 (j : Int) ∧ q = .int .i64 (K : Int) ∧ wr = w) (fun _ i _ => n - (intOf i).toNat)
  case atStart => exact ⟨0, k0, Nat.zero_le _, by omega, rfl, rfl, rfl⟩
  case round =>
    obtain ⟨j, K, hj, hK, rfl, rfl, rfl⟩ := hrel
    by_cases hlt : j < n
    · obtain ⟨b, o, rfl, hbl, hcell⟩ := H3.out.resolve_left (by omega)
      have HK := Lib.hid hK
      have hKb : K ≤ 1073741824 + n * 1 := by omega
      clear hK
      have m0 : (imarks k0 (n * 1))[j]? = some (.int .i64 (K : Int)) := by
        rw [imarks_get (by omega)]
        congr 2
        have := HK.out
        omega
      have f0 : wr.cell? ⟨b, o + j, none⟩ = some (.int .i64 (K : Int)) := (hcell (j) _ m0).1
      clear m0
      go_wp2
      go_roundw
      case rel => exact ⟨j + 1, K + 1, hlt, by have := HK.out; omega, by go_num, by go_num, by first | trivial | rfl⟩
      case measure => simp [intOf]; omega
    · obtain rfl : j = n := by omega
      have HK := Lib.hid hK
      clear hK
      go_wp2
      go_ret
      exact ⟨ret_int (by have := HK.out; omega), by first | trivial | rfl⟩

set_option maxRecDepth 100000 in
set_option maxHeartbeats 2000000 in
theorem eqInt64S_any (v v' : Value) (n : Nat) (l : List Int) (w : World) (h : RowAt w v 1 n (il l)) (h' : RowAt w v' 1 n (il l)) : Calls Try.prog 51 #[v, v'] w (BB true w) := by
  obtain ⟨h1, h2, ao, cap, rfl, h3⟩ := h
  obtain ⟨_, _, ao', cap', rfl, h3'⟩ := h'
  have H3 := Lib.hid h3
  have H3' := Lib.hid h3'
  clear h3 h3'
  rw [il_length] at h1
  have h2' : n ≤ 9223372036854775807 := h2
  go_enter Try.func51, Try.ntmps51
  go_wp2
  go_loopw [5] (fun i wr => ∃ k : Nat, k ≤ n ∧ i = .int .i64 (k : Int) ∧ Below w.heap.size w wr) (fun i _ => n - (intOf i).toNat)
  case atStart => exact ⟨0, Nat.zero_le _, rfl, Below.refl _ _⟩
  case round =>
    obtain ⟨k, hk, rfl, hb⟩ := hrel
    by_cases hlt : k < n
    · obtain ⟨b, o, rfl, hbl, hcell⟩ := H3.out.resolve_left (by omega)
      obtain ⟨b', o', rfl, hbl', hcell'⟩ := H3'.out.resolve_left (by omega)
      obtain ⟨x0, hx0⟩ := il_some (l := l) (j := k) (by omega)
      have f0 : wr.cell? ⟨b, o + k, none⟩ = some (.int .i64 x0) := (hb.cell (p := ⟨b, o + k, none⟩) hbl).trans (hcell k _ hx0).1
      have f0' : wr.cell? ⟨b', o' + k, none⟩ = some (.int .i64 x0) := (hb.cell (p := ⟨b', o' + k, none⟩) hbl').trans (hcell' k _ hx0).1
      have g0 : wr.frozen? ⟨b, o + k, none⟩ = false := (hb.frozen (p := ⟨b, o + k, none⟩) hbl).trans (hcell k _ hx0).2
      have g0' : wr.frozen? ⟨b', o' + k, none⟩ = false := (hb.frozen (p := ⟨b', o' + k, none⟩) hbl').trans (hcell' k _ hx0).2
      have hbw : b < wr.heap.size := Nat.lt_of_lt_of_le hbl hb.size
      have hbw' : b' < wr.heap.size := Nat.lt_of_lt_of_le hbl' hb.size
      clear hx0 hcell hcell'
      go_wp2_with fail
      refine region_calmA wr (wr.heap.size) [(⟨b, o + k, none⟩, .int .i64 x0), (⟨b', o' + k, none⟩, .int .i64 x0)] (fun _ _ _ => False) [] (by kernel_rfl) (by kernel_rfl) (by kernel_rfl) ⟨⟨by simp [Held, go_sem, *], by (repeat (first | assumption | (with_reducible exact Below.refl _ _) | (with_reducible refine Below.drewN ?_ _) | (with_reducible refine Below.drew ?_) | (with_reducible refine Below.allocS ?_ _) | ((with_reducible refine Below.setCell ?_ ?_ _); rotate_left; focus (first | omega | (simp; done) | (simp; omega))) | (with_reducible refine Below.step ?_ (by assumption))))⟩, by (first | (simp; done) | (simp; omega) | omega)⟩ ?_
      repeat (first | (refine calmA_plain rfl rfl ?_ (fun K hK w1 hC => ?_); (focus (intro _ _; simp [RA]; done)); have hC' := hC.1.1; simp only [Held, and_true] at hC'; go_wp2_with (first | (refine wpList_fbin rfl rfl rfl rfl rfl (fun r n hr => ?_)) | (refine wpList_widen rfl rfl Try.underlying85 Try.underlying23 rfl (fun r n hr => ?_))); refine ⟨rfl, (by first | exact Below.refl _ _ | exact below_drewN _), hK _ ?_⟩; clear hC hC' hK K w1) | (refine calmA_check rfl rfl rfl ?_ ?_; (focus (intro _ _; simp [RA]; done))))
      refine calmA_nil ?_
      intro w' hC hF
      have hC' := hC.1.1
      simp only [Held, and_true] at hC'
      have hB3 := Below.step hb hC.1.2
      go_wp2_with fail
      go_roundw
      case rel => exact ⟨k + 1, hlt, by go_num, hB3⟩
      case measure => simp [intOf]; omega
    · obtain rfl : k = n := by omega
      go_wp2
      go_ret
      exact ⟨rfl, hb⟩

theorem szRodS_any (v : Value) (n left : Nat) (xs : List Value) (w : World) (h : RowAt w v 3 n xs) (hl : left ≤ 1048576) :
    Calls Try.prog 86 #[v, .int .i64 (left : Int)] w fun e w' => e = .returned (.int .i64 (if n ≤ left then ((left - n : Nat) : Int) else -1)) ∧ w' = w := by
  obtain ⟨h1, h2, ao, cap, rfl, h3⟩ := h
  have H3 := Lib.hid h3
  clear h3 h1
  unfold maxLen at h2
  by_cases hn : n ≤ left
  · rw [if_pos hn]
    go_enter Try.func86, Try.ntmps86
    go_wp2
    go_ret
    exact ⟨ret_int (by omega), rfl⟩
  · rw [if_neg hn]
    go_enter Try.func86, Try.ntmps86
    go_wp2
    go_ret
    exact ⟨rfl, rfl⟩

set_option maxRecDepth 100000 in
theorem toRodX_any (p q : Int) (x : Nat) (w : World) : Calls Try.prog 136 #[.agg #[.int .i64 p, .int .i64 q, .float .f32 x]] w fun e w' => e = .returned (.agg #[.int .i64 p, .int .i64 q, .float .f32 x]) ∧ w' = ((w.alloc (.cells #[.int .i64 p, .int .i64 q, .float .f32 x] 166)).alloc (.cells #[.int .i64 p, .int .i64 q, .float .f32 x] 129)).alloc (.cells #[.int .i64 p, .int .i64 q, .float .f32 x] 129) := by
  go_enter Try.func136, Try.ntmps136
  go_wp2
  exact bodyPost_ret (v := .agg #[.int .i64 p, .int .i64 q, .float .f32 x]) (by simp [results, Try.results136, go_sem]) rfl ⟨rfl, rfl⟩

theorem toRod_any (p q : Int) (x : Nat) (w : World) : Calls Try.prog 136 #[.agg #[.int .i64 p, .int .i64 q, .float .f32 x]] w (BV (.agg #[.int .i64 p, .int .i64 q, .float .f32 x]) w) := by
  refine (toRodX_any p q x w).mono ?_
  rintro e w' ⟨rfl, rfl⟩
  refine ⟨rfl, ?_⟩
  (repeat (first | (with_reducible exact Below.refl _ _) | (with_reducible refine Below.drewN ?_ _) | (with_reducible refine Below.drew ?_) | (with_reducible refine Below.allocS ?_ _) | ((with_reducible refine Below.setCell ?_ ?_ _); rotate_left; focus (first | omega | (simp; done) | (simp; omega))) | (with_reducible refine Below.step ?_ (by assumption))))

set_option maxRecDepth 100000 in
theorem eqRod_any (p q : Int) (x : Nat) (w : World) : Calls Try.prog 138 #[.agg #[.int .i64 p, .int .i64 q, .float .f32 x], .agg #[.int .i64 p, .int .i64 q, .float .f32 x]] w (BB true w) := by
  go_enter Try.func138, Try.ntmps138
  go_wp2_with (first | (refine wpList_widen rfl rfl Try.underlying85 Try.underlying23 rfl (fun r n hr => ?_)) | (go_at_call 52; refine (sameFloat_any _ _ _ (widen_same (Hid.out (by assumption)) (Hid.out (by assumption)) rfl)).mono ?_; rintro e w' ⟨n, rfl, rfl⟩))
  go_ret
  refine ⟨rfl, ?_⟩
  (repeat (first | (with_reducible exact Below.refl _ _) | (with_reducible refine Below.drewN ?_ _) | (with_reducible refine Below.drew ?_) | (with_reducible refine Below.allocS ?_ _) | ((with_reducible refine Below.setCell ?_ ?_ _); rotate_left; focus (first | omega | (simp; done) | (simp; omega))) | (with_reducible refine Below.step ?_ (by assumption))))

theorem info_Rod : (Try.prog.info? 129).map (fun i => (i.zero, i.size, i.bytes)) = some (some (.agg #[.int .i64 0, .int .i64 0, .float .f32 0]), 3, 24) := by kernel_rfl
set_option maxRecDepth 100000 in
set_option maxHeartbeats 2000000 in
theorem toRodS_any (v : Value) (n : Nat) (xs : List Value) (hR : RodL xs) (w : World) (h : RowAt w v 3 n xs) (hn : n ≤ 1048576) : Calls Try.prog 89 #[v] w (NewRow 129 3 n xs w) := by
  obtain ⟨h1, h2, ao, cap, rfl, h3⟩ := h
  have H3 := Lib.hid h3
  clear h3
  have h2' : n ≤ 9223372036854775807 := h2
  obtain ⟨i0, hi, hz0, hz1, hz2⟩ := info_parts info_Rod
  go_enter Try.func89, Try.ntmps89
  go_wp2_with (at_make; refine wpList_make_full _ rfl _ _ 61 rfl w.heap.size 129 i0 (.agg #[.int .i64 0, .int .i64 0, .float .f32 0]) 3 Try.underlying61 hi hz0 hz1 .i64 .i64 _ _ n rfl rfl rfl rfl ?b2 ?b3 ?b4 ?_)
  case b2 => rw [hz2]; omega
  case b3 => exact h2
  case b4 => exact Nat.le_refl _
  intro w1 hown hgrow
  have hB : Below w.heap.size w w1 := (Below.refl _ _).grown hgrow (Nat.le_refl _) (by simp)
  obtain ⟨zs, hown⟩ : ∃ zs, w1.ownsRow w.heap.size 129 3 (.slice (some ⟨w.heap.size, 0, none⟩) n n) n zs := ⟨_, hown⟩
  have hzl : xs.length = zs.length := by rw [hown.1, h1]
  have hwl : w.heap.size < w1.heap.size := (hown.lt _ rfl).2
  have HZ := Lib.hid hzl
  have HO := Lib.hid hown
  clear hgrow hzl
  go_wp2
  go_loopw [4] (fun i wr => ∃ k : Nat, k ≤ n ∧ i = .int .i64 (k : Int) ∧ wr.ownsRow w.heap.size 129 3 (.slice (some ⟨w.heap.size, 0, none⟩) n n) n (part xs zs (k * 3)) ∧ Below w.heap.size w wr) (fun i _ => n - (intOf i).toNat)
  case atStart => exact ⟨0, Nat.zero_le _, rfl, by (try rw [Nat.zero_mul]); rw [part_zero]; exact HO.out, hB⟩
  case round =>
    obtain ⟨k, hk, rfl, ho, hb⟩ := hrel
    by_cases hlt : k < n
    · obtain ⟨b, o, rfl, hbl, hcell⟩ := H3.out.resolve_left (by omega)
      obtain ⟨x0, x1, x2, hx0, hx1, hx2⟩ := hR k (by omega)
      have f0 : wr.cell? ⟨b, o + k * 3, none⟩ = some (.int .i64 x0) := (hb.cell (p := ⟨b, o + (k * 3), none⟩) hbl).trans (hcell (k * 3) _ hx0).1
      have f1 : wr.cell? ⟨b, o + k * 3 + 1, none⟩ = some (.int .i64 x1) := (hb.cell (p := ⟨b, o + (k * 3 + 1), none⟩) hbl).trans (hcell (k * 3 + 1) _ hx1).1
      have f2 : wr.cell? ⟨b, o + k * 3 + 2, none⟩ = some (.float .f32 x2) := (hb.cell (p := ⟨b, o + (k * 3 + 2), none⟩) hbl).trans (hcell (k * 3 + 2) _ hx2).1
      have HX0 := Lib.hid hx0
      have HX1 := Lib.hid hx1
      have HX2 := Lib.hid hx2
      clear hx0 hx1 hx2
      have HO2 := Lib.hid ho
      clear ho
      go_wp2_with (first | (go_at_call 136; refine (toRod_any x0 x1 x2 _).mono ?_; rintro e w2 ⟨rfl, hb2⟩; have ho2 := ownsRow_below HO2.out hb2; have hB2 := Below.step hb hb2; obtain ⟨u0, g0⟩ := cell_some ho2 (k * 3) (by omega); have gf0 := ho2.frozenAt (k * 3); obtain ⟨u1, g1⟩ := cell_some ho2 (k * 3 + 1) (by omega); have gf1 := ho2.frozenAt (k * 3 + 1); obtain ⟨u2, g2⟩ := cell_some ho2 (k * 3 + 2) (by omega); have gf2 := ho2.frozenAt (k * 3 + 2); have HO3 := Lib.hid ho2; clear ho2))
      go_roundw
      case rel =>
        refine ⟨k + 1, hlt, by go_num, ?_, ?_⟩
        · have s0 := HO3.out
          have s1 := (s0.stored (k * 3) (.int .i64 x0)).1
          rw [part_set HZ.out HX0.out] at s1
          have s2 := (s1.stored (k * 3 + 1) (.int .i64 x1)).1
          rw [part_set HZ.out HX1.out] at s2
          have s3 := (s2.stored (k * 3 + 2) (.float .f32 x2)).1
          rw [part_set HZ.out HX2.out] at s3
          rw [show (k + 1) * 3 = k * 3 + 3 by omega]
          exact s3
        · exact (((hB2).setCell (Nat.le_refl _) _).setCell (Nat.le_refl _) _).setCell (Nat.le_refl _) _
      case measure => simp [intOf]; omega
    · obtain rfl : k = n := by omega
      go_wp2
      go_ret
      refine ⟨_, rfl, ?_, hb⟩
      have h4 := part_full HZ.out
      rw [h1] at h4
      (try rw [Nat.mul_one] at h4)
      rw [h4] at ho
      exact ho

set_option maxRecDepth 100000 in
set_option maxHeartbeats 2000000 in
theorem eqRodS_any (v v' : Value) (n : Nat) (xs : List Value) (hR : RodL xs) (w : World) (h : RowAt w v 3 n xs) (h' : RowAt w v' 3 n xs) : Calls Try.prog 95 #[v, v'] w (BB true w) := by
  obtain ⟨h1, h2, ao, cap, rfl, h3⟩ := h
  obtain ⟨h1', _, ao', cap', rfl, h3'⟩ := h'
  have H3 := Lib.hid h3
  have H3' := Lib.hid h3'
  clear h3 h3'
  have h2' : n ≤ 9223372036854775807 := h2
  go_enter Try.func95, Try.ntmps95
  go_wp2
  go_loopw [5] (fun i wr => ∃ k : Nat, k ≤ n ∧ i = .int .i64 (k : Int) ∧ Below w.heap.size w wr) (fun i _ => n - (intOf i).toNat)
  case atStart => exact ⟨0, Nat.zero_le _, rfl, Below.refl _ _⟩
  case round =>
    obtain ⟨k, hk, rfl, hb⟩ := hrel
    by_cases hlt : k < n
    · obtain ⟨b, o, rfl, hbl, hcell⟩ := H3.out.resolve_left (by omega)
      obtain ⟨b', o', rfl, hbl', hcell'⟩ := H3'.out.resolve_left (by omega)
      obtain ⟨x0, x1, x2, hx0, hx1, hx2⟩ := hR k (by omega)
      have f0 : wr.cell? ⟨b, o + k * 3, none⟩ = some (.int .i64 x0) := (hb.cell (p := ⟨b, o + (k * 3), none⟩) hbl).trans (hcell (k * 3) _ hx0).1
      have g0 : wr.frozen? ⟨b, o + k * 3, none⟩ = false := (hb.frozen (p := ⟨b, o + (k * 3), none⟩) hbl).trans (hcell (k * 3) _ hx0).2
      have f1 : wr.cell? ⟨b, o + k * 3 + 1, none⟩ = some (.int .i64 x1) := (hb.cell (p := ⟨b, o + (k * 3 + 1), none⟩) hbl).trans (hcell (k * 3 + 1) _ hx1).1
      have g1 : wr.frozen? ⟨b, o + k * 3 + 1, none⟩ = false := (hb.frozen (p := ⟨b, o + (k * 3 + 1), none⟩) hbl).trans (hcell (k * 3 + 1) _ hx1).2
      have f2 : wr.cell? ⟨b, o + k * 3 + 2, none⟩ = some (.float .f32 x2) := (hb.cell (p := ⟨b, o + (k * 3 + 2), none⟩) hbl).trans (hcell (k * 3 + 2) _ hx2).1
      have g2 : wr.frozen? ⟨b, o + k * 3 + 2, none⟩ = false := (hb.frozen (p := ⟨b, o + (k * 3 + 2), none⟩) hbl).trans (hcell (k * 3 + 2) _ hx2).2
      have f0' : wr.cell? ⟨b', o' + k * 3, none⟩ = some (.int .i64 x0) := (hb.cell (p := ⟨b', o' + (k * 3), none⟩) hbl').trans (hcell' (k * 3) _ hx0).1
      have g0' : wr.frozen? ⟨b', o' + k * 3, none⟩ = false := (hb.frozen (p := ⟨b', o' + (k * 3), none⟩) hbl').trans (hcell' (k * 3) _ hx0).2
      have f1' : wr.cell? ⟨b', o' + k * 3 + 1, none⟩ = some (.int .i64 x1) := (hb.cell (p := ⟨b', o' + (k * 3 + 1), none⟩) hbl').trans (hcell' (k * 3 + 1) _ hx1).1
      have g1' : wr.frozen? ⟨b', o' + k * 3 + 1, none⟩ = false := (hb.frozen (p := ⟨b', o' + (k * 3 + 1), none⟩) hbl').trans (hcell' (k * 3 + 1) _ hx1).2
      have f2' : wr.cell? ⟨b', o' + k * 3 + 2, none⟩ = some (.float .f32 x2) := (hb.cell (p := ⟨b', o' + (k * 3 + 2), none⟩) hbl').trans (hcell' (k * 3 + 2) _ hx2).1
      have g2' : wr.frozen? ⟨b', o' + k * 3 + 2, none⟩ = false := (hb.frozen (p := ⟨b', o' + (k * 3 + 2), none⟩) hbl').trans (hcell' (k * 3 + 2) _ hx2).2
      have hbw : b < wr.heap.size := Nat.lt_of_lt_of_le hbl hb.size
      have hbw' : b' < wr.heap.size := Nat.lt_of_lt_of_le hbl' hb.size
      clear hx0 hx1 hx2 hcell hcell'
      go_wp2_with fail
      refine region_calmA wr (wr.heap.size) [(⟨b, o + k * 3, none⟩, .int .i64 x0), (⟨b, o + k * 3 + 1, none⟩, .int .i64 x1), (⟨b, o + k * 3 + 2, none⟩, .float .f32 x2), (⟨b', o' + k * 3, none⟩, .int .i64 x0), (⟨b', o' + k * 3 + 1, none⟩, .int .i64 x1), (⟨b', o' + k * 3 + 2, none⟩, .float .f32 x2)] (fun _ _ v => v = .bool true) [] (by kernel_rfl) (by kernel_rfl) (by kernel_rfl) ⟨⟨by simp [Held, go_sem, *], by (repeat (first | assumption | (with_reducible exact Below.refl _ _) | (with_reducible refine Below.drewN ?_ _) | (with_reducible refine Below.drew ?_) | (with_reducible refine Below.allocS ?_ _) | ((with_reducible refine Below.setCell ?_ ?_ _); rotate_left; focus (first | omega | (simp; done) | (simp; omega))) | (with_reducible refine Below.step ?_ (by assumption))))⟩, by (first | (simp; done) | (simp; omega) | omega)⟩ ?_
      repeat (first | (first | (refine calmA_plain rfl rfl ?_ (fun K hK w1 hC => ?_); (focus (intro _ _; simp [RA]; done)); have hC' := hC.1.1; simp only [Held, and_true] at hC'; go_wp2_with (first | (refine wpList_fbin rfl rfl rfl rfl rfl (fun r n hr => ?_)) | (refine wpList_widen rfl rfl Try.underlying85 Try.underlying23 rfl (fun r n hr => ?_))); refine ⟨rfl, (by first | exact Below.refl _ _ | exact below_drewN _), hK _ ?_⟩; clear hC hC' hK K w1) | (refine calmA_check rfl rfl rfl ?_ ?_; (focus (intro _ _; simp [RA]; done)))) | (refine calmA_call (f := 138) (args := _) rfl ?_ (by (intro w1; simp [execOp, resolve, invoke, go_sem]; with_reducible rfl)) (fun w1 hC => ?_) ?_; (focus (intro _ _; simp [RA]; done)); (focus (refine (eqRod_any x0 x1 x2 _).mono ?_; rintro e w2 ⟨rfl, hb2⟩; exact ⟨_, rfl, rfl, hb2⟩)); rintro v rfl))
      refine calmA_nil ?_
      intro w' hC hF
      have hC' := hC.1.1
      simp only [Held, and_true] at hC'
      have hB3 := Below.step hb hC.1.2
      go_wp2_with fail
      go_roundw
      case rel => exact ⟨k + 1, hlt, by go_num, hB3⟩
      case measure => simp [intOf]; omega
    · obtain rfl : k = n := by omega
      go_wp2
      go_ret
      exact ⟨rfl, hb⟩

end Go.Proofs.Ytbmabpnolheghaa
