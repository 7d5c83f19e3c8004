/-
  The walks of slices of a law's arguments: their sizes, copies, comparisons, marks.
-/
import Derived.Test.YtjfmcmdhkmcpiaaSa
import Derived.Test.YtjfmcmdhkmcpiaaCy
import Derived.Test.YtjfmcmdhkmcpiaaWe
set_option linter.unusedVariables false
set_option linter.unusedSimpArgs false
namespace Go.Proofs.Ytjfmcmdhkmcpiaa
open Go.RowKit

def NewRow (E : TypeId) (c n : Nat) (xs : List Value) (w : World) (e : Ending) (w' : World) : Prop :=
  ∃ g, e = .returned (.slice (some ⟨g, 0, none⟩) n n) ∧ w'.ownsRow w.heap.size E c (.slice (some ⟨g, 0, none⟩) n n) n xs ∧ Below w.heap.size w w'






theorem info_Float32 : (Try.prog.info? 22).map (fun i => (i.zero, i.size, i.bytes)) = some (some (.float .f32 0), 1, 4) := by kernel_rfl








theorem szVectorS_any (v : Value) (n left : Nat) (xs : List Value) (w : World) (h : RowAt w v 3 n xs) (hl : left ≤ 1048576) :
    Calls Try.prog 50 #[v, .int .i64 (left : Int)] w fun e w' => e = .returned (.int .i64 (if n ≤ left then ((left - n : Nat) : Int) else -1)) ∧ w' = w := by
  obtain ⟨h1, h2, ao, cap, rfl, h3⟩ := h
  have H3 := Lib.hid h3
  clear h3 h1
  unfold maxLen at h2
  by_cases hn : n ≤ left
  · rw [if_pos hn]
    go_enter Try.func50, Try.ntmps50
    go_wp2
    go_ret
    exact ⟨ret_int (by omega), rfl⟩
  · rw [if_neg hn]
    go_enter Try.func50, Try.ntmps50
    go_wp2
    go_ret
    exact ⟨rfl, rfl⟩

theorem info_Vector : (Try.prog.info? 39).map (fun i => (i.zero, i.size, i.bytes)) = some (some (.agg #[.float .f32 0, .float .f32 0, .float .f32 0]), 3, 12) := by kernel_rfl
set_option maxRecDepth 100000 in
set_option maxHeartbeats 2000000 in
theorem toVectorS_any (v : Value) (n : Nat) (l : List Nat) (w : World) (h : RowAt w v 3 n (fl l)) (hn : n ≤ 1048576) : Calls Try.prog 52 #[v] w (NewRow 39 3 n (fl l) w) := by
  obtain ⟨h1, h2, ao, cap, rfl, h3⟩ := h
  have H3 := Lib.hid h3
  clear h3
  rw [fl_length] at h1
  have h2' : n ≤ 9223372036854775807 := h2
  obtain ⟨i0, hi, hz0, hz1, hz2⟩ := info_parts info_Vector
  go_enter Try.func52, Try.ntmps52
  go_wp2_with (at_make; refine wpList_make_full _ rfl _ _ 73 rfl w.heap.size 39 i0 (.agg #[.float .f32 0, .float .f32 0, .float .f32 0]) 3 Try.underlying73 hi hz0 hz1 .i64 .i64 _ _ n rfl rfl rfl rfl ?b2 ?b3 ?b4 ?_)
  case b2 => rw [hz2]; omega
  case b3 => exact h2
  case b4 => exact Nat.le_refl _
  intro w1 hown hgrow
  have hB : Below w.heap.size w w1 := (Below.refl _ _).grown hgrow (Nat.le_refl _) (by simp)
  obtain ⟨zs, hown⟩ : ∃ zs, w1.ownsRow w.heap.size 39 3 (.slice (some ⟨w.heap.size, 0, none⟩) n n) n zs := ⟨_, hown⟩
  have hzl : (fl l).length = zs.length := by rw [hown.1, fl_length, h1]
  have hwl : w.heap.size < w1.heap.size := (hown.lt _ rfl).2
  have HZ := Lib.hid hzl
  have HO := Lib.hid hown
  clear hgrow hzl
  go_wp2
  go_loopw [4] (fun i wr => ∃ k : Nat, k ≤ n ∧ i = .int .i64 (k : Int) ∧ wr.ownsRow w.heap.size 39 3 (.slice (some ⟨w.heap.size, 0, none⟩) n n) n (part (fl l) zs (k * 3)) ∧ Below w.heap.size w wr) (fun i _ => n - (intOf i).toNat)
  case atStart => exact ⟨0, Nat.zero_le _, rfl, by (try rw [Nat.zero_mul]); rw [part_zero]; exact HO.out, hB⟩
  case round =>
    obtain ⟨k, hk, rfl, ho, hb⟩ := hrel
    by_cases hlt : k < n
    · obtain ⟨b, o, rfl, hbl, hcell⟩ := H3.out.resolve_left (by omega)
      obtain ⟨x0, hx0⟩ := fl_some (l := l) (j := k * 3) (by omega)
      obtain ⟨x1, hx1⟩ := fl_some (l := l) (j := k * 3 + 1) (by omega)
      obtain ⟨x2, hx2⟩ := fl_some (l := l) (j := k * 3 + 2) (by omega)
      have f0 : wr.cell? ⟨b, o + k * 3, none⟩ = some (.float .f32 x0) := (hb.cell (p := ⟨b, o + (k * 3), none⟩) hbl).trans (hcell (k * 3) _ hx0).1
      have f1 : wr.cell? ⟨b, o + k * 3 + 1, none⟩ = some (.float .f32 x1) := (hb.cell (p := ⟨b, o + (k * 3 + 1), none⟩) hbl).trans (hcell (k * 3 + 1) _ hx1).1
      have f2 : wr.cell? ⟨b, o + k * 3 + 2, none⟩ = some (.float .f32 x2) := (hb.cell (p := ⟨b, o + (k * 3 + 2), none⟩) hbl).trans (hcell (k * 3 + 2) _ hx2).1
      have HX0 := Lib.hid hx0
      have HX1 := Lib.hid hx1
      have HX2 := Lib.hid hx2
      clear hx0 hx1 hx2
      have HO2 := Lib.hid ho
      clear ho
      go_wp2_with (first | (go_at_call 43; refine (toVector_any x0 x1 x2 _).mono ?_; rintro e w2 ⟨rfl, hb2⟩; have ho2 := ownsRow_below HO2.out hb2; have hB2 := Below.step hb hb2; obtain ⟨u0, g0⟩ := cell_some ho2 (k * 3) (by omega); have gf0 := ho2.frozenAt (k * 3); obtain ⟨u1, g1⟩ := cell_some ho2 (k * 3 + 1) (by omega); have gf1 := ho2.frozenAt (k * 3 + 1); obtain ⟨u2, g2⟩ := cell_some ho2 (k * 3 + 2) (by omega); have gf2 := ho2.frozenAt (k * 3 + 2); have HO3 := Lib.hid ho2; clear ho2))
      go_roundw
      case rel =>
        refine ⟨k + 1, hlt, by go_num, ?_, ?_⟩
        · have s0 := HO3.out
          have s1 := (s0.stored (k * 3) (.float .f32 x0)).1
          rw [part_set HZ.out HX0.out] at s1
          have s2 := (s1.stored (k * 3 + 1) (.float .f32 x1)).1
          rw [part_set HZ.out HX1.out] at s2
          have s3 := (s2.stored (k * 3 + 2) (.float .f32 x2)).1
          rw [part_set HZ.out HX2.out] at s3
          rw [show (k + 1) * 3 = k * 3 + 3 by omega]
          exact s3
        · exact (((hB2).setCell (Nat.le_refl _) _).setCell (Nat.le_refl _) _).setCell (Nat.le_refl _) _
      case measure => simp [intOf]; omega
    · obtain rfl : k = n := by omega
      go_wp2
      go_ret
      refine ⟨_, rfl, ?_, hb⟩
      have h4 := part_full HZ.out
      rw [fl_length, h1] at h4
      (try rw [Nat.mul_one] at h4)
      rw [h4] at ho
      exact ho

set_option maxRecDepth 100000 in
set_option maxHeartbeats 2000000 in
theorem eqVectorS_any (v v' : Value) (n : Nat) (l m : List Nat) (w : World) (h : RowAt w v 3 n (fl l)) (h' : RowAt w v' 3 n (fl m)) (he : l.map (cn .f32) = m.map (cn .f32)) : Calls Try.prog 54 #[v, v'] w (BB true w) := by
  obtain ⟨h1, h2, ao, cap, rfl, h3⟩ := h
  obtain ⟨h1', _, ao', cap', rfl, h3'⟩ := h'
  have H3 := Lib.hid h3
  have H3' := Lib.hid h3'
  have HE := Lib.hid he
  clear h3 h3' he
  rw [fl_length] at h1 h1'
  have h2' : n ≤ 9223372036854775807 := h2
  go_enter Try.func54, Try.ntmps54
  go_wp2
  go_loopw [5] (fun i wr => ∃ k : Nat, k ≤ n ∧ i = .int .i64 (k : Int) ∧ Below w.heap.size w wr) (fun i _ => n - (intOf i).toNat)
  case atStart => exact ⟨0, Nat.zero_le _, rfl, Below.refl _ _⟩
  case round =>
    obtain ⟨k, hk, rfl, hb⟩ := hrel
    by_cases hlt : k < n
    · obtain ⟨b, o, rfl, hbl, hcell⟩ := H3.out.resolve_left (by omega)
      obtain ⟨b', o', rfl, hbl', hcell'⟩ := H3'.out.resolve_left (by omega)
      obtain ⟨x0, hx0⟩ := fl_some (l := l) (j := k * 3) (by omega)
      have fx0 : wr.cell? ⟨b, o + k * 3, none⟩ = some (.float .f32 x0) := (hb.cell (p := ⟨b, o + (k * 3), none⟩) hbl).trans (hcell (k * 3) _ hx0).1
      have gx0 : wr.frozen? ⟨b, o + k * 3, none⟩ = false := (hb.frozen (p := ⟨b, o + (k * 3), none⟩) hbl).trans (hcell (k * 3) _ hx0).2
      obtain ⟨y0, hy0⟩ := fl_some (l := m) (j := k * 3) (by omega)
      have fy0 : wr.cell? ⟨b', o' + k * 3, none⟩ = some (.float .f32 y0) := (hb.cell (p := ⟨b', o' + (k * 3), none⟩) hbl').trans (hcell' (k * 3) _ hy0).1
      have gy0 : wr.frozen? ⟨b', o' + k * 3, none⟩ = false := (hb.frozen (p := ⟨b', o' + (k * 3), none⟩) hbl').trans (hcell' (k * 3) _ hy0).2
      have E0 := Lib.hid (cn_at HE.out hx0 hy0)
      obtain ⟨x1, hx1⟩ := fl_some (l := l) (j := k * 3 + 1) (by omega)
      have fx1 : wr.cell? ⟨b, o + k * 3 + 1, none⟩ = some (.float .f32 x1) := (hb.cell (p := ⟨b, o + (k * 3 + 1), none⟩) hbl).trans (hcell (k * 3 + 1) _ hx1).1
      have gx1 : wr.frozen? ⟨b, o + k * 3 + 1, none⟩ = false := (hb.frozen (p := ⟨b, o + (k * 3 + 1), none⟩) hbl).trans (hcell (k * 3 + 1) _ hx1).2
      obtain ⟨y1, hy1⟩ := fl_some (l := m) (j := k * 3 + 1) (by omega)
      have fy1 : wr.cell? ⟨b', o' + k * 3 + 1, none⟩ = some (.float .f32 y1) := (hb.cell (p := ⟨b', o' + (k * 3 + 1), none⟩) hbl').trans (hcell' (k * 3 + 1) _ hy1).1
      have gy1 : wr.frozen? ⟨b', o' + k * 3 + 1, none⟩ = false := (hb.frozen (p := ⟨b', o' + (k * 3 + 1), none⟩) hbl').trans (hcell' (k * 3 + 1) _ hy1).2
      have E1 := Lib.hid (cn_at HE.out hx1 hy1)
      obtain ⟨x2, hx2⟩ := fl_some (l := l) (j := k * 3 + 2) (by omega)
      have fx2 : wr.cell? ⟨b, o + k * 3 + 2, none⟩ = some (.float .f32 x2) := (hb.cell (p := ⟨b, o + (k * 3 + 2), none⟩) hbl).trans (hcell (k * 3 + 2) _ hx2).1
      have gx2 : wr.frozen? ⟨b, o + k * 3 + 2, none⟩ = false := (hb.frozen (p := ⟨b, o + (k * 3 + 2), none⟩) hbl).trans (hcell (k * 3 + 2) _ hx2).2
      obtain ⟨y2, hy2⟩ := fl_some (l := m) (j := k * 3 + 2) (by omega)
      have fy2 : wr.cell? ⟨b', o' + k * 3 + 2, none⟩ = some (.float .f32 y2) := (hb.cell (p := ⟨b', o' + (k * 3 + 2), none⟩) hbl').trans (hcell' (k * 3 + 2) _ hy2).1
      have gy2 : wr.frozen? ⟨b', o' + k * 3 + 2, none⟩ = false := (hb.frozen (p := ⟨b', o' + (k * 3 + 2), none⟩) hbl').trans (hcell' (k * 3 + 2) _ hy2).2
      have E2 := Lib.hid (cn_at HE.out hx2 hy2)
      have hbw : b < wr.heap.size := Nat.lt_of_lt_of_le hbl hb.size
      have hbw' : b' < wr.heap.size := Nat.lt_of_lt_of_le hbl' hb.size
      clear hx0 hy0 hx1 hy1 hx2 hy2 hcell hcell'
      go_wp2_with fail
      refine region_calmA wr (wr.heap.size) [(⟨b, o + k * 3, none⟩, .float .f32 x0), (⟨b, o + k * 3 + 1, none⟩, .float .f32 x1), (⟨b, o + k * 3 + 2, none⟩, .float .f32 x2), (⟨b', o' + k * 3, none⟩, .float .f32 y0), (⟨b', o' + k * 3 + 1, none⟩, .float .f32 y1), (⟨b', o' + k * 3 + 2, none⟩, .float .f32 y2)] (fun _ _ v => v = .bool true) [] (by kernel_rfl) (by kernel_rfl) (by kernel_rfl) ⟨⟨by simp [Held, go_sem, *], by (repeat (first | assumption | (with_reducible exact Below.refl _ _) | (with_reducible refine Below.drewN ?_ _) | (with_reducible refine Below.drew ?_) | (with_reducible refine Below.allocS ?_ _) | ((with_reducible refine Below.setCell ?_ ?_ _); rotate_left; focus (first | omega | (simp; done) | (simp; omega))) | (with_reducible refine Below.step ?_ (by assumption))))⟩, by (first | (simp; done) | (simp; omega) | omega)⟩ ?_
      repeat (first | (first | (refine calmA_plain rfl rfl ?_ (fun K hK w1 hC => ?_); (focus (intro _ _; simp [RA]; done)); have hC' := hC.1.1; simp only [Held, and_true] at hC'; go_wp2_with (first | (refine wpList_fbin rfl rfl rfl rfl rfl (fun r n hr => ?_)) | (refine wpList_widen rfl rfl Try.underlying30 Try.underlying22 rfl (fun r n hr => ?_))); refine ⟨rfl, (by first | exact Below.refl _ _ | exact below_drewN _), hK _ ?_⟩; clear hC hC' hK K w1) | (refine calmA_check rfl rfl rfl ?_ ?_; (focus (intro _ _; simp [RA]; done)))) | (refine calmA_call (f := 26) (args := _) rfl ?_ (by (intro w1; simp [execOp, resolve, invoke, go_sem]; with_reducible rfl)) (fun w1 hC => ?_) ?_; (focus (intro _ _; simp [RA]; done)); (focus (refine (eqVector_any x0 x1 x2 y0 y1 y2 _ E0.out E1.out E2.out).mono ?_; rintro e w2 ⟨rfl, hb2⟩; exact ⟨_, rfl, rfl, hb2⟩)); rintro v rfl))
      refine calmA_nil ?_
      intro w' hC hF
      have hC' := hC.1.1
      simp only [Held, and_true] at hC'
      have hB3 := Below.step hb hC.1.2
      go_wp2_with fail
      go_roundw
      case rel => exact ⟨k + 1, hlt, by go_num, hB3⟩
      case measure => simp [intOf]; omega
    · obtain rfl : k = n := by omega
      go_wp2
      go_ret
      exact ⟨rfl, hb⟩






theorem info_Int64 : (Try.prog.info? 2).map (fun i => (i.zero, i.size, i.bytes)) = some (some (.int .i64 0), 1, 8) := by kernel_rfl









end Go.Proofs.Ytjfmcmdhkmcpiaa
