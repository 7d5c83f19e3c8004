/-
  The walks of clocks, rows of balls and chains among a law's arguments: their sizes, copies, comparisons, marks.
-/
import Derived.Test.YtbmabpnolheghaaSb
set_option linter.unusedVariables false
set_option linter.unusedSimpArgs false
namespace Go.Proofs.Ytbmabpnolheghaa
open Go.RowKit

set_option maxRecDepth 100000 in
set_option maxHeartbeats 4000000 in
theorem szClocks_any (v0 : Value) (n0 : Nat) (xs0 : List Value) (v1 : Value) (n1 : Nat) (xs1 : List Value) (left : Nat) (w : World) (h0 : RowAt w v0 2 n0 xs0) (h1 : RowAt w v1 1 n1 xs1) (hl : left ≤ 1048576) : Calls Try.prog 26 #[.agg #[v0, v1], .int .i64 (left : Int)] w fun e w' => e = .returned (.int .i64 (if n0 + n1 ≤ left then ((left - (n0 + n1) : Nat) : Int) else -1)) ∧ Below w.heap.size w w' := by
  have H0 := Lib.hid h0
  have H1 := Lib.hid h1
  clear h0 h1
  go_enter Try.func26, Try.ntmps26
  go_wp2_with fail
  refine (szClockS_any v0 n0 (left) xs0 _ ?_ ?_).mono ?_
  · refine RowAt.below H0.out ?_
    (repeat (first | assumption | (with_reducible exact Below.refl _ _) | (with_reducible refine Below.drewN ?_ _) | (with_reducible refine Below.drew ?_) | (with_reducible refine Below.allocS ?_ _) | ((with_reducible refine Below.setCell ?_ ?_ _); rotate_left; focus (first | omega | (simp; done) | (simp; omega))) | (with_reducible refine Below.step ?_ (by assumption))))
  · omega
  rintro e w0 ⟨rfl, rfl⟩
  by_cases hs0 : n0 ≤ left
  case neg =>
    rw [if_neg hs0]
    go_wp2_with fail
    go_ret
    refine ⟨by first | rfl | (rw [if_neg (by omega)]; done), ?_⟩
    (repeat (first | assumption | (with_reducible exact Below.refl _ _) | (with_reducible refine Below.drewN ?_ _) | (with_reducible refine Below.drew ?_) | (with_reducible refine Below.allocS ?_ _) | ((with_reducible refine Below.setCell ?_ ?_ _); rotate_left; focus (first | omega | (simp; done) | (simp; omega))) | (with_reducible refine Below.step ?_ (by assumption))))
  rw [if_pos hs0]
  go_wp2_with fail
  refine (szFloat32S_any v1 n1 (left - n0) xs1 _ ?_ ?_).mono ?_
  · refine RowAt.below H1.out ?_
    (repeat (first | assumption | (with_reducible exact Below.refl _ _) | (with_reducible refine Below.drewN ?_ _) | (with_reducible refine Below.drew ?_) | (with_reducible refine Below.allocS ?_ _) | ((with_reducible refine Below.setCell ?_ ?_ _); rotate_left; focus (first | omega | (simp; done) | (simp; omega))) | (with_reducible refine Below.step ?_ (by assumption))))
  · omega
  rintro e w1 ⟨rfl, rfl⟩
  by_cases hs1 : n1 ≤ left - n0
  case neg =>
    rw [if_neg hs1]
    go_wp2_with fail
    go_ret
    refine ⟨by first | rfl | (rw [if_neg (by omega)]; done), ?_⟩
    (repeat (first | assumption | (with_reducible exact Below.refl _ _) | (with_reducible refine Below.drewN ?_ _) | (with_reducible refine Below.drew ?_) | (with_reducible refine Below.allocS ?_ _) | ((with_reducible refine Below.setCell ?_ ?_ _); rotate_left; focus (first | omega | (simp; done) | (simp; omega))) | (with_reducible refine Below.step ?_ (by assumption))))
  rw [if_pos hs1]
  go_wp2_with fail
  go_ret
  refine ⟨by (try rw [if_pos (by omega)]); exact ret_int (by omega), ?_⟩
  (repeat (first | assumption | (with_reducible exact Below.refl _ _) | (with_reducible refine Below.drewN ?_ _) | (with_reducible refine Below.drew ?_) | (with_reducible refine Below.allocS ?_ _) | ((with_reducible refine Below.setCell ?_ ?_ _); rotate_left; focus (first | omega | (simp; done) | (simp; omega))) | (with_reducible refine Below.step ?_ (by assumption))))

/-- New Clocks of these cells. -/
def NewOfClocks (n0 : Nat) (n1 : Nat) (l0 : List Nat) (l1 : List Nat) (w : World) (e : Ending) (w' : World) : Prop :=
  ∃ g0 g1, e = .returned (.agg #[.slice (some ⟨g0, 0, none⟩) n0 n0, .slice (some ⟨g1, 0, none⟩) n1 n1]) ∧ w'.ownsRow w.heap.size 113 2 (.slice (some ⟨g0, 0, none⟩) n0 n0) n0 (fl l0) ∧ w'.ownsRow w.heap.size 23 1 (.slice (some ⟨g1, 0, none⟩) n1 n1) n1 (fl l1) ∧ g0 ≠ g1 ∧  Below w.heap.size w w'
set_option maxRecDepth 100000 in
set_option maxHeartbeats 4000000 in
theorem toClocks_any (v0 : Value) (n0 : Nat) (v1 : Value) (n1 : Nat) (l0 : List Nat) (l1 : List Nat) (w : World) (h0 : RowAt w v0 2 n0 (fl l0)) (h1 : RowAt w v1 1 n1 (fl l1)) (hn0 : n0 ≤ 1048576) (hn1 : n1 ≤ 1048576) : Calls Try.prog 28 #[.agg #[v0, v1]] w (NewOfClocks n0 n1 l0 l1 w) := by
  have H0 := Lib.hid h0
  have H1 := Lib.hid h1
  clear h0 h1
  go_enter Try.func28, Try.ntmps28
  go_wp2_with fail
  refine (toClockS_any v0 n0 l0 _ ?_ hn0).mono ?_
  · refine RowAt.below H0.out ?_
    (repeat (first | assumption | (with_reducible exact Below.refl _ _) | (with_reducible refine Below.drewN ?_ _) | (with_reducible refine Below.drew ?_) | (with_reducible refine Below.allocS ?_ _) | ((with_reducible refine Below.setCell ?_ ?_ _); rotate_left; focus (first | omega | (simp; done) | (simp; omega))) | (with_reducible refine Below.step ?_ (by assumption))))
  rintro e w0 ⟨g0, rfl, ho0, hc0⟩
  have hk := Held.below hc0 (l := [(⟨w.heap.size, 0, none⟩, v0), (⟨w.heap.size, 1, none⟩, v1), (⟨(w.heap.size + 1), 0, none⟩, .slice none 0 0), (⟨(w.heap.size + 1), 1, none⟩, .slice none 0 0), (⟨(w.heap.size + 1 + 1), 0, none⟩, .slice none 0 0), (⟨(w.heap.size + 1 + 1), 1, none⟩, .slice none 0 0)]) (by simp [Held, go_sem, *])
  simp only [Held, and_true] at hk
  have hB0 : Below w.heap.size w w0 := by (repeat (first | assumption | (with_reducible exact Below.refl _ _) | (with_reducible refine Below.drewN ?_ _) | (with_reducible refine Below.drew ?_) | (with_reducible refine Below.allocS ?_ _) | ((with_reducible refine Below.setCell ?_ ?_ _); rotate_left; focus (first | omega | (simp; done) | (simp; omega))) | (with_reducible refine Below.step ?_ (by assumption))))
  have hL0 := ho0.lt _ rfl
  (try simp only [World.size_alloc, World.size_setCell] at hL0 ho0)
  have HO0 := Lib.hid ho0
  clear ho0
  go_wp2_with fail
  refine (toFloat32S_any v1 n1 l1 _ ?_ hn1).mono ?_
  · refine RowAt.below H1.out ?_
    (repeat (first | assumption | (with_reducible exact Below.refl _ _) | (with_reducible refine Below.drewN ?_ _) | (with_reducible refine Below.drew ?_) | (with_reducible refine Below.allocS ?_ _) | ((with_reducible refine Below.setCell ?_ ?_ _); rotate_left; focus (first | omega | (simp; done) | (simp; omega))) | (with_reducible refine Below.step ?_ (by assumption))))
  rintro e w1 ⟨g1, rfl, ho1, hc1⟩
  have hk := Held.below hc1 (l := [(⟨w.heap.size, 0, none⟩, v0), (⟨w.heap.size, 1, none⟩, v1), (⟨(w.heap.size + 1), 0, none⟩, .slice none 0 0), (⟨(w.heap.size + 1), 1, none⟩, .slice none 0 0), (⟨(w.heap.size + 1 + 1), 0, none⟩, .slice (some ⟨g0, 0, none⟩) n0 n0), (⟨(w.heap.size + 1 + 1), 1, none⟩, .slice none 0 0)]) (by simp [Held, go_sem, *])
  simp only [Held, and_true] at hk
  have hB1 : Below w.heap.size w w1 := by (repeat (first | assumption | (with_reducible exact Below.refl _ _) | (with_reducible refine Below.drewN ?_ _) | (with_reducible refine Below.drew ?_) | (with_reducible refine Below.allocS ?_ _) | ((with_reducible refine Below.setCell ?_ ?_ _); rotate_left; focus (first | omega | (simp; done) | (simp; omega))) | (with_reducible refine Below.step ?_ (by assumption))))
  have hL1 := ho1.lt _ rfl
  (try simp only [World.size_alloc, World.size_setCell] at hL1 ho1)
  have HO1 := Lib.hid ho1
  clear ho1
  go_wp2_with fail
  refine bodyPost_ret (v := ?_) (by first | (simp [results, Try.results28, go_sem, *]; rfl) | (simp [results, Try.results28, go_sem, *]; done)) rfl ?_
  refine ⟨_, _, rfl, ?_, ?_, ?_, ?_⟩
  · have ho := HO0.out
    refine ownsRow_base (base := w.heap.size + 1 + 1 + 1) (by omega) ?_
    (repeat (first | (with_reducible refine World.ownsRow.alloc ?_ _) | (with_reducible refine ownsRow_drewN ?_ _) | ((with_reducible refine ownsRow_setCell_below ?_ ?_ _); rotate_left; focus (first | omega | (simp; done) | (simp; omega)))))
    refine ownsRow_below ?_ hc1
    (repeat (first | (with_reducible refine World.ownsRow.alloc ?_ _) | (with_reducible refine ownsRow_drewN ?_ _) | ((with_reducible refine ownsRow_setCell_below ?_ ?_ _); rotate_left; focus (first | omega | (simp; done) | (simp; omega)))))
    exact ho
  · have ho := HO1.out
    refine ownsRow_base (base := w0.heap.size) (by omega) ?_
    (repeat (first | (with_reducible refine World.ownsRow.alloc ?_ _) | (with_reducible refine ownsRow_drewN ?_ _) | ((with_reducible refine ownsRow_setCell_below ?_ ?_ _); rotate_left; focus (first | omega | (simp; done) | (simp; omega)))))
    exact ho
  · omega
  · (repeat (first | assumption | (with_reducible exact Below.refl _ _) | (with_reducible refine Below.drewN ?_ _) | (with_reducible refine Below.drew ?_) | (with_reducible refine Below.allocS ?_ _) | ((with_reducible refine Below.setCell ?_ ?_ _); rotate_left; focus (first | omega | (simp; done) | (simp; omega))) | (with_reducible refine Below.step ?_ (by assumption))))

set_option maxRecDepth 100000 in
set_option maxHeartbeats 4000000 in
theorem eqClocks_any (v0 v0' : Value) (n0 : Nat) (v1 v1' : Value) (n1 : Nat) (l0 m0 : List Nat) (l1 m1 : List Nat) (w : World) (h0 : RowAt w v0 2 n0 (fl l0)) (h0' : RowAt w v0' 2 n0 (fl m0)) (e0 : l0.map (cn .f32) = m0.map (cn .f32)) (h1 : RowAt w v1 1 n1 (fl l1)) (h1' : RowAt w v1' 1 n1 (fl m1)) (e1 : l1.map (cn .f32) = m1.map (cn .f32)) : Calls Try.prog 30 #[.agg #[v0, v1], .agg #[v0', v1']] w (BB true w) := by
  have H0 := Lib.hid h0
  have H0' := Lib.hid h0'
  have H1 := Lib.hid h1
  have H1' := Lib.hid h1'
  have E0 := Lib.hid e0
  clear e0
  have E1 := Lib.hid e1
  clear e1
  clear h0 h0' h1 h1'
  go_enter Try.func30, Try.ntmps30
  go_wp2_with fail
  refine (eqClockS_any v0 v0' n0 l0 m0 _ ?_ ?_ E0.out).mono ?_
  · refine RowAt.below H0.out ?_
    (repeat (first | assumption | (with_reducible exact Below.refl _ _) | (with_reducible refine Below.drewN ?_ _) | (with_reducible refine Below.drew ?_) | (with_reducible refine Below.allocS ?_ _) | ((with_reducible refine Below.setCell ?_ ?_ _); rotate_left; focus (first | omega | (simp; done) | (simp; omega))) | (with_reducible refine Below.step ?_ (by assumption))))
  · refine RowAt.below H0'.out ?_
    (repeat (first | assumption | (with_reducible exact Below.refl _ _) | (with_reducible refine Below.drewN ?_ _) | (with_reducible refine Below.drew ?_) | (with_reducible refine Below.allocS ?_ _) | ((with_reducible refine Below.setCell ?_ ?_ _); rotate_left; focus (first | omega | (simp; done) | (simp; omega))) | (with_reducible refine Below.step ?_ (by assumption))))
  rintro e w0 ⟨rfl, hc0⟩
  have hk := Held.below hc0 (l := [(⟨w.heap.size, 0, none⟩, v0), (⟨w.heap.size, 1, none⟩, v1), (⟨(w.heap.size + 1), 0, none⟩, v0'), (⟨(w.heap.size + 1), 1, none⟩, v1')]) (by simp [Held, go_sem, *])
  simp only [Held, and_true] at hk
  have hB0 : Below w.heap.size w w0 := by (repeat (first | assumption | (with_reducible exact Below.refl _ _) | (with_reducible refine Below.drewN ?_ _) | (with_reducible refine Below.drew ?_) | (with_reducible refine Below.allocS ?_ _) | ((with_reducible refine Below.setCell ?_ ?_ _); rotate_left; focus (first | omega | (simp; done) | (simp; omega))) | (with_reducible refine Below.step ?_ (by assumption))))
  go_wp2_with fail
  refine (eqFloat32S_any v1 v1' n1 l1 m1 _ ?_ ?_ E1.out).mono ?_
  · refine RowAt.below H1.out ?_
    (repeat (first | assumption | (with_reducible exact Below.refl _ _) | (with_reducible refine Below.drewN ?_ _) | (with_reducible refine Below.drew ?_) | (with_reducible refine Below.allocS ?_ _) | ((with_reducible refine Below.setCell ?_ ?_ _); rotate_left; focus (first | omega | (simp; done) | (simp; omega))) | (with_reducible refine Below.step ?_ (by assumption))))
  · refine RowAt.below H1'.out ?_
    (repeat (first | assumption | (with_reducible exact Below.refl _ _) | (with_reducible refine Below.drewN ?_ _) | (with_reducible refine Below.drew ?_) | (with_reducible refine Below.allocS ?_ _) | ((with_reducible refine Below.setCell ?_ ?_ _); rotate_left; focus (first | omega | (simp; done) | (simp; omega))) | (with_reducible refine Below.step ?_ (by assumption))))
  rintro e w1 ⟨rfl, hc1⟩
  have hk := Held.below hc1 (l := [(⟨w.heap.size, 0, none⟩, v0), (⟨w.heap.size, 1, none⟩, v1), (⟨(w.heap.size + 1), 0, none⟩, v0'), (⟨(w.heap.size + 1), 1, none⟩, v1')]) (by simp [Held, go_sem, *])
  simp only [Held, and_true] at hk
  have hB1 : Below w.heap.size w w1 := by (repeat (first | assumption | (with_reducible exact Below.refl _ _) | (with_reducible refine Below.drewN ?_ _) | (with_reducible refine Below.drew ?_) | (with_reducible refine Below.allocS ?_ _) | ((with_reducible refine Below.setCell ?_ ?_ _); rotate_left; focus (first | omega | (simp; done) | (simp; omega))) | (with_reducible refine Below.step ?_ (by assumption))))
  go_wp2_with (first | (refine wpList_widen rfl rfl Try.underlying85 Try.underlying23 rfl (fun r n hr => ?_)))
  go_ret
  refine ⟨rfl, ?_⟩
  (repeat (first | assumption | (with_reducible exact Below.refl _ _) | (with_reducible refine Below.drewN ?_ _) | (with_reducible refine Below.drew ?_) | (with_reducible refine Below.allocS ?_ _) | ((with_reducible refine Below.setCell ?_ ?_ _); rotate_left; focus (first | omega | (simp; done) | (simp; omega))) | (with_reducible refine Below.step ?_ (by assumption))))

set_option maxRecDepth 100000 in
set_option maxHeartbeats 4000000 in
theorem markClocks_any (v0 : Value) (n0 b0 : Nat) (xs0 : List Value) (v1 : Value) (n1 b1 : Nat) (xs1 : List Value) (k0 : Nat) (w : World) (h0 : w.ownsRow b0 113 2 v0 n0 xs0) (hn0 : n0 ≤ 1048576) (h1 : w.ownsRow b1 23 1 v1 n1 xs1) (hn1 : n1 ≤ 1048576) (hne : ∀ i, v0.ownBlock = some i → v1.ownBlock ≠ some i) (hk0 : k0 ≤ 16777216) :
    Calls Try.prog 45 #[.agg #[v0, v1], .int .i64 (k0 : Int)] w fun e w' => e = .returned (.int .i64 ((k0 + n0 * 2 + n1 : Nat) : Int)) ∧ w'.ownsRow b0 113 2 v0 n0 (marks k0 (n0 * 2)) ∧ w'.ownsRow b1 23 1 v1 n1 (marks (k0 + n0 * 2) (n1 * 1)) ∧ Kept w w' [v0.ownBlock, v1.ownBlock] := by
  have H0 := Lib.hid h0
  have H1 := Lib.hid h1
  have hL0 : ∀ i, v0.ownBlock = some i → i < w.heap.size := fun i hi => (h0.lt i hi).2
  have hL1 : ∀ i, v1.ownBlock = some i → i < w.heap.size := fun i hi => (h1.lt i hi).2
  have HL0 := Lib.hid hL0
  have HL1 := Lib.hid hL1
  have HN := Lib.hid hne
  clear h0 h1 hL0 hL1 hne
  go_enter Try.func45, Try.ntmps45
  go_wp2_with fail
  refine (markClockS_any v0 n0 k0 b0 xs0 _ (H0.out.alloc _) (by omega) (by omega)).mono ?_
  rintro e w1 ⟨rfl, ho0, hg0⟩
  have hk0' := Kept.of_grown hg0
  have hk := Held_kept hk0' (l := [(⟨w.heap.size, 0, none⟩, v0), (⟨w.heap.size, 1, none⟩, v1)]) (by intro q hq hm; simp only [List.mem_cons, List.not_mem_nil, or_false] at hq hm; rcases hq with rfl | rfl <;> exact absurd (HL0.out _ hm.symm) (Nat.lt_irrefl _)) (by simp [Held, go_sem])
  simp only [Held, and_true] at hk
  have ho1 := ownsRow_kept (H1.out.alloc (.cells #[v0, v1] 49)) hk0' (fun i hi hm => HN.out i (List.mem_singleton.1 hm).symm hi)
  have HO0 := Lib.hid ho0
  have HO1 := Lib.hid ho1
  have HG := Lib.hid hg0
  have HK := Lib.hid hk0'
  clear ho0 ho1 hg0 hk0'
  go_wp2_with fail
  refine (markFloat32S_any v1 n1 (k0 + n0 * 2) b1 xs1 _ HO1.out (by omega) (by omega)).mono ?_
  rintro e w2 ⟨rfl, ho1, hg1⟩
  go_wp2_with fail
  go_ret
  refine ⟨ret_int (by omega), ?_, ho1, ?_⟩
  · exact ownsRow_kept HO0.out (Kept.of_grown hg1) (fun i hi hm => HN.out i hi (List.mem_singleton.1 hm).symm)
  · exact (Kept.of_below (Below.allocS (Below.refl _ _) _)).trans (HK.out.trans (Kept.of_grown hg1))

set_option maxRecDepth 100000 in
set_option maxHeartbeats 4000000 in
theorem heldClocks_any (v0 v1 : Value) (n0 n1 k0 : Nat) (w : World) (h0 : RowAt w v0 2 n0 (marks k0 (n0 * 2))) (h1 : RowAt w v1 1 n1 (marks (k0 + n0 * 2) (n1 * 1))) (hn0 : n0 ≤ 1048576) (hn1 : n1 ≤ 1048576) (hk0 : k0 ≤ 16777216) :
    Calls Try.prog 47 #[.agg #[v0, v1], .int .i64 (k0 : Int)] w fun e w' => e = .returned (.int .i64 ((k0 + n0 * 2 + n1 : Nat) : Int)) ∧ Below w.heap.size w w' := by
  have H0 := Lib.hid h0
  have H1 := Lib.hid h1
  clear h0 h1
  go_enter Try.func47, Try.ntmps47
  go_wp2_with fail
  refine (heldClockS_any v0 n0 k0 _ ?_ (by omega) (by omega)).mono ?_
  · refine RowAt.below H0.out ?_
    (repeat (first | assumption | (with_reducible exact Below.refl _ _) | (with_reducible refine Below.drewN ?_ _) | (with_reducible refine Below.drew ?_) | (with_reducible refine Below.allocS ?_ _) | ((with_reducible refine Below.setCell ?_ ?_ _); rotate_left; focus (first | omega | (simp; done) | (simp; omega))) | (with_reducible refine Below.step ?_ (by assumption))))
  rintro e w1 ⟨rfl, rfl⟩
  go_wp2_with fail
  refine (heldFloat32S_any v1 n1 (k0 + n0 * 2) _ ?_ (by omega) (by omega)).mono ?_
  · refine RowAt.below H1.out ?_
    (repeat (first | assumption | (with_reducible exact Below.refl _ _) | (with_reducible refine Below.drewN ?_ _) | (with_reducible refine Below.drew ?_) | (with_reducible refine Below.allocS ?_ _) | ((with_reducible refine Below.setCell ?_ ?_ _); rotate_left; focus (first | omega | (simp; done) | (simp; omega))) | (with_reducible refine Below.step ?_ (by assumption))))
  rintro e w1 ⟨rfl, rfl⟩
  go_wp2_with fail
  go_ret
  refine ⟨ret_int (by omega), ?_⟩
  (repeat (first | assumption | (with_reducible exact Below.refl _ _) | (with_reducible refine Below.drewN ?_ _) | (with_reducible refine Below.drew ?_) | (with_reducible refine Below.allocS ?_ _) | ((with_reducible refine Below.setCell ?_ ?_ _); rotate_left; focus (first | omega | (simp; done) | (simp; omega))) | (with_reducible refine Below.step ?_ (by assumption))))

set_option maxRecDepth 100000 in
set_option maxHeartbeats 4000000 in
theorem szRow_any (v0 : Value) (n0 : Nat) (xs0 : List Value) (z1 : Nat) (left : Nat) (w : World) (h0 : RowAt w v0 3 n0 xs0) (hl : left ≤ 1048576) : Calls Try.prog 14 #[.agg #[v0, .float .f32 z1], .int .i64 (left : Int)] w fun e w' => e = .returned (.int .i64 (if n0 ≤ left then ((left - (n0) : Nat) : Int) else -1)) ∧ Below w.heap.size w w' := by
  have H0 := Lib.hid h0
  clear h0
  go_enter Try.func14, Try.ntmps14
  go_wp2_with fail
  refine (szBallS_any v0 n0 (left) xs0 _ ?_ ?_).mono ?_
  · refine RowAt.below H0.out ?_
    (repeat (first | assumption | (with_reducible exact Below.refl _ _) | (with_reducible refine Below.drewN ?_ _) | (with_reducible refine Below.drew ?_) | (with_reducible refine Below.allocS ?_ _) | ((with_reducible refine Below.setCell ?_ ?_ _); rotate_left; focus (first | omega | (simp; done) | (simp; omega))) | (with_reducible refine Below.step ?_ (by assumption))))
  · omega
  rintro e w0 ⟨rfl, rfl⟩
  by_cases hs0 : n0 ≤ left
  case neg =>
    rw [if_neg hs0]
    go_wp2_with fail
    go_ret
    refine ⟨by first | rfl | (rw [if_neg (by omega)]; done), ?_⟩
    (repeat (first | assumption | (with_reducible exact Below.refl _ _) | (with_reducible refine Below.drewN ?_ _) | (with_reducible refine Below.drew ?_) | (with_reducible refine Below.allocS ?_ _) | ((with_reducible refine Below.setCell ?_ ?_ _); rotate_left; focus (first | omega | (simp; done) | (simp; omega))) | (with_reducible refine Below.step ?_ (by assumption))))
  rw [if_pos hs0]
  go_wp2_with fail
  go_ret
  refine ⟨by (try rw [if_pos (by omega)]); exact ret_int (by omega), ?_⟩
  (repeat (first | assumption | (with_reducible exact Below.refl _ _) | (with_reducible refine Below.drewN ?_ _) | (with_reducible refine Below.drew ?_) | (with_reducible refine Below.allocS ?_ _) | ((with_reducible refine Below.setCell ?_ ?_ _); rotate_left; focus (first | omega | (simp; done) | (simp; omega))) | (with_reducible refine Below.step ?_ (by assumption))))

/-- New Row of these cells. -/
def NewOfRow (n0 : Nat) (l0 : List Nat) (z1 : Nat) (w : World) (e : Ending) (w' : World) : Prop :=
  ∃ g0, e = .returned (.agg #[.slice (some ⟨g0, 0, none⟩) n0 n0, .float .f32 z1]) ∧ w'.ownsRow w.heap.size 94 3 (.slice (some ⟨g0, 0, none⟩) n0 n0) n0 (fl l0) ∧  Below w.heap.size w w'
set_option maxRecDepth 100000 in
set_option maxHeartbeats 4000000 in
theorem toRow_any (v0 : Value) (n0 : Nat) (l0 : List Nat) (z1 : Nat) (w : World) (h0 : RowAt w v0 3 n0 (fl l0)) (hn0 : n0 ≤ 1048576) : Calls Try.prog 16 #[.agg #[v0, .float .f32 z1]] w (NewOfRow n0 l0 z1 w) := by
  have H0 := Lib.hid h0
  clear h0
  go_enter Try.func16, Try.ntmps16
  go_wp2_with fail
  refine (toBallS_any v0 n0 l0 _ ?_ hn0).mono ?_
  · refine RowAt.below H0.out ?_
    (repeat (first | assumption | (with_reducible exact Below.refl _ _) | (with_reducible refine Below.drewN ?_ _) | (with_reducible refine Below.drew ?_) | (with_reducible refine Below.allocS ?_ _) | ((with_reducible refine Below.setCell ?_ ?_ _); rotate_left; focus (first | omega | (simp; done) | (simp; omega))) | (with_reducible refine Below.step ?_ (by assumption))))
  rintro e w0 ⟨g0, rfl, ho0, hc0⟩
  have hk := Held.below hc0 (l := [(⟨w.heap.size, 0, none⟩, v0), (⟨w.heap.size, 1, none⟩, .float .f32 z1), (⟨(w.heap.size + 1), 0, none⟩, .slice none 0 0), (⟨(w.heap.size + 1), 1, none⟩, .float .f32 0), (⟨(w.heap.size + 1 + 1), 0, none⟩, .slice none 0 0), (⟨(w.heap.size + 1 + 1), 1, none⟩, .float .f32 0)]) (by simp [Held, go_sem, *])
  simp only [Held, and_true] at hk
  have hB0 : Below w.heap.size w w0 := by (repeat (first | assumption | (with_reducible exact Below.refl _ _) | (with_reducible refine Below.drewN ?_ _) | (with_reducible refine Below.drew ?_) | (with_reducible refine Below.allocS ?_ _) | ((with_reducible refine Below.setCell ?_ ?_ _); rotate_left; focus (first | omega | (simp; done) | (simp; omega))) | (with_reducible refine Below.step ?_ (by assumption))))
  have hL0 := ho0.lt _ rfl
  (try simp only [World.size_alloc, World.size_setCell] at hL0 ho0)
  have HO0 := Lib.hid ho0
  clear ho0
  go_wp2_with fail
  refine bodyPost_ret (v := ?_) (by first | (simp [results, Try.results16, go_sem, *]; rfl) | (simp [results, Try.results16, go_sem, *]; done)) rfl ?_
  refine ⟨_, rfl, ?_, ?_⟩
  · have ho := HO0.out
    refine ownsRow_base (base := w.heap.size + 1 + 1 + 1) (by omega) ?_
    (repeat (first | (with_reducible refine World.ownsRow.alloc ?_ _) | (with_reducible refine ownsRow_drewN ?_ _) | ((with_reducible refine ownsRow_setCell_below ?_ ?_ _); rotate_left; focus (first | omega | (simp; done) | (simp; omega)))))
    exact ho
  · (repeat (first | assumption | (with_reducible exact Below.refl _ _) | (with_reducible refine Below.drewN ?_ _) | (with_reducible refine Below.drew ?_) | (with_reducible refine Below.allocS ?_ _) | ((with_reducible refine Below.setCell ?_ ?_ _); rotate_left; focus (first | omega | (simp; done) | (simp; omega))) | (with_reducible refine Below.step ?_ (by assumption))))

set_option maxRecDepth 100000 in
set_option maxHeartbeats 4000000 in
theorem eqRow_any (v0 v0' : Value) (n0 : Nat) (l0 m0 : List Nat) (z1 y1 : Nat) (w : World) (h0 : RowAt w v0 3 n0 (fl l0)) (h0' : RowAt w v0' 3 n0 (fl m0)) (e0 : l0.map (cn .f32) = m0.map (cn .f32)) (e1 : cn .f32 z1 = cn .f32 y1) : Calls Try.prog 18 #[.agg #[v0, .float .f32 z1], .agg #[v0', .float .f32 y1]] w (BB true w) := by
  have H0 := Lib.hid h0
  have H0' := Lib.hid h0'
  have E0 := Lib.hid e0
  clear e0
  have E1 := Lib.hid e1
  clear e1
  clear h0 h0'
  go_enter Try.func18, Try.ntmps18
  go_wp2_with fail
  refine (eqBallS_any v0 v0' n0 l0 m0 _ ?_ ?_ E0.out).mono ?_
  · refine RowAt.below H0.out ?_
    (repeat (first | assumption | (with_reducible exact Below.refl _ _) | (with_reducible refine Below.drewN ?_ _) | (with_reducible refine Below.drew ?_) | (with_reducible refine Below.allocS ?_ _) | ((with_reducible refine Below.setCell ?_ ?_ _); rotate_left; focus (first | omega | (simp; done) | (simp; omega))) | (with_reducible refine Below.step ?_ (by assumption))))
  · refine RowAt.below H0'.out ?_
    (repeat (first | assumption | (with_reducible exact Below.refl _ _) | (with_reducible refine Below.drewN ?_ _) | (with_reducible refine Below.drew ?_) | (with_reducible refine Below.allocS ?_ _) | ((with_reducible refine Below.setCell ?_ ?_ _); rotate_left; focus (first | omega | (simp; done) | (simp; omega))) | (with_reducible refine Below.step ?_ (by assumption))))
  rintro e w0 ⟨rfl, hc0⟩
  have hk := Held.below hc0 (l := [(⟨w.heap.size, 0, none⟩, v0), (⟨w.heap.size, 1, none⟩, .float .f32 z1), (⟨(w.heap.size + 1), 0, none⟩, v0'), (⟨(w.heap.size + 1), 1, none⟩, .float .f32 y1)]) (by simp [Held, go_sem, *])
  simp only [Held, and_true] at hk
  have hB0 : Below w.heap.size w w0 := by (repeat (first | assumption | (with_reducible exact Below.refl _ _) | (with_reducible refine Below.drewN ?_ _) | (with_reducible refine Below.drew ?_) | (with_reducible refine Below.allocS ?_ _) | ((with_reducible refine Below.setCell ?_ ?_ _); rotate_left; focus (first | omega | (simp; done) | (simp; omega))) | (with_reducible refine Below.step ?_ (by assumption))))
  go_wp2_with (first | (refine wpList_widen rfl rfl Try.underlying85 Try.underlying23 rfl (fun r n hr => ?_)) | (go_at_call 52; refine (sameFloat_any _ _ _ (widen_same (Hid.out (by assumption)) (Hid.out (by assumption)) E1.out)).mono ?_; rintro e w' ⟨n, rfl, rfl⟩))
  go_ret
  refine ⟨rfl, ?_⟩
  (repeat (first | assumption | (with_reducible exact Below.refl _ _) | (with_reducible refine Below.drewN ?_ _) | (with_reducible refine Below.drew ?_) | (with_reducible refine Below.allocS ?_ _) | ((with_reducible refine Below.setCell ?_ ?_ _); rotate_left; focus (first | omega | (simp; done) | (simp; omega))) | (with_reducible refine Below.step ?_ (by assumption))))

set_option maxRecDepth 100000 in
set_option maxHeartbeats 4000000 in
theorem szChain_any (v0 : Value) (n0 : Nat) (xs0 : List Value) (v1 : Value) (n1 : Nat) (xs1 : List Value) (v2 : Value) (n2 : Nat) (xs2 : List Value) (v3 : Value) (n3 : Nat) (xs3 : List Value) (left : Nat) (w : World) (h0 : RowAt w v0 3 n0 xs0) (h1 : RowAt w v1 3 n1 xs1) (h2 : RowAt w v2 1 n2 xs2) (h3 : RowAt w v3 3 n3 xs3) (hl : left ≤ 1048576) : Calls Try.prog 33 #[.agg #[v0, v1, v2, v3], .int .i64 (left : Int)] w fun e w' => e = .returned (.int .i64 (if n0 + n1 + n2 + n3 ≤ left then ((left - (n0 + n1 + n2 + n3) : Nat) : Int) else -1)) ∧ Below w.heap.size w w' := by
  have H0 := Lib.hid h0
  have H1 := Lib.hid h1
  have H2 := Lib.hid h2
  have H3 := Lib.hid h3
  clear h0 h1 h2 h3
  go_enter Try.func33, Try.ntmps33
  go_wp2_with fail
  refine (szVectorS_any v0 n0 (left) xs0 _ ?_ ?_).mono ?_
  · refine RowAt.below H0.out ?_
    (repeat (first | assumption | (with_reducible exact Below.refl _ _) | (with_reducible refine Below.drewN ?_ _) | (with_reducible refine Below.drew ?_) | (with_reducible refine Below.allocS ?_ _) | ((with_reducible refine Below.setCell ?_ ?_ _); rotate_left; focus (first | omega | (simp; done) | (simp; omega))) | (with_reducible refine Below.step ?_ (by assumption))))
  · omega
  rintro e w0 ⟨rfl, rfl⟩
  by_cases hs0 : n0 ≤ left
  case neg =>
    rw [if_neg hs0]
    go_wp2_with fail
    go_ret
    refine ⟨by first | rfl | (rw [if_neg (by omega)]; done), ?_⟩
    (repeat (first | assumption | (with_reducible exact Below.refl _ _) | (with_reducible refine Below.drewN ?_ _) | (with_reducible refine Below.drew ?_) | (with_reducible refine Below.allocS ?_ _) | ((with_reducible refine Below.setCell ?_ ?_ _); rotate_left; focus (first | omega | (simp; done) | (simp; omega))) | (with_reducible refine Below.step ?_ (by assumption))))
  rw [if_pos hs0]
  go_wp2_with fail
  refine (szVectorS_any v1 n1 (left - n0) xs1 _ ?_ ?_).mono ?_
  · refine RowAt.below H1.out ?_
    (repeat (first | assumption | (with_reducible exact Below.refl _ _) | (with_reducible refine Below.drewN ?_ _) | (with_reducible refine Below.drew ?_) | (with_reducible refine Below.allocS ?_ _) | ((with_reducible refine Below.setCell ?_ ?_ _); rotate_left; focus (first | omega | (simp; done) | (simp; omega))) | (with_reducible refine Below.step ?_ (by assumption))))
  · omega
  rintro e w1 ⟨rfl, rfl⟩
  by_cases hs1 : n1 ≤ left - n0
  case neg =>
    rw [if_neg hs1]
    go_wp2_with fail
    go_ret
    refine ⟨by first | rfl | (rw [if_neg (by omega)]; done), ?_⟩
    (repeat (first | assumption | (with_reducible exact Below.refl _ _) | (with_reducible refine Below.drewN ?_ _) | (with_reducible refine Below.drew ?_) | (with_reducible refine Below.allocS ?_ _) | ((with_reducible refine Below.setCell ?_ ?_ _); rotate_left; focus (first | omega | (simp; done) | (simp; omega))) | (with_reducible refine Below.step ?_ (by assumption))))
  rw [if_pos hs1]
  go_wp2_with fail
  refine (szFloat32S_any v2 n2 ((left - n0) - n1) xs2 _ ?_ ?_).mono ?_
  · refine RowAt.below H2.out ?_
    (repeat (first | assumption | (with_reducible exact Below.refl _ _) | (with_reducible refine Below.drewN ?_ _) | (with_reducible refine Below.drew ?_) | (with_reducible refine Below.allocS ?_ _) | ((with_reducible refine Below.setCell ?_ ?_ _); rotate_left; focus (first | omega | (simp; done) | (simp; omega))) | (with_reducible refine Below.step ?_ (by assumption))))
  · omega
  rintro e w2 ⟨rfl, rfl⟩
  by_cases hs2 : n2 ≤ (left - n0) - n1
  case neg =>
    rw [if_neg hs2]
    go_wp2_with fail
    go_ret
    refine ⟨by first | rfl | (rw [if_neg (by omega)]; done), ?_⟩
    (repeat (first | assumption | (with_reducible exact Below.refl _ _) | (with_reducible refine Below.drewN ?_ _) | (with_reducible refine Below.drew ?_) | (with_reducible refine Below.allocS ?_ _) | ((with_reducible refine Below.setCell ?_ ?_ _); rotate_left; focus (first | omega | (simp; done) | (simp; omega))) | (with_reducible refine Below.step ?_ (by assumption))))
  rw [if_pos hs2]
  go_wp2_with fail
  refine (szRodS_any v3 n3 (((left - n0) - n1) - n2) xs3 _ ?_ ?_).mono ?_
  · refine RowAt.below H3.out ?_
    (repeat (first | assumption | (with_reducible exact Below.refl _ _) | (with_reducible refine Below.drewN ?_ _) | (with_reducible refine Below.drew ?_) | (with_reducible refine Below.allocS ?_ _) | ((with_reducible refine Below.setCell ?_ ?_ _); rotate_left; focus (first | omega | (simp; done) | (simp; omega))) | (with_reducible refine Below.step ?_ (by assumption))))
  · omega
  rintro e w3 ⟨rfl, rfl⟩
  by_cases hs3 : n3 ≤ ((left - n0) - n1) - n2
  case neg =>
    rw [if_neg hs3]
    go_wp2_with fail
    go_ret
    refine ⟨by first | rfl | (rw [if_neg (by omega)]; done), ?_⟩
    (repeat (first | assumption | (with_reducible exact Below.refl _ _) | (with_reducible refine Below.drewN ?_ _) | (with_reducible refine Below.drew ?_) | (with_reducible refine Below.allocS ?_ _) | ((with_reducible refine Below.setCell ?_ ?_ _); rotate_left; focus (first | omega | (simp; done) | (simp; omega))) | (with_reducible refine Below.step ?_ (by assumption))))
  rw [if_pos hs3]
  go_wp2_with fail
  go_ret
  refine ⟨by (try rw [if_pos (by omega)]); exact ret_int (by omega), ?_⟩
  (repeat (first | assumption | (with_reducible exact Below.refl _ _) | (with_reducible refine Below.drewN ?_ _) | (with_reducible refine Below.drew ?_) | (with_reducible refine Below.allocS ?_ _) | ((with_reducible refine Below.setCell ?_ ?_ _); rotate_left; focus (first | omega | (simp; done) | (simp; omega))) | (with_reducible refine Below.step ?_ (by assumption))))

/-- New Chain of these cells. -/
def NewOfChain (n0 : Nat) (n1 : Nat) (n2 : Nat) (n3 : Nat) (l0 : List Nat) (l1 : List Nat) (l2 : List Nat) (xs3 : List Value) (w : World) (e : Ending) (w' : World) : Prop :=
  ∃ g0 g1 g2 g3, e = .returned (.agg #[.slice (some ⟨g0, 0, none⟩) n0 n0, .slice (some ⟨g1, 0, none⟩) n1 n1, .slice (some ⟨g2, 0, none⟩) n2 n2, .slice (some ⟨g3, 0, none⟩) n3 n3]) ∧ w'.ownsRow w.heap.size 38 3 (.slice (some ⟨g0, 0, none⟩) n0 n0) n0 (fl l0) ∧ w'.ownsRow w.heap.size 38 3 (.slice (some ⟨g1, 0, none⟩) n1 n1) n1 (fl l1) ∧ w'.ownsRow w.heap.size 23 1 (.slice (some ⟨g2, 0, none⟩) n2 n2) n2 (fl l2) ∧ w'.ownsRow w.heap.size 129 3 (.slice (some ⟨g3, 0, none⟩) n3 n3) n3 xs3 ∧ g0 ≠ g1 ∧ g0 ≠ g2 ∧ g0 ≠ g3 ∧ g1 ≠ g2 ∧ g1 ≠ g3 ∧ g2 ≠ g3 ∧  Below w.heap.size w w'
set_option maxRecDepth 100000 in
set_option maxHeartbeats 4000000 in
theorem toChain_any (v0 : Value) (n0 : Nat) (v1 : Value) (n1 : Nat) (v2 : Value) (n2 : Nat) (v3 : Value) (n3 : Nat) (l0 : List Nat) (l1 : List Nat) (l2 : List Nat) (xs3 : List Value) (w : World) (h0 : RowAt w v0 3 n0 (fl l0)) (h1 : RowAt w v1 3 n1 (fl l1)) (h2 : RowAt w v2 1 n2 (fl l2)) (h3 : RowAt w v3 3 n3 xs3) (hn0 : n0 ≤ 1048576) (hn1 : n1 ≤ 1048576) (hn2 : n2 ≤ 1048576) (hn3 : n3 ≤ 1048576) (hR3 : RodL xs3) : Calls Try.prog 35 #[.agg #[v0, v1, v2, v3]] w (NewOfChain n0 n1 n2 n3 l0 l1 l2 xs3 w) := by
  have H0 := Lib.hid h0
  have H1 := Lib.hid h1
  have H2 := Lib.hid h2
  have H3 := Lib.hid h3
  clear h0 h1 h2 h3
  go_enter Try.func35, Try.ntmps35
  go_wp2_with fail
  refine (toVectorS_any v0 n0 l0 _ ?_ hn0).mono ?_
  · refine RowAt.below H0.out ?_
    (repeat (first | assumption | (with_reducible exact Below.refl _ _) | (with_reducible refine Below.drewN ?_ _) | (with_reducible refine Below.drew ?_) | (with_reducible refine Below.allocS ?_ _) | ((with_reducible refine Below.setCell ?_ ?_ _); rotate_left; focus (first | omega | (simp; done) | (simp; omega))) | (with_reducible refine Below.step ?_ (by assumption))))
  rintro e w0 ⟨g0, rfl, ho0, hc0⟩
  have hk := Held.below hc0 (l := [(⟨w.heap.size, 0, none⟩, v0), (⟨w.heap.size, 1, none⟩, v1), (⟨w.heap.size, 2, none⟩, v2), (⟨w.heap.size, 3, none⟩, v3), (⟨(w.heap.size + 1), 0, none⟩, .slice none 0 0), (⟨(w.heap.size + 1), 1, none⟩, .slice none 0 0), (⟨(w.heap.size + 1), 2, none⟩, .slice none 0 0), (⟨(w.heap.size + 1), 3, none⟩, .slice none 0 0), (⟨(w.heap.size + 1 + 1), 0, none⟩, .slice none 0 0), (⟨(w.heap.size + 1 + 1), 1, none⟩, .slice none 0 0), (⟨(w.heap.size + 1 + 1), 2, none⟩, .slice none 0 0), (⟨(w.heap.size + 1 + 1), 3, none⟩, .slice none 0 0)]) (by simp [Held, go_sem, *])
  simp only [Held, and_true] at hk
  have hB0 : Below w.heap.size w w0 := by (repeat (first | assumption | (with_reducible exact Below.refl _ _) | (with_reducible refine Below.drewN ?_ _) | (with_reducible refine Below.drew ?_) | (with_reducible refine Below.allocS ?_ _) | ((with_reducible refine Below.setCell ?_ ?_ _); rotate_left; focus (first | omega | (simp; done) | (simp; omega))) | (with_reducible refine Below.step ?_ (by assumption))))
  have hL0 := ho0.lt _ rfl
  (try simp only [World.size_alloc, World.size_setCell] at hL0 ho0)
  have HO0 := Lib.hid ho0
  clear ho0
  go_wp2_with fail
  refine (toVectorS_any v1 n1 l1 _ ?_ hn1).mono ?_
  · refine RowAt.below H1.out ?_
    (repeat (first | assumption | (with_reducible exact Below.refl _ _) | (with_reducible refine Below.drewN ?_ _) | (with_reducible refine Below.drew ?_) | (with_reducible refine Below.allocS ?_ _) | ((with_reducible refine Below.setCell ?_ ?_ _); rotate_left; focus (first | omega | (simp; done) | (simp; omega))) | (with_reducible refine Below.step ?_ (by assumption))))
  rintro e w1 ⟨g1, rfl, ho1, hc1⟩
  have hk := Held.below hc1 (l := [(⟨w.heap.size, 0, none⟩, v0), (⟨w.heap.size, 1, none⟩, v1), (⟨w.heap.size, 2, none⟩, v2), (⟨w.heap.size, 3, none⟩, v3), (⟨(w.heap.size + 1), 0, none⟩, .slice none 0 0), (⟨(w.heap.size + 1), 1, none⟩, .slice none 0 0), (⟨(w.heap.size + 1), 2, none⟩, .slice none 0 0), (⟨(w.heap.size + 1), 3, none⟩, .slice none 0 0), (⟨(w.heap.size + 1 + 1), 0, none⟩, .slice (some ⟨g0, 0, none⟩) n0 n0), (⟨(w.heap.size + 1 + 1), 1, none⟩, .slice none 0 0), (⟨(w.heap.size + 1 + 1), 2, none⟩, .slice none 0 0), (⟨(w.heap.size + 1 + 1), 3, none⟩, .slice none 0 0)]) (by simp [Held, go_sem, *])
  simp only [Held, and_true] at hk
  have hB1 : Below w.heap.size w w1 := by (repeat (first | assumption | (with_reducible exact Below.refl _ _) | (with_reducible refine Below.drewN ?_ _) | (with_reducible refine Below.drew ?_) | (with_reducible refine Below.allocS ?_ _) | ((with_reducible refine Below.setCell ?_ ?_ _); rotate_left; focus (first | omega | (simp; done) | (simp; omega))) | (with_reducible refine Below.step ?_ (by assumption))))
  have hL1 := ho1.lt _ rfl
  (try simp only [World.size_alloc, World.size_setCell] at hL1 ho1)
  have HO1 := Lib.hid ho1
  clear ho1
  go_wp2_with fail
  refine (toFloat32S_any v2 n2 l2 _ ?_ hn2).mono ?_
  · refine RowAt.below H2.out ?_
    (repeat (first | assumption | (with_reducible exact Below.refl _ _) | (with_reducible refine Below.drewN ?_ _) | (with_reducible refine Below.drew ?_) | (with_reducible refine Below.allocS ?_ _) | ((with_reducible refine Below.setCell ?_ ?_ _); rotate_left; focus (first | omega | (simp; done) | (simp; omega))) | (with_reducible refine Below.step ?_ (by assumption))))
  rintro e w2 ⟨g2, rfl, ho2, hc2⟩
  have hk := Held.below hc2 (l := [(⟨w.heap.size, 0, none⟩, v0), (⟨w.heap.size, 1, none⟩, v1), (⟨w.heap.size, 2, none⟩, v2), (⟨w.heap.size, 3, none⟩, v3), (⟨(w.heap.size + 1), 0, none⟩, .slice none 0 0), (⟨(w.heap.size + 1), 1, none⟩, .slice none 0 0), (⟨(w.heap.size + 1), 2, none⟩, .slice none 0 0), (⟨(w.heap.size + 1), 3, none⟩, .slice none 0 0), (⟨(w.heap.size + 1 + 1), 0, none⟩, .slice (some ⟨g0, 0, none⟩) n0 n0), (⟨(w.heap.size + 1 + 1), 1, none⟩, .slice (some ⟨g1, 0, none⟩) n1 n1), (⟨(w.heap.size + 1 + 1), 2, none⟩, .slice none 0 0), (⟨(w.heap.size + 1 + 1), 3, none⟩, .slice none 0 0)]) (by simp [Held, go_sem, *])
  simp only [Held, and_true] at hk
  have hB2 : Below w.heap.size w w2 := by (repeat (first | assumption | (with_reducible exact Below.refl _ _) | (with_reducible refine Below.drewN ?_ _) | (with_reducible refine Below.drew ?_) | (with_reducible refine Below.allocS ?_ _) | ((with_reducible refine Below.setCell ?_ ?_ _); rotate_left; focus (first | omega | (simp; done) | (simp; omega))) | (with_reducible refine Below.step ?_ (by assumption))))
  have hL2 := ho2.lt _ rfl
  (try simp only [World.size_alloc, World.size_setCell] at hL2 ho2)
  have HO2 := Lib.hid ho2
  clear ho2
  go_wp2_with fail
  refine (toRodS_any v3 n3 xs3 hR3 _ ?_ hn3).mono ?_
  · refine RowAt.below H3.out ?_
    (repeat (first | assumption | (with_reducible exact Below.refl _ _) | (with_reducible refine Below.drewN ?_ _) | (with_reducible refine Below.drew ?_) | (with_reducible refine Below.allocS ?_ _) | ((with_reducible refine Below.setCell ?_ ?_ _); rotate_left; focus (first | omega | (simp; done) | (simp; omega))) | (with_reducible refine Below.step ?_ (by assumption))))
  rintro e w3 ⟨g3, rfl, ho3, hc3⟩
  have hk := Held.below hc3 (l := [(⟨w.heap.size, 0, none⟩, v0), (⟨w.heap.size, 1, none⟩, v1), (⟨w.heap.size, 2, none⟩, v2), (⟨w.heap.size, 3, none⟩, v3), (⟨(w.heap.size + 1), 0, none⟩, .slice none 0 0), (⟨(w.heap.size + 1), 1, none⟩, .slice none 0 0), (⟨(w.heap.size + 1), 2, none⟩, .slice none 0 0), (⟨(w.heap.size + 1), 3, none⟩, .slice none 0 0), (⟨(w.heap.size + 1 + 1), 0, none⟩, .slice (some ⟨g0, 0, none⟩) n0 n0), (⟨(w.heap.size + 1 + 1), 1, none⟩, .slice (some ⟨g1, 0, none⟩) n1 n1), (⟨(w.heap.size + 1 + 1), 2, none⟩, .slice (some ⟨g2, 0, none⟩) n2 n2), (⟨(w.heap.size + 1 + 1), 3, none⟩, .slice none 0 0)]) (by simp [Held, go_sem, *])
  simp only [Held, and_true] at hk
  have hB3 : Below w.heap.size w w3 := by (repeat (first | assumption | (with_reducible exact Below.refl _ _) | (with_reducible refine Below.drewN ?_ _) | (with_reducible refine Below.drew ?_) | (with_reducible refine Below.allocS ?_ _) | ((with_reducible refine Below.setCell ?_ ?_ _); rotate_left; focus (first | omega | (simp; done) | (simp; omega))) | (with_reducible refine Below.step ?_ (by assumption))))
  have hL3 := ho3.lt _ rfl
  (try simp only [World.size_alloc, World.size_setCell] at hL3 ho3)
  have HO3 := Lib.hid ho3
  clear ho3
  go_wp2_with fail
  refine bodyPost_ret (v := ?_) (by first | (simp [results, Try.results35, go_sem, *]; rfl) | (simp [results, Try.results35, go_sem, *]; done)) rfl ?_
  refine ⟨_, _, _, _, rfl, ?_, ?_, ?_, ?_, ?_, ?_, ?_, ?_, ?_, ?_, ?_⟩
  · have ho := HO0.out
    refine ownsRow_base (base := w.heap.size + 1 + 1 + 1) (by omega) ?_
    (repeat (first | (with_reducible refine World.ownsRow.alloc ?_ _) | (with_reducible refine ownsRow_drewN ?_ _) | ((with_reducible refine ownsRow_setCell_below ?_ ?_ _); rotate_left; focus (first | omega | (simp; done) | (simp; omega)))))
    refine ownsRow_below ?_ hc3
    (repeat (first | (with_reducible refine World.ownsRow.alloc ?_ _) | (with_reducible refine ownsRow_drewN ?_ _) | ((with_reducible refine ownsRow_setCell_below ?_ ?_ _); rotate_left; focus (first | omega | (simp; done) | (simp; omega)))))
    refine ownsRow_below ?_ hc2
    (repeat (first | (with_reducible refine World.ownsRow.alloc ?_ _) | (with_reducible refine ownsRow_drewN ?_ _) | ((with_reducible refine ownsRow_setCell_below ?_ ?_ _); rotate_left; focus (first | omega | (simp; done) | (simp; omega)))))
    refine ownsRow_below ?_ hc1
    (repeat (first | (with_reducible refine World.ownsRow.alloc ?_ _) | (with_reducible refine ownsRow_drewN ?_ _) | ((with_reducible refine ownsRow_setCell_below ?_ ?_ _); rotate_left; focus (first | omega | (simp; done) | (simp; omega)))))
    exact ho
  · have ho := HO1.out
    refine ownsRow_base (base := w0.heap.size) (by omega) ?_
    (repeat (first | (with_reducible refine World.ownsRow.alloc ?_ _) | (with_reducible refine ownsRow_drewN ?_ _) | ((with_reducible refine ownsRow_setCell_below ?_ ?_ _); rotate_left; focus (first | omega | (simp; done) | (simp; omega)))))
    refine ownsRow_below ?_ hc3
    (repeat (first | (with_reducible refine World.ownsRow.alloc ?_ _) | (with_reducible refine ownsRow_drewN ?_ _) | ((with_reducible refine ownsRow_setCell_below ?_ ?_ _); rotate_left; focus (first | omega | (simp; done) | (simp; omega)))))
    refine ownsRow_below ?_ hc2
    (repeat (first | (with_reducible refine World.ownsRow.alloc ?_ _) | (with_reducible refine ownsRow_drewN ?_ _) | ((with_reducible refine ownsRow_setCell_below ?_ ?_ _); rotate_left; focus (first | omega | (simp; done) | (simp; omega)))))
    exact ho
  · have ho := HO2.out
    refine ownsRow_base (base := w1.heap.size) (by omega) ?_
    (repeat (first | (with_reducible refine World.ownsRow.alloc ?_ _) | (with_reducible refine ownsRow_drewN ?_ _) | ((with_reducible refine ownsRow_setCell_below ?_ ?_ _); rotate_left; focus (first | omega | (simp; done) | (simp; omega)))))
    refine ownsRow_below ?_ hc3
    (repeat (first | (with_reducible refine World.ownsRow.alloc ?_ _) | (with_reducible refine ownsRow_drewN ?_ _) | ((with_reducible refine ownsRow_setCell_below ?_ ?_ _); rotate_left; focus (first | omega | (simp; done) | (simp; omega)))))
    exact ho
  · have ho := HO3.out
    refine ownsRow_base (base := w2.heap.size) (by omega) ?_
    (repeat (first | (with_reducible refine World.ownsRow.alloc ?_ _) | (with_reducible refine ownsRow_drewN ?_ _) | ((with_reducible refine ownsRow_setCell_below ?_ ?_ _); rotate_left; focus (first | omega | (simp; done) | (simp; omega)))))
    exact ho
  · omega
  · omega
  · omega
  · omega
  · omega
  · omega
  · (repeat (first | assumption | (with_reducible exact Below.refl _ _) | (with_reducible refine Below.drewN ?_ _) | (with_reducible refine Below.drew ?_) | (with_reducible refine Below.allocS ?_ _) | ((with_reducible refine Below.setCell ?_ ?_ _); rotate_left; focus (first | omega | (simp; done) | (simp; omega))) | (with_reducible refine Below.step ?_ (by assumption))))

set_option maxRecDepth 100000 in
set_option maxHeartbeats 4000000 in
theorem eqChain_any (v0 v0' : Value) (n0 : Nat) (v1 v1' : Value) (n1 : Nat) (v2 v2' : Value) (n2 : Nat) (v3 v3' : Value) (n3 : Nat) (l0 m0 : List Nat) (l1 m1 : List Nat) (l2 m2 : List Nat) (xs3 : List Value) (w : World) (h0 : RowAt w v0 3 n0 (fl l0)) (h0' : RowAt w v0' 3 n0 (fl m0)) (e0 : l0.map (cn .f32) = m0.map (cn .f32)) (h1 : RowAt w v1 3 n1 (fl l1)) (h1' : RowAt w v1' 3 n1 (fl m1)) (e1 : l1.map (cn .f32) = m1.map (cn .f32)) (h2 : RowAt w v2 1 n2 (fl l2)) (h2' : RowAt w v2' 1 n2 (fl m2)) (e2 : l2.map (cn .f32) = m2.map (cn .f32)) (h3 : RowAt w v3 3 n3 xs3) (h3' : RowAt w v3' 3 n3 xs3) (hR3 : RodL xs3) : Calls Try.prog 37 #[.agg #[v0, v1, v2, v3], .agg #[v0', v1', v2', v3']] w (BB true w) := by
  have H0 := Lib.hid h0
  have H0' := Lib.hid h0'
  have H1 := Lib.hid h1
  have H1' := Lib.hid h1'
  have H2 := Lib.hid h2
  have H2' := Lib.hid h2'
  have H3 := Lib.hid h3
  have H3' := Lib.hid h3'
  have E0 := Lib.hid e0
  clear e0
  have E1 := Lib.hid e1
  clear e1
  have E2 := Lib.hid e2
  clear e2
  clear h0 h0' h1 h1' h2 h2' h3 h3'
  go_enter Try.func37, Try.ntmps37
  go_wp2_with fail
  refine (eqVectorS_any v0 v0' n0 l0 m0 _ ?_ ?_ E0.out).mono ?_
  · refine RowAt.below H0.out ?_
    (repeat (first | assumption | (with_reducible exact Below.refl _ _) | (with_reducible refine Below.drewN ?_ _) | (with_reducible refine Below.drew ?_) | (with_reducible refine Below.allocS ?_ _) | ((with_reducible refine Below.setCell ?_ ?_ _); rotate_left; focus (first | omega | (simp; done) | (simp; omega))) | (with_reducible refine Below.step ?_ (by assumption))))
  · refine RowAt.below H0'.out ?_
    (repeat (first | assumption | (with_reducible exact Below.refl _ _) | (with_reducible refine Below.drewN ?_ _) | (with_reducible refine Below.drew ?_) | (with_reducible refine Below.allocS ?_ _) | ((with_reducible refine Below.setCell ?_ ?_ _); rotate_left; focus (first | omega | (simp; done) | (simp; omega))) | (with_reducible refine Below.step ?_ (by assumption))))
  rintro e w0 ⟨rfl, hc0⟩
  have hk := Held.below hc0 (l := [(⟨w.heap.size, 0, none⟩, v0), (⟨w.heap.size, 1, none⟩, v1), (⟨w.heap.size, 2, none⟩, v2), (⟨w.heap.size, 3, none⟩, v3), (⟨(w.heap.size + 1), 0, none⟩, v0'), (⟨(w.heap.size + 1), 1, none⟩, v1'), (⟨(w.heap.size + 1), 2, none⟩, v2'), (⟨(w.heap.size + 1), 3, none⟩, v3')]) (by simp [Held, go_sem, *])
  simp only [Held, and_true] at hk
  have hB0 : Below w.heap.size w w0 := by (repeat (first | assumption | (with_reducible exact Below.refl _ _) | (with_reducible refine Below.drewN ?_ _) | (with_reducible refine Below.drew ?_) | (with_reducible refine Below.allocS ?_ _) | ((with_reducible refine Below.setCell ?_ ?_ _); rotate_left; focus (first | omega | (simp; done) | (simp; omega))) | (with_reducible refine Below.step ?_ (by assumption))))
  go_wp2_with fail
  refine (eqVectorS_any v1 v1' n1 l1 m1 _ ?_ ?_ E1.out).mono ?_
  · refine RowAt.below H1.out ?_
    (repeat (first | assumption | (with_reducible exact Below.refl _ _) | (with_reducible refine Below.drewN ?_ _) | (with_reducible refine Below.drew ?_) | (with_reducible refine Below.allocS ?_ _) | ((with_reducible refine Below.setCell ?_ ?_ _); rotate_left; focus (first | omega | (simp; done) | (simp; omega))) | (with_reducible refine Below.step ?_ (by assumption))))
  · refine RowAt.below H1'.out ?_
    (repeat (first | assumption | (with_reducible exact Below.refl _ _) | (with_reducible refine Below.drewN ?_ _) | (with_reducible refine Below.drew ?_) | (with_reducible refine Below.allocS ?_ _) | ((with_reducible refine Below.setCell ?_ ?_ _); rotate_left; focus (first | omega | (simp; done) | (simp; omega))) | (with_reducible refine Below.step ?_ (by assumption))))
  rintro e w1 ⟨rfl, hc1⟩
  have hk := Held.below hc1 (l := [(⟨w.heap.size, 0, none⟩, v0), (⟨w.heap.size, 1, none⟩, v1), (⟨w.heap.size, 2, none⟩, v2), (⟨w.heap.size, 3, none⟩, v3), (⟨(w.heap.size + 1), 0, none⟩, v0'), (⟨(w.heap.size + 1), 1, none⟩, v1'), (⟨(w.heap.size + 1), 2, none⟩, v2'), (⟨(w.heap.size + 1), 3, none⟩, v3')]) (by simp [Held, go_sem, *])
  simp only [Held, and_true] at hk
  have hB1 : Below w.heap.size w w1 := by (repeat (first | assumption | (with_reducible exact Below.refl _ _) | (with_reducible refine Below.drewN ?_ _) | (with_reducible refine Below.drew ?_) | (with_reducible refine Below.allocS ?_ _) | ((with_reducible refine Below.setCell ?_ ?_ _); rotate_left; focus (first | omega | (simp; done) | (simp; omega))) | (with_reducible refine Below.step ?_ (by assumption))))
  go_wp2_with fail
  refine (eqFloat32S_any v2 v2' n2 l2 m2 _ ?_ ?_ E2.out).mono ?_
  · refine RowAt.below H2.out ?_
    (repeat (first | assumption | (with_reducible exact Below.refl _ _) | (with_reducible refine Below.drewN ?_ _) | (with_reducible refine Below.drew ?_) | (with_reducible refine Below.allocS ?_ _) | ((with_reducible refine Below.setCell ?_ ?_ _); rotate_left; focus (first | omega | (simp; done) | (simp; omega))) | (with_reducible refine Below.step ?_ (by assumption))))
  · refine RowAt.below H2'.out ?_
    (repeat (first | assumption | (with_reducible exact Below.refl _ _) | (with_reducible refine Below.drewN ?_ _) | (with_reducible refine Below.drew ?_) | (with_reducible refine Below.allocS ?_ _) | ((with_reducible refine Below.setCell ?_ ?_ _); rotate_left; focus (first | omega | (simp; done) | (simp; omega))) | (with_reducible refine Below.step ?_ (by assumption))))
  rintro e w2 ⟨rfl, hc2⟩
  have hk := Held.below hc2 (l := [(⟨w.heap.size, 0, none⟩, v0), (⟨w.heap.size, 1, none⟩, v1), (⟨w.heap.size, 2, none⟩, v2), (⟨w.heap.size, 3, none⟩, v3), (⟨(w.heap.size + 1), 0, none⟩, v0'), (⟨(w.heap.size + 1), 1, none⟩, v1'), (⟨(w.heap.size + 1), 2, none⟩, v2'), (⟨(w.heap.size + 1), 3, none⟩, v3')]) (by simp [Held, go_sem, *])
  simp only [Held, and_true] at hk
  have hB2 : Below w.heap.size w w2 := by (repeat (first | assumption | (with_reducible exact Below.refl _ _) | (with_reducible refine Below.drewN ?_ _) | (with_reducible refine Below.drew ?_) | (with_reducible refine Below.allocS ?_ _) | ((with_reducible refine Below.setCell ?_ ?_ _); rotate_left; focus (first | omega | (simp; done) | (simp; omega))) | (with_reducible refine Below.step ?_ (by assumption))))
  go_wp2_with fail
  refine (eqRodS_any v3 v3' n3 xs3 hR3 _ ?_ ?_).mono ?_
  · refine RowAt.below H3.out ?_
    (repeat (first | assumption | (with_reducible exact Below.refl _ _) | (with_reducible refine Below.drewN ?_ _) | (with_reducible refine Below.drew ?_) | (with_reducible refine Below.allocS ?_ _) | ((with_reducible refine Below.setCell ?_ ?_ _); rotate_left; focus (first | omega | (simp; done) | (simp; omega))) | (with_reducible refine Below.step ?_ (by assumption))))
  · refine RowAt.below H3'.out ?_
    (repeat (first | assumption | (with_reducible exact Below.refl _ _) | (with_reducible refine Below.drewN ?_ _) | (with_reducible refine Below.drew ?_) | (with_reducible refine Below.allocS ?_ _) | ((with_reducible refine Below.setCell ?_ ?_ _); rotate_left; focus (first | omega | (simp; done) | (simp; omega))) | (with_reducible refine Below.step ?_ (by assumption))))
  rintro e w3 ⟨rfl, hc3⟩
  have hk := Held.below hc3 (l := [(⟨w.heap.size, 0, none⟩, v0), (⟨w.heap.size, 1, none⟩, v1), (⟨w.heap.size, 2, none⟩, v2), (⟨w.heap.size, 3, none⟩, v3), (⟨(w.heap.size + 1), 0, none⟩, v0'), (⟨(w.heap.size + 1), 1, none⟩, v1'), (⟨(w.heap.size + 1), 2, none⟩, v2'), (⟨(w.heap.size + 1), 3, none⟩, v3')]) (by simp [Held, go_sem, *])
  simp only [Held, and_true] at hk
  have hB3 : Below w.heap.size w w3 := by (repeat (first | assumption | (with_reducible exact Below.refl _ _) | (with_reducible refine Below.drewN ?_ _) | (with_reducible refine Below.drew ?_) | (with_reducible refine Below.allocS ?_ _) | ((with_reducible refine Below.setCell ?_ ?_ _); rotate_left; focus (first | omega | (simp; done) | (simp; omega))) | (with_reducible refine Below.step ?_ (by assumption))))
  go_wp2_with (first | (refine wpList_widen rfl rfl Try.underlying85 Try.underlying23 rfl (fun r n hr => ?_)))
  go_ret
  refine ⟨rfl, ?_⟩
  (repeat (first | assumption | (with_reducible exact Below.refl _ _) | (with_reducible refine Below.drewN ?_ _) | (with_reducible refine Below.drew ?_) | (with_reducible refine Below.allocS ?_ _) | ((with_reducible refine Below.setCell ?_ ?_ _); rotate_left; focus (first | omega | (simp; done) | (simp; omega))) | (with_reducible refine Below.step ?_ (by assumption))))

end Go.Proofs.Ytbmabpnolheghaa
