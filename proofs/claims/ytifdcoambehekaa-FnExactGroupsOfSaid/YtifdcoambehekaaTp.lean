/-
  The walks of clocks that are picked.
-/
import Derived.Test.YtifdcoambehekaaTi
import Derived.Test.YtifdcoambehekaaCd
set_option linter.unusedVariables false
set_option linter.unusedSimpArgs false
namespace Go.Proofs.Ytifdcoambehekaa
open Go.RowKit

def pickL (l ks : List Nat) : List Nat := ks.flatMap fun i => [l.getD (i * 2) 0, l.getD (i * 2 + 1) 0]
def pickR (lk : List Nat) (n : Nat) (ks : List Nat) (i : Nat) : List Nat := ks.map fun j => lk.getD (i * n + j) 0
def pickK (lk : List Nat) (n : Nat) (ks : List Nat) : List Nat := ks.flatMap (pickR lk n ks)
theorem take_snoc (ks : List Nat) {k : Nat} (h : k < ks.length) : ks.take (k + 1) = ks.take k ++ [ks.getD k 0] := by
  rw [List.take_add_one, List.getElem?_eq_getElem h, List.getD_eq_getElem?_getD, List.getElem?_eq_getElem h]
  rfl
theorem pickL_snoc (l ks : List Nat) {k : Nat} (h : k < ks.length) : pickL l (ks.take (k + 1)) = pickL l (ks.take k) ++ [l.getD (ks.getD k 0 * 2) 0, l.getD (ks.getD k 0 * 2 + 1) 0] := by
  unfold pickL
  rw [take_snoc ks h, List.flatMap_append, List.flatMap_cons, List.flatMap_nil, List.append_nil]
def idx (ks : List Nat) : List Value := il (ks.map Int.ofNat)
theorem idx_get (ks : List Nat) {k : Nat} (h : k < ks.length) : (idx ks)[k]? = some (.int .i64 ((ks.getD k 0 : Nat) : Int)) := by
  unfold idx
  rw [il_get (by simpa using h)]
  congr 2
  rw [List.getD_eq_getElem?_getD, List.getElem?_map, List.getElem?_eq_getElem h, List.getD_eq_getElem?_getD, List.getElem?_eq_getElem h]
  rfl
theorem getD_mem (ks : List Nat) {k : Nat} (h : k < ks.length) : ks.getD k 0 ∈ ks := by
  rw [List.getD_eq_getElem?_getD, List.getElem?_eq_getElem h]
  exact List.getElem_mem h

theorem pickK_snoc (lk ks : List Nat) (n : Nat) {k : Nat} (h : k < ks.length) : (ks.take (k + 1)).flatMap (pickR lk n ks) = (ks.take k).flatMap (pickR lk n ks) ++ pickR lk n ks (ks.getD k 0) := by
  rw [take_snoc ks h, List.flatMap_append, List.flatMap_cons, List.flatMap_nil, List.append_nil]
theorem pickR_all (lk ks : List Nat) (n i : Nat) : (ks.take ks.length).map (fun j => lk.getD (i * n + j) 0) = pickR lk n ks i := by rw [List.take_length]; rfl
theorem pickR_snoc (lk ks : List Nat) (n i : Nat) {j : Nat} (h : j < ks.length) : (ks.take (j + 1)).map (fun q => lk.getD (i * n + q) 0) = (ks.take j).map (fun q => lk.getD (i * n + q) 0) ++ [lk.getD (i * n + ks.getD j 0) 0] := by
  rw [take_snoc ks h, List.map_append]
  rfl

theorem kept_one (w : World) (p j : Nat) (a : Value) : Kept w (w.setCell ⟨p, j, none⟩ a) [some p] :=
  ⟨rfl, rfl, rfl, by simp, fun k hk hne => Below.heap_setCell _ _ _ _ (fun e => hne (by rw [e]; exact List.mem_singleton.2 rfl))⟩

set_option maxRecDepth 100000 in
set_option maxHeartbeats 8000000 in
theorem l05Picked_any (v v' u : Value) (n m : Nat) (l lk ks : List Nat) (p : Nat) (w : World) (h : RowAt w v 2 n (fl l)) (h' : RowAt w v' 1 m (fl lk)) (hu : RowAt w u 1 ks.length (idx ks)) (hp : Held [(⟨p, 0, none⟩, v), (⟨p, 1, none⟩, v')] w) (hks : ∀ k ∈ ks, k < n) (hK : ks.length ≤ 12) (hn0 : 0 < n) (hn : n ≤ 12) (hm : m = n * n) : Calls Try.prog 70 #[.pointer (some ⟨p, 0, none⟩), u] w (NewC ks.length (pickL l ks) (ks.length * ks.length) (pickK lk n ks) w) := by
  have hm0 : ¬ m = 0 := by have := Nat.mul_pos hn0 hn0; omega
  obtain ⟨K, hKe⟩ : ∃ K, K = ks.length := ⟨_, rfl⟩
  rw [← hKe] at hu hK ⊢
  have HH0 := Lib.hid h
  obtain ⟨h1, h2, ao, cap, rfl, h3⟩ := h
  obtain ⟨b, o, rfl, hbl, hcell⟩ := h3.resolve_left (by omega)
  obtain ⟨g1, g2, ao', cap', rfl, g3⟩ := h'
  obtain ⟨b', o', rfl, hbl', hcell'⟩ := g3.resolve_left hm0
  obtain ⟨k1, k2, ao'', cap'', rfl, k3⟩ := hu
  rw [fl_length] at h1 g1
  have HC := Lib.hid hcell
  have HC' := Lib.hid hcell'
  have HU := Lib.hid k3
  have HL : Hid (l.length = n * 2) := h1
  have HL' : Hid (lk.length = m) := by show _ = _; omega
  have HM : Hid (m = n * n) := hm
  have HKE : Hid (K = ks.length) := hKe
  have hp9 := hp.1.1
  dsimp only at hp9
  have HP := Lib.hid hp
  have HKS := Lib.hid hks
  simp only [Held, and_true] at hp
  obtain ⟨i0, hi⟩ := info_parts info_Clock
  obtain ⟨i1, hjF⟩ := info_parts info_Float32
  clear hcell hcell' h3 g3 k3 k1 h1 g1 hm hKe hks
  go_enter Try.func70, Try.ntmps70
  go_wp2_with fail
  go_loopw [17] (fun jv wr => ∃ (k : Nat) (a0 a1 : Value), k ≤ K ∧ jv = .int .i64 (k : Int) ∧ Held [(⟨w.heap.size + 1, 0, none⟩, a0), (⟨w.heap.size + 1, 1, none⟩, a1), (⟨w.heap.size, 0, none⟩, .slice none 0 0), (⟨w.heap.size, 1, none⟩, .slice none 0 0)] wr ∧ wr.ownsRow (w.heap.size + 1 + 1) 66 2 a0 k (fl (pickL l (ks.take k))) ∧ wr.ownsRow (w.heap.size + 1 + 1) 22 1 a1 (k * K) (fl ((ks.take k).flatMap (pickR lk n ks))) ∧ Below w.heap.size w wr) (fun jv _ => K - (intOf jv).toNat)
  case atStart => exact ⟨0, .slice none 0 0, .slice none 0 0, Nat.zero_le _, rfl, by simp [Held, go_sem], ownsRow_nil', by rw [Nat.zero_mul]; exact ownsRow_nil', by (repeat (first | assumption | (with_reducible exact Below.refl _ _) | (with_reducible refine Below.drewN ?_ _) | (with_reducible refine Below.drew ?_) | (with_reducible refine Below.allocS ?_ _) | ((with_reducible refine Below.setCell ?_ ?_ _); rotate_left; focus (first | omega | (simp; done) | (simp; omega))) | (with_reducible refine Below.step ?_ (by assumption))))⟩
  case round =>
    obtain ⟨k, a0, a1, hk, rfl, hH, o0, o1, hBr⟩ := hrel
    have OA0 := Lib.hid o0
    have OA1 := Lib.hid o1
    have HH := Lib.hid hH
    have hzr := hBr.size
    obtain ⟨c0, s0, t0, rfl⟩ := ownsRow_shape o0
    obtain ⟨c1, s1, t1, rfl⟩ := ownsRow_shape o1
    simp only [Held, and_true] at hH
    clear o0 o1
    by_cases hlt : k < K
    · have d1 : decide ((k : Int) < (K : Int)) = true := decide_eq_true (by omega)
      have hlt2 : Hid (k < ks.length) := by show _ < _; rw [← HKE.out]; exact hlt
      obtain ⟨ob, oo, e9, hobl, hocell⟩ := HU.out.resolve_left (by omega)
      subst e9
      obtain ⟨i, hi9⟩ : ∃ i, Hid (ks.getD k 0 = i) := ⟨_, rfl⟩
      have hin : i < n := by rw [← hi9.out]; exact HKS.out _ (getD_mem ks hlt2.out)
      have q1 := hocell k (.int .i64 (i : Int)) (by rw [← hi9.out]; exact idx_get ks hlt2.out)
      have HOC := Lib.hid hocell
      obtain ⟨x0, hx0⟩ : ∃ x, Hid (l.getD (i * 2) 0 = x) := ⟨_, rfl⟩
      obtain ⟨x1, hx1⟩ : ∃ x, Hid (l.getD (i * 2 + 1) 0 = x) := ⟨_, rfl⟩
      have f0 := HC.out (i * 2) (.float .f32 x0) (by rw [← hx0.out]; exact fl_get (by rw [HL.out]; omega))
      have f1 := HC.out (i * 2 + 1) (.float .f32 x1) (by rw [← hx1.out]; exact fl_get (by rw [HL.out]; omega))
      simp only [← Nat.add_assoc] at f1
      have hc := Held.below hBr (l := [(⟨p, 0, none⟩, .slice (some ⟨b, o, none⟩) n cap), (⟨p, 1, none⟩, .slice (some ⟨b', o', none⟩) m cap'), (⟨ob, oo + k, none⟩, .int .i64 (i : Int)), (⟨b, o + i * 2, none⟩, .float .f32 x0), (⟨b, o + i * 2 + 1, none⟩, .float .f32 x1)]) ⟨HP.out.1, HP.out.2.1, ⟨hobl, q1⟩, ⟨hbl, f0⟩, ⟨hbl, f1⟩, trivial⟩
      have HCE := Lib.hid hc
      simp only [Held, and_true] at hc
      clear q1 f0 f1 hocell
      go_wp2_with fail
      have hDD : ∀ w8 w9, (fun w9 => (Held [(⟨w.heap.size + 1, 0, none⟩, .slice c0 s0 t0), (⟨w.heap.size + 1, 1, none⟩, .slice c1 s1 t1), (⟨w.heap.size, 0, none⟩, .slice none 0 0), (⟨w.heap.size, 1, none⟩, .slice none 0 0), (⟨p, 0, none⟩, .slice (some ⟨b, o, none⟩) n cap), (⟨p, 1, none⟩, .slice (some ⟨b', o', none⟩) m cap'), (⟨ob, oo + k, none⟩, .int .i64 (i : Int)), (⟨b, o + i * 2, none⟩, .float .f32 x0), (⟨b, o + i * 2 + 1, none⟩, .float .f32 x1)] w9 ∧ Below (w.heap.size + 1 + 1) wr w9) ∧ w9.ownsRow (w.heap.size + 1 + 1) 66 2 (.slice c0 s0 t0) (k) (fl (pickL l (ks.take k))) ∧ w9.ownsRow (w.heap.size + 1 + 1) 22 1 (.slice c1 s1 t1) (k * K) (fl ((ks.take k).flatMap (pickR lk n ks)))) w8 → Below w8.heap.size w8 w9 → (fun w9 => (Held [(⟨w.heap.size + 1, 0, none⟩, .slice c0 s0 t0), (⟨w.heap.size + 1, 1, none⟩, .slice c1 s1 t1), (⟨w.heap.size, 0, none⟩, .slice none 0 0), (⟨w.heap.size, 1, none⟩, .slice none 0 0), (⟨p, 0, none⟩, .slice (some ⟨b, o, none⟩) n cap), (⟨p, 1, none⟩, .slice (some ⟨b', o', none⟩) m cap'), (⟨ob, oo + k, none⟩, .int .i64 (i : Int)), (⟨b, o + i * 2, none⟩, .float .f32 x0), (⟨b, o + i * 2 + 1, none⟩, .float .f32 x1)] w9 ∧ Below (w.heap.size + 1 + 1) wr w9) ∧ w9.ownsRow (w.heap.size + 1 + 1) 66 2 (.slice c0 s0 t0) (k) (fl (pickL l (ks.take k))) ∧ w9.ownsRow (w.heap.size + 1 + 1) 22 1 (.slice c1 s1 t1) (k * K) (fl ((ks.take k).flatMap (pickR lk n ks)))) w9 := fun w8 w9 h8 hb8 => ⟨⟨Held.below hb8 h8.1.1, h8.1.2.trans (hb8.mono (by have := h8.1.2.size; omega))⟩, ownsRow_below h8.2.1 hb8, ownsRow_below h8.2.2 hb8⟩
      have hst : stableV [(12, 32, (fun v w9 => ∃ b9, v = Value.slice (some ⟨b9, 0, none⟩) 1 1 ∧ wr.heap.size ≤ b9 ∧ Held [(⟨b9, 0, none⟩, .float .f32 x0), (⟨b9, 1, none⟩, .float .f32 x1)] w9)), (13, 33, (fun v w9 => w9.ownsRow (w.heap.size + 1 + 1) 66 2 v (k + 1) (fl (pickL l (ks.take (k + 1))))))] := by
        intro q hq
        rcases List.mem_cons.1 hq with rfl | hq
        · intro v w8 w9 hb8 hh
          obtain ⟨b9, e9, g9, h9⟩ := hh
          exact ⟨b9, e9, g9, Held.below hb8 h9⟩
        obtain rfl := List.mem_singleton.1 hq
        intro v w8 w9 hb8 hh
        exact ownsRow_below hh hb8
      refine region_calmD_tail 15 (fun w9 => (Held [(⟨w.heap.size + 1, 0, none⟩, .slice c0 s0 t0), (⟨w.heap.size + 1, 1, none⟩, .slice c1 s1 t1), (⟨w.heap.size, 0, none⟩, .slice none 0 0), (⟨w.heap.size, 1, none⟩, .slice none 0 0), (⟨p, 0, none⟩, .slice (some ⟨b, o, none⟩) n cap), (⟨p, 1, none⟩, .slice (some ⟨b', o', none⟩) m cap'), (⟨ob, oo + k, none⟩, .int .i64 (i : Int)), (⟨b, o + i * 2, none⟩, .float .f32 x0), (⟨b, o + i * 2 + 1, none⟩, .float .f32 x1)] w9 ∧ Below (w.heap.size + 1 + 1) wr w9) ∧ w9.ownsRow (w.heap.size + 1 + 1) 66 2 (.slice c0 s0 t0) (k) (fl (pickL l (ks.take k))) ∧ w9.ownsRow (w.heap.size + 1 + 1) 22 1 (.slice c1 s1 t1) (k * K) (fl ((ks.take k).flatMap (pickR lk n ks)))) (fun _ _ _ => False) [(12, 32, (fun v w9 => ∃ b9, v = Value.slice (some ⟨b9, 0, none⟩) 1 1 ∧ wr.heap.size ≤ b9 ∧ Held [(⟨b9, 0, none⟩, .float .f32 x0), (⟨b9, 1, none⟩, .float .f32 x1)] w9)), (13, 33, (fun v w9 => w9.ownsRow (w.heap.size + 1 + 1) 66 2 v (k + 1) (fl (pickL l (ks.take (k + 1))))))] (by kernel_rfl) (by kernel_rfl) (by kernel_rfl) ⟨⟨by simp [Held, go_sem, *], (Below.refl _ _).drew⟩, OA0.out, OA1.out⟩ ?_
      simp only [List.take_succ_cons, List.take_zero, List.drop_succ_cons, List.drop_zero]
      repeat (first | (first | (refine calmD_plain hst hDD rfl rfl ?_ (fun K hK w1 hC => ?_); (focus (intro _ _; simp [RVF]; done)); have hC' := hC.1.1; simp only [Held, and_true] at hC'; go_wp2_with (first | (refine wpList_fbin rfl rfl rfl rfl rfl (fun r n9 hr => ?_)) | (refine wpList_widen rfl rfl Try.underlying44 Try.underlying22 rfl (fun r n9 hr => ?_))); refine ⟨rfl, (by first | exact Below.refl _ _ | exact below_drewN _), hK _ ?_⟩; clear hC hC' hK K w1) | (refine calmD_check rfl rfl rfl ?_ ?_; (focus (intro _ _; simp [RVF]; done)))))
      refine calmD_op (Tv := fun v => ∃ b9, v = .slice (some ⟨b9, 0, none⟩) 1 1) hst hDD rfl (fun w1 hC => ⟨.slice (some ⟨w1.heap.size, 0, none⟩) 1 1, w1.alloc (.cells #[.float .f32 x0, .float .f32 x1] 66), ?_, ⟨_, rfl⟩, ?_, ?_⟩) ?_
      · simp [execOp, go_sem]
      · refine ⟨fun _ => ⟨w1.heap.size, ?_, hC.1.2.size, ?_⟩, fun e9 => by simp at e9, trivial⟩
        · first | rfl | simp [Act.put, Act.eval]
        · simp [Held, go_sem]
      · exact Below.allocS (Below.refl _ _) _
      rintro v ⟨b9, rfl⟩
      refine calmD_turn (Tv := fun v => ∃ ao9 k9 c9, v = .slice ao9 k9 c9) rfl (fun w1 hC hDp => ?_) ?_
      · obtain ⟨b8, e8, g8, h8⟩ := RVF_get (depD hDp (ia := 12) (by kernel_rfl)) List.mem_cons_self
        have hbe : b9 = b8 := by simpa [Act.put, Act.eval] using e8
        subst hbe
        have hmn := ownsRow_lt OA0.out
        obtain ⟨v9, w9, hr9, ho9, hg9, hold9⟩ := append_old (P := Try.prog) w1 (w.heap.size + 1 + 1) 23 23 66 i0 (.agg #[.float .f32 0, .float .f32 0]) 2 8 Try.underlying23 hi.1 hi.2.1 hi.2.2.1 hi.2.2.2 rfl (by decide) (.slice c0 s0 t0) (k) (fl (pickL l (ks.take k))) hC.2.1 ⟨b9, 0, none⟩ 1 1 [.float .f32 x0, .float .f32 x1] rfl (by intro jj u hjj; (match jj, hjj with | 0, hjj => (simp at hjj; subst hjj; exact h8.1.2.1) | 1, hjj => (simp at hjj; subst hjj; exact h8.2.1.2.1))) (by intro u hu; simp at hu; first | (rcases hu with rfl | rfl <;> rfl) | (subst hu; rfl)) (by simp only [maxLen]; omega) (by omega) (by have := hC.1.2.size; omega)
        obtain ⟨ao9, k9, c9, hsh⟩ := ownsRow_shape ho9
        have hK9 := Kept.of_grown hg9
        have hoth := ownsRow_kept hC.2.2 hK9 (fun j hj hm => ownsRow_ne hC.2.1 hC.2.2 tc_ne j (List.mem_singleton.1 hm).symm hj)
        have hB9 : Below (w.heap.size + 1 + 1) wr w9 := hC.1.2.grown hg9 (by have := hC.1.2.size; omega) (fun j hj => (ownsRow_lt hC.2.1 j hj).1)
        refine ⟨v9, w9, run_op_append rfl rfl rfl hr9, ⟨ao9, k9, c9, hsh⟩, ⟨⟨?_, hB9⟩, hold9, hoth⟩, ?_, ?_⟩
        · refine Held_kept1 hK9 ?_ hC.1.1
          intro q hq e9
          have h7 := (ownsRow_lt hC.2.1 _ e9).1
          simp only [List.mem_cons, List.not_mem_nil, or_false] at hq
          rcases hq with rfl | rfl | rfl | rfl | rfl | rfl | rfl | rfl | rfl <;> (dsimp only at h7; omega)
        · refine ⟨fun e9 => by simp at e9, fun _ => ?_, trivial⟩
          have h9 := ho9
          rw [pickL_snoc l ks hlt2.out, hi9.out, hx0.out, hx1.out, fl_append]
          first | exact h9 | (simp [Act.put, Act.eval]; exact h9)
        · intro j a' hj hR
          refine ⟨fun e9 => ?_, fun e9 => absurd e9.symm hj, trivial⟩
          obtain ⟨b7, e7, g7, h7⟩ := hR.1 e9
          refine ⟨b7, e7, g7, Held_kept1 hK9 ?_ h7⟩
          intro q hq e6
          have h6 := (hmn _ e6).2
          simp only [List.mem_cons, List.not_mem_nil, or_false] at hq
          rcases hq with rfl | rfl <;> (dsimp only at h6; omega)
      rintro v ⟨ao9, k9, c9, rfl⟩
      repeat (first | (refine calmD_plain hst hDD rfl rfl ?_ (fun K hK w1 hC => ?_); (focus (intro _ _; simp [RVF]; done)); have hC' := hC.1.1; simp only [Held, and_true] at hC'; go_wp2_with (first | (refine wpList_fbin rfl rfl rfl rfl rfl (fun r n9 hr => ?_)) | (refine wpList_widen rfl rfl Try.underlying44 Try.underlying22 rfl (fun r n9 hr => ?_))); refine ⟨rfl, (by first | exact Below.refl _ _ | exact below_drewN _), hK _ ?_⟩; clear hC hC' hK K w1) | (refine calmD_check rfl rfl rfl ?_ ?_; (focus (intro _ _; simp [RVF]; done))))
      refine calmD_nil ?_
      intro w5 hC hF
      have f9 := RVF_get (hF 13 (by decide)) (List.mem_cons_of_mem _ (List.mem_singleton.2 rfl))
      have F9 : Hid (w5.ownsRow (w.heap.size + 1 + 1) 66 2 (.slice ao9 k9 c9) (k + 1) (fl (pickL l (ks.take (k + 1))))) := by first | exact f9 | simpa [Act.put, Act.eval] using f9
      have OT9 := Lib.hid hC.2.2
      have hB5 : Below (w.heap.size + 1 + 1) wr w5 := hC.1.2
      have hk5 := hC.1.1
      have HK5 := Lib.hid hk5
      simp only [Held, and_true] at hk5
      clear hC hF f9 hst hDD
      obtain ⟨w6, hw6⟩ : ∃ w6, w6 = w5.setCell ⟨w.heap.size + 1, 0, none⟩ (.slice ao9 k9 c9) := ⟨_, rfl⟩
      have K6 : Kept w5 w6 [some (w.heap.size + 1)] := by rw [hw6]; exact kept_one _ _ _ _
      have Z0 : Hid (w6.ownsRow (w.heap.size + 1 + 1) 66 2 (.slice ao9 k9 c9) (k + 1) (fl (pickL l (ks.take (k + 1))))) := ownsRow_kept F9.out K6 (fun j hj hm => by have h1 := (ownsRow_lt F9.out j hj).1; have h2 := List.mem_singleton.1 hm; cases h2; omega)
      have Z1 : Hid (w6.ownsRow (w.heap.size + 1 + 1) 22 1 (.slice c1 s1 t1) (k * K) (fl ((ks.take k).flatMap (pickR lk n ks)))) := ownsRow_kept OT9.out K6 (fun j hj hm => by have h1 := (ownsRow_lt OT9.out j hj).1; have h2 := List.mem_singleton.1 hm; cases h2; omega)
      have hB50 : Below w.heap.size w w5 := hBr.trans (hB5.mono (by omega))
      have hz5 := hB5.size
      have hk6 : Held [(⟨w.heap.size + 1, 0, none⟩, .slice ao9 k9 c9), (⟨w.heap.size + 1, 1, none⟩, .slice c1 s1 t1), (⟨w.heap.size, 0, none⟩, .slice none 0 0), (⟨w.heap.size, 1, none⟩, .slice none 0 0)] w6 := by
        rw [hw6]
        simp [Held, go_sem, *]
        try omega
      have hB6 : Below w.heap.size w w6 := hB50.trans (K6.toBelow (by omega) (fun j hj => by have h2 := List.mem_singleton.1 hj; cases h2; omega))
      have HK6 := Lib.hid hk6
      clear K6 F9 OT9 HK5 hc hH
      go_wp2_with fail
      rw [← hw6]
      clear hw6 hk5
      simp only [Held, and_true] at hk6
      go_loopw [37] (fun jv wr2 => ∃ (j : Nat) (a2 : Value), j ≤ K ∧ jv = .int .i64 (j : Int) ∧ Held [(⟨w.heap.size + 1, 0, none⟩, .slice ao9 k9 c9), (⟨w.heap.size + 1, 1, none⟩, a2), (⟨w.heap.size, 0, none⟩, .slice none 0 0), (⟨w.heap.size, 1, none⟩, .slice none 0 0)] wr2 ∧ wr2.ownsRow (w.heap.size + 1 + 1) 66 2 (.slice ao9 k9 c9) (k + 1) (fl (pickL l (ks.take (k + 1)))) ∧ wr2.ownsRow (w.heap.size + 1 + 1) 22 1 a2 (k * K + j) (fl ((ks.take k).flatMap (pickR lk n ks) ++ (ks.take j).map (fun q => lk.getD (i * n + q) 0))) ∧ Below w.heap.size w wr2) (fun jv _ => K - (intOf jv).toNat)
      case atStart => exact ⟨0, .slice c1 s1 t1, Nat.zero_le _, rfl, HK6.out, Z0.out, by rw [List.take_zero, List.map_nil, List.append_nil]; exact Z1.out, hB6⟩
      case round =>
        obtain ⟨j, a2, hj, rfl, hH2, o2, o3, hBr2⟩ := hrel
        have OA2 := Lib.hid o2
        have OA3 := Lib.hid o3
        have HH2 := Lib.hid hH2
        have hzr2 := hBr2.size
        obtain ⟨c2, s2, t2, rfl⟩ := ownsRow_shape o3
        simp only [Held, and_true] at hH2
        clear o2 o3 hk6
        by_cases hlt3 : j < K
        · have d2 : decide ((j : Int) < (K : Int)) = true := decide_eq_true (by omega)
          have hlt4 : Hid (j < ks.length) := by show _ < _; rw [← HKE.out]; exact hlt3
          obtain ⟨i', hi'9⟩ : ∃ i', Hid (ks.getD j 0 = i') := ⟨_, rfl⟩
          have hin' : i' < n := by rw [← hi'9.out]; exact HKS.out _ (getD_mem ks hlt4.out)
          have q1 := HOC.out k (.int .i64 (i : Int)) (by rw [← hi9.out]; exact idx_get ks hlt2.out)
          have q2 := HOC.out j (.int .i64 (i' : Int)) (by rw [← hi'9.out]; exact idx_get ks hlt4.out)
          obtain ⟨q, hq0⟩ : ∃ q, q = i * n := ⟨_, rfl⟩
          have hqi : (i : Int) * (n : Int) = (q : Int) := by rw [hq0]; exact (Int.natCast_mul i n).symm
          have hqm : q + i' < m := by have h8 := sq_bound hin; have h9 := HM.out; omega
          have hm144 : m ≤ 144 := by have h8 := sq_small hn; have h9 := HM.out; omega
          have HQ : Hid (q = i * n) := hq0
          have hkK : k * K + j ≤ 1000 := by have h8 := sq_small hK; have h9 := Nat.mul_le_mul_right K (Nat.le_of_lt hlt); omega
          clear hq0
          obtain ⟨y, hy⟩ : ∃ x, Hid (lk.getD (q + i') 0 = x) := ⟨_, rfl⟩
          have f2 := HC'.out (q + i') (.float .f32 y) (by rw [← hy.out]; exact fl_get (by rw [HL'.out]; omega))
          have hc3 := Held.below hBr2 (l := [(⟨p, 0, none⟩, .slice (some ⟨b, o, none⟩) n cap), (⟨p, 1, none⟩, .slice (some ⟨b', o', none⟩) m cap'), (⟨ob, oo + k, none⟩, .int .i64 (i : Int)), (⟨ob, oo + j, none⟩, .int .i64 (i' : Int)), (⟨b', o' + (q + i'), none⟩, .float .f32 y)]) ⟨HP.out.1, HP.out.2.1, ⟨hobl, q1⟩, ⟨hobl, q2⟩, ⟨hbl', f2⟩, trivial⟩
          simp only [Held, and_true] at hc3
          clear q1 q2 f2
          go_wp2_with fail
          have hDD : ∀ w8 w9, (fun w9 => (Held [(⟨w.heap.size + 1, 0, none⟩, .slice ao9 k9 c9), (⟨w.heap.size + 1, 1, none⟩, .slice c2 s2 t2), (⟨w.heap.size, 0, none⟩, .slice none 0 0), (⟨w.heap.size, 1, none⟩, .slice none 0 0), (⟨p, 0, none⟩, .slice (some ⟨b, o, none⟩) n cap), (⟨p, 1, none⟩, .slice (some ⟨b', o', none⟩) m cap'), (⟨ob, oo + k, none⟩, .int .i64 (i : Int)), (⟨ob, oo + j, none⟩, .int .i64 (i' : Int)), (⟨b', o' + (q + i'), none⟩, .float .f32 y)] w9 ∧ Below (w.heap.size + 1 + 1) wr w9) ∧ w9.ownsRow (w.heap.size + 1 + 1) 66 2 (.slice ao9 k9 c9) (k + 1) (fl (pickL l (ks.take (k + 1)))) ∧ w9.ownsRow (w.heap.size + 1 + 1) 22 1 (.slice c2 s2 t2) (k * K + j) (fl ((ks.take k).flatMap (pickR lk n ks) ++ (ks.take j).map (fun q => lk.getD (i * n + q) 0)))) w8 → Below w8.heap.size w8 w9 → (fun w9 => (Held [(⟨w.heap.size + 1, 0, none⟩, .slice ao9 k9 c9), (⟨w.heap.size + 1, 1, none⟩, .slice c2 s2 t2), (⟨w.heap.size, 0, none⟩, .slice none 0 0), (⟨w.heap.size, 1, none⟩, .slice none 0 0), (⟨p, 0, none⟩, .slice (some ⟨b, o, none⟩) n cap), (⟨p, 1, none⟩, .slice (some ⟨b', o', none⟩) m cap'), (⟨ob, oo + k, none⟩, .int .i64 (i : Int)), (⟨ob, oo + j, none⟩, .int .i64 (i' : Int)), (⟨b', o' + (q + i'), none⟩, .float .f32 y)] w9 ∧ Below (w.heap.size + 1 + 1) wr w9) ∧ w9.ownsRow (w.heap.size + 1 + 1) 66 2 (.slice ao9 k9 c9) (k + 1) (fl (pickL l (ks.take (k + 1)))) ∧ w9.ownsRow (w.heap.size + 1 + 1) 22 1 (.slice c2 s2 t2) (k * K + j) (fl ((ks.take k).flatMap (pickR lk n ks) ++ (ks.take j).map (fun q => lk.getD (i * n + q) 0)))) w9 := fun w8 w9 h8 hb8 => ⟨⟨Held.below hb8 h8.1.1, h8.1.2.trans (hb8.mono (by have := h8.1.2.size; omega))⟩, ownsRow_below h8.2.1 hb8, ownsRow_below h8.2.2 hb8⟩
          have hst : stableV [(19, 59, (fun v w9 => ∃ b9, v = Value.slice (some ⟨b9, 0, none⟩) 1 1 ∧ wr.heap.size ≤ b9 ∧ Held [(⟨b9, 0, none⟩, .float .f32 y)] w9)), (20, 60, (fun v w9 => w9.ownsRow (w.heap.size + 1 + 1) 22 1 v (k * K + j + 1) (fl ((ks.take k).flatMap (pickR lk n ks) ++ (ks.take (j + 1)).map (fun q => lk.getD (i * n + q) 0)))))] := by
            intro q hq
            rcases List.mem_cons.1 hq with rfl | hq
            · intro v w8 w9 hb8 hh
              obtain ⟨b9, e9, g9, h9⟩ := hh
              exact ⟨b9, e9, g9, Held.below hb8 h9⟩
            obtain rfl := List.mem_singleton.1 hq
            intro v w8 w9 hb8 hh
            exact ownsRow_below hh hb8
          refine region_calmD_tail 22 (fun w9 => (Held [(⟨w.heap.size + 1, 0, none⟩, .slice ao9 k9 c9), (⟨w.heap.size + 1, 1, none⟩, .slice c2 s2 t2), (⟨w.heap.size, 0, none⟩, .slice none 0 0), (⟨w.heap.size, 1, none⟩, .slice none 0 0), (⟨p, 0, none⟩, .slice (some ⟨b, o, none⟩) n cap), (⟨p, 1, none⟩, .slice (some ⟨b', o', none⟩) m cap'), (⟨ob, oo + k, none⟩, .int .i64 (i : Int)), (⟨ob, oo + j, none⟩, .int .i64 (i' : Int)), (⟨b', o' + (q + i'), none⟩, .float .f32 y)] w9 ∧ Below (w.heap.size + 1 + 1) wr w9) ∧ w9.ownsRow (w.heap.size + 1 + 1) 66 2 (.slice ao9 k9 c9) (k + 1) (fl (pickL l (ks.take (k + 1)))) ∧ w9.ownsRow (w.heap.size + 1 + 1) 22 1 (.slice c2 s2 t2) (k * K + j) (fl ((ks.take k).flatMap (pickR lk n ks) ++ (ks.take j).map (fun q => lk.getD (i * n + q) 0)))) (fun _ _ _ => False) [(19, 59, (fun v w9 => ∃ b9, v = Value.slice (some ⟨b9, 0, none⟩) 1 1 ∧ wr.heap.size ≤ b9 ∧ Held [(⟨b9, 0, none⟩, .float .f32 y)] w9)), (20, 60, (fun v w9 => w9.ownsRow (w.heap.size + 1 + 1) 22 1 v (k * K + j + 1) (fl ((ks.take k).flatMap (pickR lk n ks) ++ (ks.take (j + 1)).map (fun q => lk.getD (i * n + q) 0)))))] (by kernel_rfl) (by kernel_rfl) (by kernel_rfl) ⟨⟨by simp [Held, go_sem, *], (Below.refl _ _).drew⟩, OA2.out, OA3.out⟩ ?_
          simp only [List.take_succ_cons, List.take_zero, List.drop_succ_cons, List.drop_zero]
          repeat (first | (first | (refine calmD_plain hst hDD rfl rfl ?_ (fun K hK w1 hC => ?_); (focus (intro _ _; simp [RVF]; done)); have hC' := hC.1.1; simp only [Held, and_true] at hC'; go_wp2_with (first | (refine wpList_fbin rfl rfl rfl rfl rfl (fun r n9 hr => ?_)) | (refine wpList_widen rfl rfl Try.underlying44 Try.underlying22 rfl (fun r n9 hr => ?_))); refine ⟨rfl, (by first | exact Below.refl _ _ | exact below_drewN _), hK _ ?_⟩; clear hC hC' hK K w1) | (refine calmD_check rfl rfl rfl ?_ ?_; (focus (intro _ _; simp [RVF]; done)))))
          refine calmD_op (Tv := fun v => ∃ b9, v = .slice (some ⟨b9, 0, none⟩) 1 1) hst hDD rfl (fun w1 hC => ⟨.slice (some ⟨w1.heap.size, 0, none⟩) 1 1, w1.alloc (.cells #[.float .f32 y] 22), ?_, ⟨_, rfl⟩, ?_, ?_⟩) ?_
          · simp [execOp, go_sem]
          · refine ⟨fun _ => ⟨w1.heap.size, ?_, hC.1.2.size, ?_⟩, fun e9 => by simp at e9, trivial⟩
            · first | rfl | simp [Act.put, Act.eval]
            · simp [Held, go_sem]
          · exact Below.allocS (Below.refl _ _) _
          rintro v ⟨b9, rfl⟩
          refine calmD_turn (Tv := fun v => ∃ ap9 kp9 cp9, v = .slice ap9 kp9 cp9) rfl (fun w1 hC hDp => ?_) ?_
          · obtain ⟨b8, e8, g8, h8⟩ := RVF_get (depD hDp (ia := 19) (by kernel_rfl)) List.mem_cons_self
            have hbe : b9 = b8 := by simpa [Act.put, Act.eval] using e8
            subst hbe
            have hmn := ownsRow_lt OA3.out
            obtain ⟨v9, w9, hr9, ho9, hg9, hold9⟩ := append_old (P := Try.prog) w1 (w.heap.size + 1 + 1) 24 24 22 i1 (.float .f32 0) 1 4 Try.underlying24 hjF.1 hjF.2.1 hjF.2.2.1 hjF.2.2.2 rfl (by decide) (.slice c2 s2 t2) (k * K + j) (fl ((ks.take k).flatMap (pickR lk n ks) ++ (ks.take j).map (fun q => lk.getD (i * n + q) 0))) hC.2.2 ⟨b9, 0, none⟩ 1 1 [.float .f32 y] rfl (by intro jj u hjj; (match jj, hjj with | 0, hjj => (simp at hjj; subst hjj; exact h8.1.2.1))) (by intro u hu; simp at hu; first | (rcases hu with rfl | rfl <;> rfl) | (subst hu; rfl)) (by simp only [maxLen]; omega) (by omega) (by have := hC.1.2.size; omega)
            obtain ⟨ap9, kp9, cp9, hsh⟩ := ownsRow_shape ho9
            have hK9 := Kept.of_grown hg9
            have hoth := ownsRow_kept hC.2.1 hK9 (fun j hj hm => ownsRow_ne hC.2.1 hC.2.2 tc_ne j hj (List.mem_singleton.1 hm).symm)
            have hB9 : Below (w.heap.size + 1 + 1) wr w9 := hC.1.2.grown hg9 (by have := hC.1.2.size; omega) (fun j hj => (ownsRow_lt hC.2.2 j hj).1)
            refine ⟨v9, w9, run_op_append rfl rfl rfl hr9, ⟨ap9, kp9, cp9, hsh⟩, ⟨⟨?_, hB9⟩, hoth, hold9⟩, ?_, ?_⟩
            · refine Held_kept1 hK9 ?_ hC.1.1
              intro q hq e9
              have h7 := (ownsRow_lt hC.2.2 _ e9).1
              simp only [List.mem_cons, List.not_mem_nil, or_false] at hq
              rcases hq with rfl | rfl | rfl | rfl | rfl | rfl | rfl | rfl | rfl <;> (dsimp only at h7; omega)
            · refine ⟨fun e9 => by simp at e9, fun _ => ?_, trivial⟩
              have h9 := ho9
              rw [pickR_snoc lk ks n i hlt4.out, hi'9.out, ← HQ.out, hy.out, HQ.out, ← List.append_assoc, fl_append]
              first | exact h9 | (simp [Act.put, Act.eval]; exact h9)
            · intro j a' hj hR
              refine ⟨fun e9 => ?_, fun e9 => absurd e9.symm hj, trivial⟩
              obtain ⟨b7, e7, g7, h7⟩ := hR.1 e9
              refine ⟨b7, e7, g7, Held_kept1 hK9 ?_ h7⟩
              intro q hq e6
              have h6 := (hmn _ e6).2
              simp only [List.mem_cons, List.not_mem_nil, or_false] at hq
              rcases hq with rfl <;> (dsimp only at h6; omega)
          rintro v ⟨ap9, kp9, cp9, rfl⟩
          repeat (first | (refine calmD_plain hst hDD rfl rfl ?_ (fun K hK w1 hC => ?_); (focus (intro _ _; simp [RVF]; done)); have hC' := hC.1.1; simp only [Held, and_true] at hC'; go_wp2_with (first | (refine wpList_fbin rfl rfl rfl rfl rfl (fun r n9 hr => ?_)) | (refine wpList_widen rfl rfl Try.underlying44 Try.underlying22 rfl (fun r n9 hr => ?_))); refine ⟨rfl, (by first | exact Below.refl _ _ | exact below_drewN _), hK _ ?_⟩; clear hC hC' hK K w1) | (refine calmD_check rfl rfl rfl ?_ ?_; (focus (intro _ _; simp [RVF]; done))))
          refine calmD_nil ?_
          intro w7 hC hF
          have f9 := RVF_get (hF 20 (by decide)) (List.mem_cons_of_mem _ (List.mem_singleton.2 rfl))
          have F9b : Hid (w7.ownsRow (w.heap.size + 1 + 1) 22 1 (.slice ap9 kp9 cp9) (k * K + j + 1) (fl ((ks.take k).flatMap (pickR lk n ks) ++ (ks.take (j + 1)).map (fun q => lk.getD (i * n + q) 0)))) := by first | exact f9 | simpa [Act.put, Act.eval] using f9
          have OT9b := Lib.hid hC.2.1
          have hB5b : Below (w.heap.size + 1 + 1) wr w7 := hC.1.2
          have hk5b := hC.1.1
          have HK5b := Lib.hid hk5b
          simp only [Held, and_true] at hk5b
          clear hC hF f9 hst hDD
          obtain ⟨w8, hw8⟩ : ∃ w8, w8 = w7.setCell ⟨w.heap.size + 1, 1, none⟩ (.slice ap9 kp9 cp9) := ⟨_, rfl⟩
          have K8 : Kept w7 w8 [some (w.heap.size + 1)] := by rw [hw8]; exact kept_one _ _ _ _
          have Y0 : Hid (w8.ownsRow (w.heap.size + 1 + 1) 66 2 (.slice ao9 k9 c9) (k + 1) (fl (pickL l (ks.take (k + 1))))) := ownsRow_kept OT9b.out K8 (fun j hj hm => by have h1 := (ownsRow_lt OT9b.out j hj).1; have h2 := List.mem_singleton.1 hm; cases h2; omega)
          have Y1 : Hid (w8.ownsRow (w.heap.size + 1 + 1) 22 1 (.slice ap9 kp9 cp9) (k * K + j + 1) (fl ((ks.take k).flatMap (pickR lk n ks) ++ (ks.take (j + 1)).map (fun q => lk.getD (i * n + q) 0)))) := ownsRow_kept F9b.out K8 (fun j hj hm => by have h1 := (ownsRow_lt F9b.out j hj).1; have h2 := List.mem_singleton.1 hm; cases h2; omega)
          have hB70 : Below w.heap.size w w7 := hBr2.trans (hB5b.mono (by omega))
          have hz7 := hB70.size
          have hk8 : Held [(⟨w.heap.size + 1, 0, none⟩, .slice ao9 k9 c9), (⟨w.heap.size + 1, 1, none⟩, .slice ap9 kp9 cp9), (⟨w.heap.size, 0, none⟩, .slice none 0 0), (⟨w.heap.size, 1, none⟩, .slice none 0 0)] w8 := by
            rw [hw8]
            simp [Held, go_sem, *]
            try omega
          have hB8 : Below w.heap.size w w8 := hB70.trans (K8.toBelow (by omega) (fun j hj => by have h2 := List.mem_singleton.1 hj; cases h2; omega))
          have HK8 := Lib.hid hk8
          clear K8 F9b OT9b HK5b hc3 hH2
          go_wp2_with fail
          rw [← hw8]
          clear hw8 hk5b
          go_roundw
          case rel => exact ⟨j + 1, .slice ap9 kp9 cp9, hlt3, by go_num, HK8.out, Y0.out, Y1.out, hB8⟩
          case measure => simp [intOf]; omega
        · have d2 : decide ((j : Int) < (K : Int)) = false := decide_eq_false (by omega)
          have e8 : (ks.take k).flatMap (pickR lk n ks) ++ (ks.take j).map (fun q => lk.getD (i * n + q) 0) = (ks.take (k + 1)).flatMap (pickR lk n ks) := by
            rw [show j = ks.length from by have h9 := HKE.out; omega, pickR_all, pickK_snoc lk ks n hlt2.out, hi9.out]
          have e7 : k * K + j = (k + 1) * K := by rw [Nat.succ_mul]; omega
          have h9 := OA3.out
          rw [e8, e7] at h9
          have H9 := Lib.hid h9
          clear h9 e7 e8 OA3
          go_wp2_with fail
          go_roundw
          case rel => exact ⟨k + 1, _, _, hlt, by go_num, HH2.out, OA2.out, H9.out, hBr2⟩
          case measure => simp [intOf]; omega
    · have d1 : decide ((k : Int) < (K : Int)) = false := decide_eq_false (by omega)
      have e6 : k = K := by omega
      have e5 : K = ks.length := HKE.out
      have h8 := OA0.out
      have h9 := OA1.out
      rw [e6] at h8 h9
      rw [e5, List.take_length] at h8 h9
      rw [← e5] at h8 h9
      have H8 := Lib.hid h8
      have H9 := Lib.hid h9
      clear h8 h9 e6 e5
      go_wp2_with fail
      refine bodyPost_ret (v := ?_) (by first | (simp [results, Try.results70, go_sem, *]; rfl) | (simp [results, Try.results70, go_sem, *]; done)) rfl ?_
      refine ⟨_, _, rfl, ?_, ?_, ?_⟩
      · refine ownsRow_base (base := w.heap.size + 1 + 1) (by omega) ?_
        have := H8.out
        (repeat (first | (with_reducible refine World.ownsRow.alloc ?_ _) | (with_reducible refine ownsRow_drewN ?_ _) | ((with_reducible refine ownsRow_setCell_below ?_ ?_ _); rotate_left; focus (first | omega | (simp; done) | (simp; omega)))))
        exact this
      · refine ownsRow_base (base := w.heap.size + 1 + 1) (by omega) ?_
        have := H9.out
        (repeat (first | (with_reducible refine World.ownsRow.alloc ?_ _) | (with_reducible refine ownsRow_drewN ?_ _) | ((with_reducible refine ownsRow_setCell_below ?_ ?_ _); rotate_left; focus (first | omega | (simp; done) | (simp; omega)))))
        exact this
      · (repeat (first | assumption | (with_reducible exact Below.refl _ _) | (with_reducible refine Below.drewN ?_ _) | (with_reducible refine Below.drew ?_) | (with_reducible refine Below.allocS ?_ _) | ((with_reducible refine Below.setCell ?_ ?_ _); rotate_left; focus (first | omega | (simp; done) | (simp; omega))) | (with_reducible refine Below.step ?_ (by assumption))))

set_option maxRecDepth 100000 in
set_option maxHeartbeats 8000000 in
theorem ordered_any (v v' u : Value) (n m : Nat) (l lk ks : List Nat) (p : Nat) (w : World) (h : RowAt w v 2 n (fl l)) (h' : RowAt w v' 1 m (fl lk)) (hu : RowAt w u 1 ks.length (idx ks)) (hp : Held [(⟨p, 0, none⟩, v), (⟨p, 1, none⟩, v')] w) (hks : ∀ k ∈ ks, k < n) (hK : ks.length ≤ 12) (hn0 : 0 < n) (hn : n ≤ 12) (hm : m = n * n) : Calls Try.prog 72 #[.pointer (some ⟨p, 0, none⟩), u] w (NewC ks.length (pickL l ks) (ks.length * ks.length) (pickK lk n ks) w) := by
  have hm0 : ¬ m = 0 := by have := Nat.mul_pos hn0 hn0; omega
  obtain ⟨K, hKe⟩ : ∃ K, K = ks.length := ⟨_, rfl⟩
  rw [← hKe] at hu hK ⊢
  have HH0 := Lib.hid h
  obtain ⟨h1, h2, ao, cap, rfl, h3⟩ := h
  obtain ⟨b, o, rfl, hbl, hcell⟩ := h3.resolve_left (by omega)
  obtain ⟨g1, g2, ao', cap', rfl, g3⟩ := h'
  obtain ⟨b', o', rfl, hbl', hcell'⟩ := g3.resolve_left hm0
  obtain ⟨k1, k2, ao'', cap'', rfl, k3⟩ := hu
  rw [fl_length] at h1 g1
  have HC := Lib.hid hcell
  have HC' := Lib.hid hcell'
  have HU := Lib.hid k3
  have HL : Hid (l.length = n * 2) := h1
  have HL' : Hid (lk.length = m) := by show _ = _; omega
  have HM : Hid (m = n * n) := hm
  have HKE : Hid (K = ks.length) := hKe
  have hp9 := hp.1.1
  dsimp only at hp9
  have HP := Lib.hid hp
  have HKS := Lib.hid hks
  simp only [Held, and_true] at hp
  obtain ⟨i0, hi⟩ := info_parts info_Clock
  obtain ⟨i1, hjF⟩ := info_parts info_Float32
  clear hcell hcell' h3 g3 k3 k1 h1 g1 hm hKe hks
  go_enter Try.func72, Try.ntmps72
  go_wp2_with fail
  go_loopw [13] (fun jv wr => ∃ (k : Nat) (a0 a1 : Value), k ≤ K ∧ jv = .int .i64 (k : Int) ∧ Held [(⟨w.heap.size + 1, 0, none⟩, a0), (⟨w.heap.size + 1, 1, none⟩, a1), (⟨w.heap.size, 0, none⟩, .slice none 0 0), (⟨w.heap.size, 1, none⟩, .slice none 0 0)] wr ∧ wr.ownsRow (w.heap.size + 1 + 1) 66 2 a0 k (fl (pickL l (ks.take k))) ∧ wr.ownsRow (w.heap.size + 1 + 1) 22 1 a1 (k * K) (fl ((ks.take k).flatMap (pickR lk n ks))) ∧ Below w.heap.size w wr) (fun jv _ => K - (intOf jv).toNat)
  case atStart => exact ⟨0, .slice none 0 0, .slice none 0 0, Nat.zero_le _, rfl, by simp [Held, go_sem], ownsRow_nil', by rw [Nat.zero_mul]; exact ownsRow_nil', by (repeat (first | assumption | (with_reducible exact Below.refl _ _) | (with_reducible refine Below.drewN ?_ _) | (with_reducible refine Below.drew ?_) | (with_reducible refine Below.allocS ?_ _) | ((with_reducible refine Below.setCell ?_ ?_ _); rotate_left; focus (first | omega | (simp; done) | (simp; omega))) | (with_reducible refine Below.step ?_ (by assumption))))⟩
  case round =>
    obtain ⟨k, a0, a1, hk, rfl, hH, o0, o1, hBr⟩ := hrel
    have OA0 := Lib.hid o0
    have OA1 := Lib.hid o1
    have HH := Lib.hid hH
    have hzr := hBr.size
    obtain ⟨c0, s0, t0, rfl⟩ := ownsRow_shape o0
    obtain ⟨c1, s1, t1, rfl⟩ := ownsRow_shape o1
    simp only [Held, and_true] at hH
    clear o0 o1
    by_cases hlt : k < K
    · have d1 : decide ((k : Int) < (K : Int)) = true := decide_eq_true (by omega)
      have hlt2 : Hid (k < ks.length) := by show _ < _; rw [← HKE.out]; exact hlt
      obtain ⟨ob, oo, e9, hobl, hocell⟩ := HU.out.resolve_left (by omega)
      subst e9
      obtain ⟨i, hi9⟩ : ∃ i, Hid (ks.getD k 0 = i) := ⟨_, rfl⟩
      have hin : i < n := by rw [← hi9.out]; exact HKS.out _ (getD_mem ks hlt2.out)
      have q1 := hocell k (.int .i64 (i : Int)) (by rw [← hi9.out]; exact idx_get ks hlt2.out)
      have HOC := Lib.hid hocell
      obtain ⟨x0, hx0⟩ : ∃ x, Hid (l.getD (i * 2) 0 = x) := ⟨_, rfl⟩
      obtain ⟨x1, hx1⟩ : ∃ x, Hid (l.getD (i * 2 + 1) 0 = x) := ⟨_, rfl⟩
      have f0 := HC.out (i * 2) (.float .f32 x0) (by rw [← hx0.out]; exact fl_get (by rw [HL.out]; omega))
      have f1 := HC.out (i * 2 + 1) (.float .f32 x1) (by rw [← hx1.out]; exact fl_get (by rw [HL.out]; omega))
      simp only [← Nat.add_assoc] at f1
      have hc := Held.below hBr (l := [(⟨p, 0, none⟩, .slice (some ⟨b, o, none⟩) n cap), (⟨p, 1, none⟩, .slice (some ⟨b', o', none⟩) m cap'), (⟨ob, oo + k, none⟩, .int .i64 (i : Int)), (⟨b, o + i * 2, none⟩, .float .f32 x0), (⟨b, o + i * 2 + 1, none⟩, .float .f32 x1)]) ⟨HP.out.1, HP.out.2.1, ⟨hobl, q1⟩, ⟨hbl, f0⟩, ⟨hbl, f1⟩, trivial⟩
      have HCE := Lib.hid hc
      simp only [Held, and_true] at hc
      clear q1 f0 f1 hocell
      go_wp2_with fail
      have hDD : ∀ w8 w9, (fun w9 => (Held [(⟨w.heap.size + 1, 0, none⟩, .slice c0 s0 t0), (⟨w.heap.size + 1, 1, none⟩, .slice c1 s1 t1), (⟨w.heap.size, 0, none⟩, .slice none 0 0), (⟨w.heap.size, 1, none⟩, .slice none 0 0), (⟨p, 0, none⟩, .slice (some ⟨b, o, none⟩) n cap), (⟨p, 1, none⟩, .slice (some ⟨b', o', none⟩) m cap'), (⟨ob, oo + k, none⟩, .int .i64 (i : Int)), (⟨b, o + i * 2, none⟩, .float .f32 x0), (⟨b, o + i * 2 + 1, none⟩, .float .f32 x1)] w9 ∧ Below (w.heap.size + 1 + 1) wr w9) ∧ w9.ownsRow (w.heap.size + 1 + 1) 66 2 (.slice c0 s0 t0) (k) (fl (pickL l (ks.take k))) ∧ w9.ownsRow (w.heap.size + 1 + 1) 22 1 (.slice c1 s1 t1) (k * K) (fl ((ks.take k).flatMap (pickR lk n ks)))) w8 → Below w8.heap.size w8 w9 → (fun w9 => (Held [(⟨w.heap.size + 1, 0, none⟩, .slice c0 s0 t0), (⟨w.heap.size + 1, 1, none⟩, .slice c1 s1 t1), (⟨w.heap.size, 0, none⟩, .slice none 0 0), (⟨w.heap.size, 1, none⟩, .slice none 0 0), (⟨p, 0, none⟩, .slice (some ⟨b, o, none⟩) n cap), (⟨p, 1, none⟩, .slice (some ⟨b', o', none⟩) m cap'), (⟨ob, oo + k, none⟩, .int .i64 (i : Int)), (⟨b, o + i * 2, none⟩, .float .f32 x0), (⟨b, o + i * 2 + 1, none⟩, .float .f32 x1)] w9 ∧ Below (w.heap.size + 1 + 1) wr w9) ∧ w9.ownsRow (w.heap.size + 1 + 1) 66 2 (.slice c0 s0 t0) (k) (fl (pickL l (ks.take k))) ∧ w9.ownsRow (w.heap.size + 1 + 1) 22 1 (.slice c1 s1 t1) (k * K) (fl ((ks.take k).flatMap (pickR lk n ks)))) w9 := fun w8 w9 h8 hb8 => ⟨⟨Held.below hb8 h8.1.1, h8.1.2.trans (hb8.mono (by have := h8.1.2.size; omega))⟩, ownsRow_below h8.2.1 hb8, ownsRow_below h8.2.2 hb8⟩
      have hst : stableV [(9, 26, (fun v w9 => ∃ b9, v = Value.slice (some ⟨b9, 0, none⟩) 1 1 ∧ wr.heap.size ≤ b9 ∧ Held [(⟨b9, 0, none⟩, .float .f32 x0), (⟨b9, 1, none⟩, .float .f32 x1)] w9)), (10, 27, (fun v w9 => w9.ownsRow (w.heap.size + 1 + 1) 66 2 v (k + 1) (fl (pickL l (ks.take (k + 1))))))] := by
        intro q hq
        rcases List.mem_cons.1 hq with rfl | hq
        · intro v w8 w9 hb8 hh
          obtain ⟨b9, e9, g9, h9⟩ := hh
          exact ⟨b9, e9, g9, Held.below hb8 h9⟩
        obtain rfl := List.mem_singleton.1 hq
        intro v w8 w9 hb8 hh
        exact ownsRow_below hh hb8
      refine region_calmD_tail 12 (fun w9 => (Held [(⟨w.heap.size + 1, 0, none⟩, .slice c0 s0 t0), (⟨w.heap.size + 1, 1, none⟩, .slice c1 s1 t1), (⟨w.heap.size, 0, none⟩, .slice none 0 0), (⟨w.heap.size, 1, none⟩, .slice none 0 0), (⟨p, 0, none⟩, .slice (some ⟨b, o, none⟩) n cap), (⟨p, 1, none⟩, .slice (some ⟨b', o', none⟩) m cap'), (⟨ob, oo + k, none⟩, .int .i64 (i : Int)), (⟨b, o + i * 2, none⟩, .float .f32 x0), (⟨b, o + i * 2 + 1, none⟩, .float .f32 x1)] w9 ∧ Below (w.heap.size + 1 + 1) wr w9) ∧ w9.ownsRow (w.heap.size + 1 + 1) 66 2 (.slice c0 s0 t0) (k) (fl (pickL l (ks.take k))) ∧ w9.ownsRow (w.heap.size + 1 + 1) 22 1 (.slice c1 s1 t1) (k * K) (fl ((ks.take k).flatMap (pickR lk n ks)))) (fun _ _ _ => False) [(9, 26, (fun v w9 => ∃ b9, v = Value.slice (some ⟨b9, 0, none⟩) 1 1 ∧ wr.heap.size ≤ b9 ∧ Held [(⟨b9, 0, none⟩, .float .f32 x0), (⟨b9, 1, none⟩, .float .f32 x1)] w9)), (10, 27, (fun v w9 => w9.ownsRow (w.heap.size + 1 + 1) 66 2 v (k + 1) (fl (pickL l (ks.take (k + 1))))))] (by kernel_rfl) (by kernel_rfl) (by kernel_rfl) ⟨⟨by simp [Held, go_sem, *], (Below.refl _ _).drew⟩, OA0.out, OA1.out⟩ ?_
      simp only [List.take_succ_cons, List.take_zero, List.drop_succ_cons, List.drop_zero]
      repeat (first | (first | (refine calmD_plain hst hDD rfl rfl ?_ (fun K hK w1 hC => ?_); (focus (intro _ _; simp [RVF]; done)); have hC' := hC.1.1; simp only [Held, and_true] at hC'; go_wp2_with (first | (refine wpList_fbin rfl rfl rfl rfl rfl (fun r n9 hr => ?_)) | (refine wpList_widen rfl rfl Try.underlying44 Try.underlying22 rfl (fun r n9 hr => ?_))); refine ⟨rfl, (by first | exact Below.refl _ _ | exact below_drewN _), hK _ ?_⟩; clear hC hC' hK K w1) | (refine calmD_check rfl rfl rfl ?_ ?_; (focus (intro _ _; simp [RVF]; done)))))
      refine calmD_op (Tv := fun v => ∃ b9, v = .slice (some ⟨b9, 0, none⟩) 1 1) hst hDD rfl (fun w1 hC => ⟨.slice (some ⟨w1.heap.size, 0, none⟩) 1 1, w1.alloc (.cells #[.float .f32 x0, .float .f32 x1] 66), ?_, ⟨_, rfl⟩, ?_, ?_⟩) ?_
      · simp [execOp, go_sem]
      · refine ⟨fun _ => ⟨w1.heap.size, ?_, hC.1.2.size, ?_⟩, fun e9 => by simp at e9, trivial⟩
        · first | rfl | simp [Act.put, Act.eval]
        · simp [Held, go_sem]
      · exact Below.allocS (Below.refl _ _) _
      rintro v ⟨b9, rfl⟩
      refine calmD_turn (Tv := fun v => ∃ ao9 k9 c9, v = .slice ao9 k9 c9) rfl (fun w1 hC hDp => ?_) ?_
      · obtain ⟨b8, e8, g8, h8⟩ := RVF_get (depD hDp (ia := 9) (by kernel_rfl)) List.mem_cons_self
        have hbe : b9 = b8 := by simpa [Act.put, Act.eval] using e8
        subst hbe
        have hmn := ownsRow_lt OA0.out
        obtain ⟨v9, w9, hr9, ho9, hg9, hold9⟩ := append_old (P := Try.prog) w1 (w.heap.size + 1 + 1) 23 23 66 i0 (.agg #[.float .f32 0, .float .f32 0]) 2 8 Try.underlying23 hi.1 hi.2.1 hi.2.2.1 hi.2.2.2 rfl (by decide) (.slice c0 s0 t0) (k) (fl (pickL l (ks.take k))) hC.2.1 ⟨b9, 0, none⟩ 1 1 [.float .f32 x0, .float .f32 x1] rfl (by intro jj u hjj; (match jj, hjj with | 0, hjj => (simp at hjj; subst hjj; exact h8.1.2.1) | 1, hjj => (simp at hjj; subst hjj; exact h8.2.1.2.1))) (by intro u hu; simp at hu; first | (rcases hu with rfl | rfl <;> rfl) | (subst hu; rfl)) (by simp only [maxLen]; omega) (by omega) (by have := hC.1.2.size; omega)
        obtain ⟨ao9, k9, c9, hsh⟩ := ownsRow_shape ho9
        have hK9 := Kept.of_grown hg9
        have hoth := ownsRow_kept hC.2.2 hK9 (fun j hj hm => ownsRow_ne hC.2.1 hC.2.2 tc_ne j (List.mem_singleton.1 hm).symm hj)
        have hB9 : Below (w.heap.size + 1 + 1) wr w9 := hC.1.2.grown hg9 (by have := hC.1.2.size; omega) (fun j hj => (ownsRow_lt hC.2.1 j hj).1)
        refine ⟨v9, w9, run_op_append rfl rfl rfl hr9, ⟨ao9, k9, c9, hsh⟩, ⟨⟨?_, hB9⟩, hold9, hoth⟩, ?_, ?_⟩
        · refine Held_kept1 hK9 ?_ hC.1.1
          intro q hq e9
          have h7 := (ownsRow_lt hC.2.1 _ e9).1
          simp only [List.mem_cons, List.not_mem_nil, or_false] at hq
          rcases hq with rfl | rfl | rfl | rfl | rfl | rfl | rfl | rfl | rfl <;> (dsimp only at h7; omega)
        · refine ⟨fun e9 => by simp at e9, fun _ => ?_, trivial⟩
          have h9 := ho9
          rw [pickL_snoc l ks hlt2.out, hi9.out, hx0.out, hx1.out, fl_append]
          first | exact h9 | (simp [Act.put, Act.eval]; exact h9)
        · intro j a' hj hR
          refine ⟨fun e9 => ?_, fun e9 => absurd e9.symm hj, trivial⟩
          obtain ⟨b7, e7, g7, h7⟩ := hR.1 e9
          refine ⟨b7, e7, g7, Held_kept1 hK9 ?_ h7⟩
          intro q hq e6
          have h6 := (hmn _ e6).2
          simp only [List.mem_cons, List.not_mem_nil, or_false] at hq
          rcases hq with rfl | rfl <;> (dsimp only at h6; omega)
      rintro v ⟨ao9, k9, c9, rfl⟩
      repeat (first | (refine calmD_plain hst hDD rfl rfl ?_ (fun K hK w1 hC => ?_); (focus (intro _ _; simp [RVF]; done)); have hC' := hC.1.1; simp only [Held, and_true] at hC'; go_wp2_with (first | (refine wpList_fbin rfl rfl rfl rfl rfl (fun r n9 hr => ?_)) | (refine wpList_widen rfl rfl Try.underlying44 Try.underlying22 rfl (fun r n9 hr => ?_))); refine ⟨rfl, (by first | exact Below.refl _ _ | exact below_drewN _), hK _ ?_⟩; clear hC hC' hK K w1) | (refine calmD_check rfl rfl rfl ?_ ?_; (focus (intro _ _; simp [RVF]; done))))
      refine calmD_nil ?_
      intro w5 hC hF
      have f9 := RVF_get (hF 10 (by decide)) (List.mem_cons_of_mem _ (List.mem_singleton.2 rfl))
      have F9 : Hid (w5.ownsRow (w.heap.size + 1 + 1) 66 2 (.slice ao9 k9 c9) (k + 1) (fl (pickL l (ks.take (k + 1))))) := by first | exact f9 | simpa [Act.put, Act.eval] using f9
      have OT9 := Lib.hid hC.2.2
      have hB5 : Below (w.heap.size + 1 + 1) wr w5 := hC.1.2
      have hk5 := hC.1.1
      have HK5 := Lib.hid hk5
      simp only [Held, and_true] at hk5
      clear hC hF f9 hst hDD
      obtain ⟨w6, hw6⟩ : ∃ w6, w6 = w5.setCell ⟨w.heap.size + 1, 0, none⟩ (.slice ao9 k9 c9) := ⟨_, rfl⟩
      have K6 : Kept w5 w6 [some (w.heap.size + 1)] := by rw [hw6]; exact kept_one _ _ _ _
      have Z0 : Hid (w6.ownsRow (w.heap.size + 1 + 1) 66 2 (.slice ao9 k9 c9) (k + 1) (fl (pickL l (ks.take (k + 1))))) := ownsRow_kept F9.out K6 (fun j hj hm => by have h1 := (ownsRow_lt F9.out j hj).1; have h2 := List.mem_singleton.1 hm; cases h2; omega)
      have Z1 : Hid (w6.ownsRow (w.heap.size + 1 + 1) 22 1 (.slice c1 s1 t1) (k * K) (fl ((ks.take k).flatMap (pickR lk n ks)))) := ownsRow_kept OT9.out K6 (fun j hj hm => by have h1 := (ownsRow_lt OT9.out j hj).1; have h2 := List.mem_singleton.1 hm; cases h2; omega)
      have hB50 : Below w.heap.size w w5 := hBr.trans (hB5.mono (by omega))
      have hz5 := hB5.size
      have hk6 : Held [(⟨w.heap.size + 1, 0, none⟩, .slice ao9 k9 c9), (⟨w.heap.size + 1, 1, none⟩, .slice c1 s1 t1), (⟨w.heap.size, 0, none⟩, .slice none 0 0), (⟨w.heap.size, 1, none⟩, .slice none 0 0)] w6 := by
        rw [hw6]
        simp [Held, go_sem, *]
        try omega
      have hB6 : Below w.heap.size w w6 := hB50.trans (K6.toBelow (by omega) (fun j hj => by have h2 := List.mem_singleton.1 hj; cases h2; omega))
      have HK6 := Lib.hid hk6
      clear K6 F9 OT9 HK5 hc hH
      go_wp2_with fail
      rw [← hw6]
      clear hw6 hk5
      simp only [Held, and_true] at hk6
      go_loopw [31] (fun jv wr2 => ∃ (j : Nat) (a2 : Value), j ≤ K ∧ jv = .int .i64 (j : Int) ∧ Held [(⟨w.heap.size + 1, 0, none⟩, .slice ao9 k9 c9), (⟨w.heap.size + 1, 1, none⟩, a2), (⟨w.heap.size, 0, none⟩, .slice none 0 0), (⟨w.heap.size, 1, none⟩, .slice none 0 0)] wr2 ∧ wr2.ownsRow (w.heap.size + 1 + 1) 66 2 (.slice ao9 k9 c9) (k + 1) (fl (pickL l (ks.take (k + 1)))) ∧ wr2.ownsRow (w.heap.size + 1 + 1) 22 1 a2 (k * K + j) (fl ((ks.take k).flatMap (pickR lk n ks) ++ (ks.take j).map (fun q => lk.getD (i * n + q) 0))) ∧ Below w.heap.size w wr2) (fun jv _ => K - (intOf jv).toNat)
      case atStart => exact ⟨0, .slice c1 s1 t1, Nat.zero_le _, rfl, HK6.out, Z0.out, by rw [List.take_zero, List.map_nil, List.append_nil]; exact Z1.out, hB6⟩
      case round =>
        obtain ⟨j, a2, hj, rfl, hH2, o2, o3, hBr2⟩ := hrel
        have OA2 := Lib.hid o2
        have OA3 := Lib.hid o3
        have HH2 := Lib.hid hH2
        have hzr2 := hBr2.size
        obtain ⟨c2, s2, t2, rfl⟩ := ownsRow_shape o3
        simp only [Held, and_true] at hH2
        clear o2 o3 hk6
        by_cases hlt3 : j < K
        · have d2 : decide ((j : Int) < (K : Int)) = true := decide_eq_true (by omega)
          have hlt4 : Hid (j < ks.length) := by show _ < _; rw [← HKE.out]; exact hlt3
          obtain ⟨i', hi'9⟩ : ∃ i', Hid (ks.getD j 0 = i') := ⟨_, rfl⟩
          have hin' : i' < n := by rw [← hi'9.out]; exact HKS.out _ (getD_mem ks hlt4.out)
          have q1 := HOC.out k (.int .i64 (i : Int)) (by rw [← hi9.out]; exact idx_get ks hlt2.out)
          have q2 := HOC.out j (.int .i64 (i' : Int)) (by rw [← hi'9.out]; exact idx_get ks hlt4.out)
          obtain ⟨q, hq0⟩ : ∃ q, q = i * n := ⟨_, rfl⟩
          have hqi : (i : Int) * (n : Int) = (q : Int) := by rw [hq0]; exact (Int.natCast_mul i n).symm
          have hqm : q + i' < m := by have h8 := sq_bound hin; have h9 := HM.out; omega
          have hm144 : m ≤ 144 := by have h8 := sq_small hn; have h9 := HM.out; omega
          have HQ : Hid (q = i * n) := hq0
          have hkK : k * K + j ≤ 1000 := by have h8 := sq_small hK; have h9 := Nat.mul_le_mul_right K (Nat.le_of_lt hlt); omega
          clear hq0
          obtain ⟨y, hy⟩ : ∃ x, Hid (lk.getD (q + i') 0 = x) := ⟨_, rfl⟩
          have f2 := HC'.out (q + i') (.float .f32 y) (by rw [← hy.out]; exact fl_get (by rw [HL'.out]; omega))
          have hc3 := Held.below hBr2 (l := [(⟨p, 0, none⟩, .slice (some ⟨b, o, none⟩) n cap), (⟨p, 1, none⟩, .slice (some ⟨b', o', none⟩) m cap'), (⟨ob, oo + k, none⟩, .int .i64 (i : Int)), (⟨ob, oo + j, none⟩, .int .i64 (i' : Int)), (⟨b', o' + (q + i'), none⟩, .float .f32 y)]) ⟨HP.out.1, HP.out.2.1, ⟨hobl, q1⟩, ⟨hobl, q2⟩, ⟨hbl', f2⟩, trivial⟩
          simp only [Held, and_true] at hc3
          clear q1 q2 f2
          go_wp2_with fail
          have hDD : ∀ w8 w9, (fun w9 => (Held [(⟨w.heap.size + 1, 0, none⟩, .slice ao9 k9 c9), (⟨w.heap.size + 1, 1, none⟩, .slice c2 s2 t2), (⟨w.heap.size, 0, none⟩, .slice none 0 0), (⟨w.heap.size, 1, none⟩, .slice none 0 0), (⟨p, 0, none⟩, .slice (some ⟨b, o, none⟩) n cap), (⟨p, 1, none⟩, .slice (some ⟨b', o', none⟩) m cap'), (⟨ob, oo + k, none⟩, .int .i64 (i : Int)), (⟨ob, oo + j, none⟩, .int .i64 (i' : Int)), (⟨b', o' + (q + i'), none⟩, .float .f32 y)] w9 ∧ Below (w.heap.size + 1 + 1) wr w9) ∧ w9.ownsRow (w.heap.size + 1 + 1) 66 2 (.slice ao9 k9 c9) (k + 1) (fl (pickL l (ks.take (k + 1)))) ∧ w9.ownsRow (w.heap.size + 1 + 1) 22 1 (.slice c2 s2 t2) (k * K + j) (fl ((ks.take k).flatMap (pickR lk n ks) ++ (ks.take j).map (fun q => lk.getD (i * n + q) 0)))) w8 → Below w8.heap.size w8 w9 → (fun w9 => (Held [(⟨w.heap.size + 1, 0, none⟩, .slice ao9 k9 c9), (⟨w.heap.size + 1, 1, none⟩, .slice c2 s2 t2), (⟨w.heap.size, 0, none⟩, .slice none 0 0), (⟨w.heap.size, 1, none⟩, .slice none 0 0), (⟨p, 0, none⟩, .slice (some ⟨b, o, none⟩) n cap), (⟨p, 1, none⟩, .slice (some ⟨b', o', none⟩) m cap'), (⟨ob, oo + k, none⟩, .int .i64 (i : Int)), (⟨ob, oo + j, none⟩, .int .i64 (i' : Int)), (⟨b', o' + (q + i'), none⟩, .float .f32 y)] w9 ∧ Below (w.heap.size + 1 + 1) wr w9) ∧ w9.ownsRow (w.heap.size + 1 + 1) 66 2 (.slice ao9 k9 c9) (k + 1) (fl (pickL l (ks.take (k + 1)))) ∧ w9.ownsRow (w.heap.size + 1 + 1) 22 1 (.slice c2 s2 t2) (k * K + j) (fl ((ks.take k).flatMap (pickR lk n ks) ++ (ks.take j).map (fun q => lk.getD (i * n + q) 0)))) w9 := fun w8 w9 h8 hb8 => ⟨⟨Held.below hb8 h8.1.1, h8.1.2.trans (hb8.mono (by have := h8.1.2.size; omega))⟩, ownsRow_below h8.2.1 hb8, ownsRow_below h8.2.2 hb8⟩
          have hst : stableV [(14, 49, (fun v w9 => ∃ b9, v = Value.slice (some ⟨b9, 0, none⟩) 1 1 ∧ wr.heap.size ≤ b9 ∧ Held [(⟨b9, 0, none⟩, .float .f32 y)] w9)), (15, 50, (fun v w9 => w9.ownsRow (w.heap.size + 1 + 1) 22 1 v (k * K + j + 1) (fl ((ks.take k).flatMap (pickR lk n ks) ++ (ks.take (j + 1)).map (fun q => lk.getD (i * n + q) 0)))))] := by
            intro q hq
            rcases List.mem_cons.1 hq with rfl | hq
            · intro v w8 w9 hb8 hh
              obtain ⟨b9, e9, g9, h9⟩ := hh
              exact ⟨b9, e9, g9, Held.below hb8 h9⟩
            obtain rfl := List.mem_singleton.1 hq
            intro v w8 w9 hb8 hh
            exact ownsRow_below hh hb8
          refine region_calmD_tail 17 (fun w9 => (Held [(⟨w.heap.size + 1, 0, none⟩, .slice ao9 k9 c9), (⟨w.heap.size + 1, 1, none⟩, .slice c2 s2 t2), (⟨w.heap.size, 0, none⟩, .slice none 0 0), (⟨w.heap.size, 1, none⟩, .slice none 0 0), (⟨p, 0, none⟩, .slice (some ⟨b, o, none⟩) n cap), (⟨p, 1, none⟩, .slice (some ⟨b', o', none⟩) m cap'), (⟨ob, oo + k, none⟩, .int .i64 (i : Int)), (⟨ob, oo + j, none⟩, .int .i64 (i' : Int)), (⟨b', o' + (q + i'), none⟩, .float .f32 y)] w9 ∧ Below (w.heap.size + 1 + 1) wr w9) ∧ w9.ownsRow (w.heap.size + 1 + 1) 66 2 (.slice ao9 k9 c9) (k + 1) (fl (pickL l (ks.take (k + 1)))) ∧ w9.ownsRow (w.heap.size + 1 + 1) 22 1 (.slice c2 s2 t2) (k * K + j) (fl ((ks.take k).flatMap (pickR lk n ks) ++ (ks.take j).map (fun q => lk.getD (i * n + q) 0)))) (fun _ _ v => v = .int .i64 (n : Int)) [(14, 49, (fun v w9 => ∃ b9, v = Value.slice (some ⟨b9, 0, none⟩) 1 1 ∧ wr.heap.size ≤ b9 ∧ Held [(⟨b9, 0, none⟩, .float .f32 y)] w9)), (15, 50, (fun v w9 => w9.ownsRow (w.heap.size + 1 + 1) 22 1 v (k * K + j + 1) (fl ((ks.take k).flatMap (pickR lk n ks) ++ (ks.take (j + 1)).map (fun q => lk.getD (i * n + q) 0)))))] (by kernel_rfl) (by kernel_rfl) (by kernel_rfl) ⟨⟨by simp [Held, go_sem, *], (Below.refl _ _).drew⟩, OA2.out, OA3.out⟩ ?_
          simp only [List.take_succ_cons, List.take_zero, List.drop_succ_cons, List.drop_zero]
          repeat (first | (first | (refine calmD_plain hst hDD rfl rfl ?_ (fun K hK w1 hC => ?_); (focus (intro _ _; simp [RVF]; done)); have hC' := hC.1.1; simp only [Held, and_true] at hC'; go_wp2_with (first | (refine wpList_fbin rfl rfl rfl rfl rfl (fun r n9 hr => ?_)) | (refine wpList_widen rfl rfl Try.underlying44 Try.underlying22 rfl (fun r n9 hr => ?_))); refine ⟨rfl, (by first | exact Below.refl _ _ | exact below_drewN _), hK _ ?_⟩; clear hC hC' hK K w1) | (refine calmD_check rfl rfl rfl ?_ ?_; (focus (intro _ _; simp [RVF]; done)))) | (refine calmD_call (f := 69) (args := _) hst hDD rfl (by (intro w1; simp [execOp, resolve, invoke, go_sem]; with_reducible rfl)) (fun w7 hC hDp => ?_) ?_; (focus (refine (many_any (.slice (some ⟨b, o, none⟩) n cap) (.slice (some ⟨b', o', none⟩) m cap') n m _ p _ (HH0.out.below (hBr2.trans (hC.1.2.mono (by omega)))) ⟨hC.1.1.2.2.2.2.1, hC.1.1.2.2.2.2.2.1, trivial⟩).mono ?_; rintro e w8 ⟨rfl, rfl⟩; exact ⟨_, rfl, rfl, (by simp [RVF]), Below.refl _ _⟩)); rintro v9 rfl))
          refine calmD_op (Tv := fun v => ∃ b9, v = .slice (some ⟨b9, 0, none⟩) 1 1) hst hDD rfl (fun w1 hC => ⟨.slice (some ⟨w1.heap.size, 0, none⟩) 1 1, w1.alloc (.cells #[.float .f32 y] 22), ?_, ⟨_, rfl⟩, ?_, ?_⟩) ?_
          · simp [execOp, go_sem]
          · refine ⟨fun _ => ⟨w1.heap.size, ?_, hC.1.2.size, ?_⟩, fun e9 => by simp at e9, trivial⟩
            · first | rfl | simp [Act.put, Act.eval]
            · simp [Held, go_sem]
          · exact Below.allocS (Below.refl _ _) _
          rintro v ⟨b9, rfl⟩
          refine calmD_turn (Tv := fun v => ∃ ap9 kp9 cp9, v = .slice ap9 kp9 cp9) rfl (fun w1 hC hDp => ?_) ?_
          · obtain ⟨b8, e8, g8, h8⟩ := RVF_get (depD hDp (ia := 14) (by kernel_rfl)) List.mem_cons_self
            have hbe : b9 = b8 := by simpa [Act.put, Act.eval] using e8
            subst hbe
            have hmn := ownsRow_lt OA3.out
            obtain ⟨v9, w9, hr9, ho9, hg9, hold9⟩ := append_old (P := Try.prog) w1 (w.heap.size + 1 + 1) 24 24 22 i1 (.float .f32 0) 1 4 Try.underlying24 hjF.1 hjF.2.1 hjF.2.2.1 hjF.2.2.2 rfl (by decide) (.slice c2 s2 t2) (k * K + j) (fl ((ks.take k).flatMap (pickR lk n ks) ++ (ks.take j).map (fun q => lk.getD (i * n + q) 0))) hC.2.2 ⟨b9, 0, none⟩ 1 1 [.float .f32 y] rfl (by intro jj u hjj; (match jj, hjj with | 0, hjj => (simp at hjj; subst hjj; exact h8.1.2.1))) (by intro u hu; simp at hu; first | (rcases hu with rfl | rfl <;> rfl) | (subst hu; rfl)) (by simp only [maxLen]; omega) (by omega) (by have := hC.1.2.size; omega)
            obtain ⟨ap9, kp9, cp9, hsh⟩ := ownsRow_shape ho9
            have hK9 := Kept.of_grown hg9
            have hoth := ownsRow_kept hC.2.1 hK9 (fun j hj hm => ownsRow_ne hC.2.1 hC.2.2 tc_ne j hj (List.mem_singleton.1 hm).symm)
            have hB9 : Below (w.heap.size + 1 + 1) wr w9 := hC.1.2.grown hg9 (by have := hC.1.2.size; omega) (fun j hj => (ownsRow_lt hC.2.2 j hj).1)
            refine ⟨v9, w9, run_op_append rfl rfl rfl hr9, ⟨ap9, kp9, cp9, hsh⟩, ⟨⟨?_, hB9⟩, hoth, hold9⟩, ?_, ?_⟩
            · refine Held_kept1 hK9 ?_ hC.1.1
              intro q hq e9
              have h7 := (ownsRow_lt hC.2.2 _ e9).1
              simp only [List.mem_cons, List.not_mem_nil, or_false] at hq
              rcases hq with rfl | rfl | rfl | rfl | rfl | rfl | rfl | rfl | rfl <;> (dsimp only at h7; omega)
            · refine ⟨fun e9 => by simp at e9, fun _ => ?_, trivial⟩
              have h9 := ho9
              rw [pickR_snoc lk ks n i hlt4.out, hi'9.out, ← HQ.out, hy.out, HQ.out, ← List.append_assoc, fl_append]
              first | exact h9 | (simp [Act.put, Act.eval]; exact h9)
            · intro j a' hj hR
              refine ⟨fun e9 => ?_, fun e9 => absurd e9.symm hj, trivial⟩
              obtain ⟨b7, e7, g7, h7⟩ := hR.1 e9
              refine ⟨b7, e7, g7, Held_kept1 hK9 ?_ h7⟩
              intro q hq e6
              have h6 := (hmn _ e6).2
              simp only [List.mem_cons, List.not_mem_nil, or_false] at hq
              rcases hq with rfl <;> (dsimp only at h6; omega)
          rintro v ⟨ap9, kp9, cp9, rfl⟩
          repeat (first | (refine calmD_plain hst hDD rfl rfl ?_ (fun K hK w1 hC => ?_); (focus (intro _ _; simp [RVF]; done)); have hC' := hC.1.1; simp only [Held, and_true] at hC'; go_wp2_with (first | (refine wpList_fbin rfl rfl rfl rfl rfl (fun r n9 hr => ?_)) | (refine wpList_widen rfl rfl Try.underlying44 Try.underlying22 rfl (fun r n9 hr => ?_))); refine ⟨rfl, (by first | exact Below.refl _ _ | exact below_drewN _), hK _ ?_⟩; clear hC hC' hK K w1) | (refine calmD_check rfl rfl rfl ?_ ?_; (focus (intro _ _; simp [RVF]; done))))
          refine calmD_nil ?_
          intro w7 hC hF
          have f9 := RVF_get (hF 15 (by decide)) (List.mem_cons_of_mem _ (List.mem_singleton.2 rfl))
          have F9b : Hid (w7.ownsRow (w.heap.size + 1 + 1) 22 1 (.slice ap9 kp9 cp9) (k * K + j + 1) (fl ((ks.take k).flatMap (pickR lk n ks) ++ (ks.take (j + 1)).map (fun q => lk.getD (i * n + q) 0)))) := by first | exact f9 | simpa [Act.put, Act.eval] using f9
          have OT9b := Lib.hid hC.2.1
          have hB5b : Below (w.heap.size + 1 + 1) wr w7 := hC.1.2
          have hk5b := hC.1.1
          have HK5b := Lib.hid hk5b
          simp only [Held, and_true] at hk5b
          clear hC hF f9 hst hDD
          obtain ⟨w8, hw8⟩ : ∃ w8, w8 = w7.setCell ⟨w.heap.size + 1, 1, none⟩ (.slice ap9 kp9 cp9) := ⟨_, rfl⟩
          have K8 : Kept w7 w8 [some (w.heap.size + 1)] := by rw [hw8]; exact kept_one _ _ _ _
          have Y0 : Hid (w8.ownsRow (w.heap.size + 1 + 1) 66 2 (.slice ao9 k9 c9) (k + 1) (fl (pickL l (ks.take (k + 1))))) := ownsRow_kept OT9b.out K8 (fun j hj hm => by have h1 := (ownsRow_lt OT9b.out j hj).1; have h2 := List.mem_singleton.1 hm; cases h2; omega)
          have Y1 : Hid (w8.ownsRow (w.heap.size + 1 + 1) 22 1 (.slice ap9 kp9 cp9) (k * K + j + 1) (fl ((ks.take k).flatMap (pickR lk n ks) ++ (ks.take (j + 1)).map (fun q => lk.getD (i * n + q) 0)))) := ownsRow_kept F9b.out K8 (fun j hj hm => by have h1 := (ownsRow_lt F9b.out j hj).1; have h2 := List.mem_singleton.1 hm; cases h2; omega)
          have hB70 : Below w.heap.size w w7 := hBr2.trans (hB5b.mono (by omega))
          have hz7 := hB70.size
          have hk8 : Held [(⟨w.heap.size + 1, 0, none⟩, .slice ao9 k9 c9), (⟨w.heap.size + 1, 1, none⟩, .slice ap9 kp9 cp9), (⟨w.heap.size, 0, none⟩, .slice none 0 0), (⟨w.heap.size, 1, none⟩, .slice none 0 0)] w8 := by
            rw [hw8]
            simp [Held, go_sem, *]
            try omega
          have hB8 : Below w.heap.size w w8 := hB70.trans (K8.toBelow (by omega) (fun j hj => by have h2 := List.mem_singleton.1 hj; cases h2; omega))
          have HK8 := Lib.hid hk8
          clear K8 F9b OT9b HK5b hc3 hH2
          go_wp2_with fail
          rw [← hw8]
          clear hw8 hk5b
          go_roundw
          case rel => exact ⟨j + 1, .slice ap9 kp9 cp9, hlt3, by go_num, HK8.out, Y0.out, Y1.out, hB8⟩
          case measure => simp [intOf]; omega
        · have d2 : decide ((j : Int) < (K : Int)) = false := decide_eq_false (by omega)
          have e8 : (ks.take k).flatMap (pickR lk n ks) ++ (ks.take j).map (fun q => lk.getD (i * n + q) 0) = (ks.take (k + 1)).flatMap (pickR lk n ks) := by
            rw [show j = ks.length from by have h9 := HKE.out; omega, pickR_all, pickK_snoc lk ks n hlt2.out, hi9.out]
          have e7 : k * K + j = (k + 1) * K := by rw [Nat.succ_mul]; omega
          have h9 := OA3.out
          rw [e8, e7] at h9
          have H9 := Lib.hid h9
          clear h9 e7 e8 OA3
          go_wp2_with fail
          go_roundw
          case rel => exact ⟨k + 1, _, _, hlt, by go_num, HH2.out, OA2.out, H9.out, hBr2⟩
          case measure => simp [intOf]; omega
    · have d1 : decide ((k : Int) < (K : Int)) = false := decide_eq_false (by omega)
      have e6 : k = K := by omega
      have e5 : K = ks.length := HKE.out
      have h8 := OA0.out
      have h9 := OA1.out
      rw [e6] at h8 h9
      rw [e5, List.take_length] at h8 h9
      rw [← e5] at h8 h9
      have H8 := Lib.hid h8
      have H9 := Lib.hid h9
      clear h8 h9 e6 e5
      go_wp2_with fail
      refine bodyPost_ret (v := ?_) (by first | (simp [results, Try.results72, go_sem, *]; rfl) | (simp [results, Try.results72, go_sem, *]; done)) rfl ?_
      refine ⟨_, _, rfl, ?_, ?_, ?_⟩
      · refine ownsRow_base (base := w.heap.size + 1 + 1) (by omega) ?_
        have := H8.out
        (repeat (first | (with_reducible refine World.ownsRow.alloc ?_ _) | (with_reducible refine ownsRow_drewN ?_ _) | ((with_reducible refine ownsRow_setCell_below ?_ ?_ _); rotate_left; focus (first | omega | (simp; done) | (simp; omega)))))
        exact this
      · refine ownsRow_base (base := w.heap.size + 1 + 1) (by omega) ?_
        have := H9.out
        (repeat (first | (with_reducible refine World.ownsRow.alloc ?_ _) | (with_reducible refine ownsRow_drewN ?_ _) | ((with_reducible refine ownsRow_setCell_below ?_ ?_ _); rotate_left; focus (first | omega | (simp; done) | (simp; omega)))))
        exact this
      · (repeat (first | assumption | (with_reducible exact Below.refl _ _) | (with_reducible refine Below.drewN ?_ _) | (with_reducible refine Below.drew ?_) | (with_reducible refine Below.allocS ?_ _) | ((with_reducible refine Below.setCell ?_ ?_ _); rotate_left; focus (first | omega | (simp; done) | (simp; omega))) | (with_reducible refine Below.step ?_ (by assumption))))

end Go.Proofs.Ytifdcoambehekaa
