/-
  The walks of copies of clocks, and of clocks that are changed.
-/
import Derived.Test.YtbmabpnolheghaaTd
import Derived.Lib.SliceRun
set_option linter.unusedVariables false
set_option linter.unusedSimpArgs false
namespace Go.Proofs.Ytbmabpnolheghaa
open Go.RowKit

theorem fl_one (l : List Nat) : ∀ u ∈ fl l, u.oneCell' = true := by
  intro u hu
  obtain ⟨x, _, rfl⟩ := List.mem_map.1 hu
  rfl
theorem fl_set (l : List Nat) (j x : Nat) : (fl l).set j (.float .f32 x) = fl (l.set j x) := by unfold fl; rw [List.map_set]
theorem ownsRow_shape {w : World} {base : Nat} {e : TypeId} {c n : Nat} {v : Value} {xs : List Value} (h : w.ownsRow base e c v n xs) : ∃ ao k d, v = .slice ao k d := by
  obtain ⟨_, h2⟩ := h
  rcases h2 with ⟨rfl, _⟩ | ⟨g, cap, cur, rfl, _⟩
  · exact ⟨_, _, _, rfl⟩
  · exact ⟨_, _, _, rfl⟩
theorem ownsRow_own {w : World} {base : Nat} {e : TypeId} {c n : Nat} {v : Value} {xs : List Value} (h : w.ownsRow base e c v n xs) (hn : 0 < n) : ∃ g cap, v = .slice (some ⟨g, 0, none⟩) n cap := by
  obtain ⟨_, h2⟩ := h
  rcases h2 with ⟨_, h0⟩ | ⟨g, cap, cur, rfl, _⟩
  · omega
  · exact ⟨_, _, rfl⟩
theorem ownsRow_ne {w : World} {base base' : Nat} {e e' : TypeId} {c c' n n' : Nat} {v v' : Value} {xs xs' : List Value} (h : w.ownsRow base e c v n xs) (h' : w.ownsRow base' e' c' v' n' xs') (hne : e ≠ e') : ∀ i, v.ownBlock = some i → v'.ownBlock ≠ some i := by
  obtain ⟨_, h2⟩ := h
  obtain ⟨_, k2⟩ := h'
  intro i hi hj
  rcases h2 with ⟨rfl, _⟩ | ⟨g, cap, cur, rfl, _, h3, _⟩
  · cases hi
  rcases k2 with ⟨rfl, _⟩ | ⟨g', cap', cur', rfl, _, k3, _⟩
  · cases hj
  cases hi
  cases hj
  rw [h3] at k3
  cases k3
  exact hne rfl
/-- An empty slice with elements laid behind it: new memory. -/
theorem run_append_fresh {P : Program} (w : World) (t ty e : TypeId) (i : TypeInfo) (z : Value) (size bytes : Nat) (ht : P.underlying t = some (.slice e)) (hi : P.info? e = some i) (hz : i.zero = some z)
    (hsize : i.size = size) (hby : i.bytes = bytes) (hzs : z.cells.size = size) (g : Nat) (ad : Addr) (m c : Nat) (news : List Value) (hl : news.length = m * size) (hnews : ∀ j u, news[j]? = some u → w.cell? (ad.add j) = some u) (hm0 : 0 < m) (h63 : m ≤ maxLen) (hbytes : m * bytes ≤ 140737488355328) :
    ∃ v' w', (Builtin.append_ #[t, t] ty #[.slice (some ⟨g, 0, none⟩) 0 0, .slice (some ad) m c]).run P w = .ok v' w' ∧ w'.ownsRow w.heap.size e size v' m news ∧ Below w.heap.size w w' := by
  subst hsize
  subst hby
  have hsmall : m ≤ 9223372036854775807 := by simp only [maxLen] at h63; omega
  have hr := run_append_grow (P := P) w t ty e i z ht hi hz ⟨g, 0, none⟩ 0 0 [] (by simp) (by intro j v hj; simp at hj) ad m c news hl hnews (by omega) (by omega) (growslice_fits (by omega) (by rw [Nat.zero_add]; exact hbytes))
  rw [Nat.zero_add] at hr
  have hge := grownCap_ge w m 0 e
  refine ⟨_, _, hr, ⟨hl, .inr ⟨w.heap.size, _, _, rfl, Nat.le_refl _, by first | exact heap_alloc_new w.drew _ | (have := heap_alloc_new w.drew (Obj.cells ([].toArray ++ news.toArray ++ Builtin.zeroCells z.cells (grownCap w m 0 e - m)) e); exact this), hge, grownCap_le_maxLen w m 0 e h63, ?_, ?_⟩⟩, (Below.refl _ w).drew.alloc (Nat.le_refl _) _⟩
  · simp only [Array.size_append, List.size_toArray, size_zeroCells, hzs, hl, List.length_nil, Nat.zero_add, ← Nat.add_mul]
    congr 1
    omega
  · simp only [Array.toList_append, List.append_assoc, List.nil_append]
    rw [← hl]
    exact List.take_left

theorem run_op_append {P : Program} {o : Oper} {a : Act} {w w' : World} {t : TypeId} {s x : Operand} {v u r : Value} (ho : o.op = .call { callee := .builtin .append, args := #[s, x], argTypes := #[t, t] }) (hs : a.eval s = v) (hx : a.eval x = u) (hr : (Builtin.append_ #[t, t] o.type #[v, u]).run P w = .ok r w') : (execOp a.eval o).run P w = .ok (.value r) w' := by
  unfold execOp
  simp only [ho, resolve, invoke, builtin, Sem.run_bind, Sem.run_pure, Result.andThen_ok, List.map_toArray, List.map_cons, List.map_nil, hs, hx, hr]

/-- New clocks of these cells, wherever their memory ends. -/
def NewC (n : Nat) (l : List Nat) (m : Nat) (lk : List Nat) (w : World) (e : Ending) (w' : World) : Prop :=
  ∃ v0 v1, e = .returned (.agg #[v0, v1]) ∧ w'.ownsRow w.heap.size 113 2 v0 n (fl l) ∧ w'.ownsRow w.heap.size 23 1 v1 m (fl lk) ∧ Below w.heap.size w w'
/-- Clocks given back, and a word. -/
def GiveC (n : Nat) (l : List Nat) (m : Nat) (lk : List Nat) (b : Bool) (w : World) (e : Ending) (w' : World) : Prop :=
  ∃ v0 v1, e = .returned (.tuple #[.agg #[v0, v1], .bool b]) ∧ w'.ownsRow w.heap.size 113 2 v0 n (fl l) ∧ w'.ownsRow w.heap.size 23 1 v1 m (fl lk) ∧ (∀ i, v0.ownBlock = some i → v1.ownBlock ≠ some i) ∧ Below w.heap.size w w'
theorem tc_ne : (113 : TypeId) ≠ 23 := by decide

set_option maxRecDepth 100000 in
set_option maxHeartbeats 8000000 in
theorem cloneRowC_any (b o n c : Nat) (l : List Nat) (w : World) (h : RowAt w (.slice (some ⟨b, o, none⟩) n c) 2 n (fl l)) (hn0 : 0 < n) (hn : n ≤ 1048576) :
    Calls Try.prog 149 #[.slice (some ⟨b, o, none⟩) n c] w fun e w' => ∃ v', e = .returned v' ∧ w'.ownsRow w.heap.size 113 2 v' n (fl l) ∧ Below w.heap.size w w' := by
  obtain ⟨h1, h2, ao, cap, e9, h3⟩ := h
  cases e9
  obtain ⟨b', o', e9, hbl, hcell⟩ := h3.resolve_left (by omega)
  cases e9
  have HC := Lib.hid hcell
  clear hcell h3
  have q : ∀ (w : World) (a : Option Addr) (n c n' c' : Nat), (binOp .eql 47 (.slice a n c) (.slice none n' c')).run Try.prog w = .ok (.bool a.isNone) w := fun w a n c n' c' => Lib.run_eql_slice_nil w _ _ a n c n' c' Try.underlying47
  obtain ⟨i0, hi, hz0, hz1, hz2⟩ := info_parts info_Clock
  go_enter Try.func149, Try.ntmps149
  go_wp2_with (at_builtin; refine wpList_append_own _ rfl _ _ 47 rfl w.heap.size 113 i0 (.agg #[.float .f32 0, .float .f32 0]) 2 8 Try.underlying47 hi hz0 hz1 hz2 rfl (by decide) _ _ _ rfl (World.ownsRow_made w #[] 0 (Nat.le_refl _) (Nat.zero_le _) (by simp)) ⟨b, o, none⟩ n c (fl l) rfl ?qc1 ?qc2 ?qc3 ?qc4 ?qc5 ?qc6 ?_)
  case qc1 => exact h1
  case qc2 =>
    intro j u hj
    rw [Addr.add_lit]
    exact Lib.cell?_alloc_some _ (HC.out j u hj).1
  case qc3 => exact fl_one l
  case qc4 => simp only [maxLen]; omega
  case qc5 => omega
  case qc6 => simp
  intro v' w1 hown hgrow hnil
  go_wp2
  go_ret
  refine ⟨v', rfl, by simpa using hown, ?_⟩
  exact ((Below.refl _ w).alloc (Nat.le_refl _) _).grown hgrow (by simp) (by intro k hk; simp [Value.ownBlock] at hk; omega)

set_option maxRecDepth 100000 in
set_option maxHeartbeats 8000000 in
theorem cloneRowF_any (b o n c : Nat) (l : List Nat) (w : World) (h : RowAt w (.slice (some ⟨b, o, none⟩) n c) 1 n (fl l)) (hn0 : 0 < n) (hn : n ≤ 1048576) :
    Calls Try.prog 150 #[.slice (some ⟨b, o, none⟩) n c] w fun e w' => ∃ v', e = .returned v' ∧ w'.ownsRow w.heap.size 23 1 v' n (fl l) ∧ Below w.heap.size w w' := by
  obtain ⟨h1, h2, ao, cap, e9, h3⟩ := h
  cases e9
  obtain ⟨b', o', e9, hbl, hcell⟩ := h3.resolve_left (by omega)
  cases e9
  have HC := Lib.hid hcell
  clear hcell h3
  have q : ∀ (w : World) (a : Option Addr) (n c n' c' : Nat), (binOp .eql 42 (.slice a n c) (.slice none n' c')).run Try.prog w = .ok (.bool a.isNone) w := fun w a n c n' c' => Lib.run_eql_slice_nil w _ _ a n c n' c' Try.underlying42
  obtain ⟨i0, hi, hz0, hz1, hz2⟩ := info_parts info_Float32
  go_enter Try.func150, Try.ntmps150
  go_wp2_with (at_builtin; refine wpList_append_own _ rfl _ _ 42 rfl w.heap.size 23 i0 (.float .f32 0) 1 4 Try.underlying42 hi hz0 hz1 hz2 rfl (by decide) _ _ _ rfl (World.ownsRow_made w #[] 0 (Nat.le_refl _) (Nat.zero_le _) (by simp)) ⟨b, o, none⟩ n c (fl l) rfl ?qc1 ?qc2 ?qc3 ?qc4 ?qc5 ?qc6 ?_)
  case qc1 => exact h1
  case qc2 =>
    intro j u hj
    rw [Addr.add_lit]
    exact Lib.cell?_alloc_some _ (HC.out j u hj).1
  case qc3 => exact fl_one l
  case qc4 => simp only [maxLen]; omega
  case qc5 => omega
  case qc6 => simp
  intro v' w1 hown hgrow hnil
  go_wp2
  go_ret
  refine ⟨v', rfl, by simpa using hown, ?_⟩
  exact ((Below.refl _ w).alloc (Nat.le_refl _) _).grown hgrow (by simp) (by intro k hk; simp [Value.ownBlock] at hk; omega)

set_option maxRecDepth 100000 in
set_option maxHeartbeats 8000000 in
theorem l05Own_any (v v' : Value) (n m : Nat) (l lk : List Nat) (p : Nat) (w : World) (h : RowAt w v 2 n (fl l)) (h' : RowAt w v' 1 m (fl lk)) (hp : Held [(⟨p, 0, none⟩, v), (⟨p, 1, none⟩, v')] w) (hn0 : 0 < n) (hm0 : 0 < m) (hn : n ≤ 1048576) (hm : m ≤ 1048576) : Calls Try.prog 102 #[.pointer (some ⟨p, 0, none⟩)] w (NewC n l m lk w) := by
  have H := Lib.hid h
  have H' := Lib.hid h'
  obtain ⟨h1, h2, ao, cap, rfl, h3⟩ := h
  obtain ⟨b, o, rfl, hbl, hcell⟩ := h3.resolve_left (by omega)
  obtain ⟨g1, g2, ao', cap', rfl, g3⟩ := h'
  obtain ⟨b', o', rfl, hbl', hcell'⟩ := g3.resolve_left (by omega)
  have HC := Lib.hid hcell
  have HC' := Lib.hid hcell'
  have hp9 := hp.1.1
  have hpne : ¬ p = w.heap.size := by dsimp only at hp9; omega
  simp only [Held, and_true] at hp
  obtain ⟨i0, hi⟩ := info_parts info_Clock
  obtain ⟨i1, hj⟩ := info_parts info_Float32
  clear hcell hcell' h3 g3
  go_enter Try.func102, Try.ntmps102
  go_wp2_with fail
  have hst : stableV [(5, 8, (fun v w9 => w9.ownsRow (w.heap.size + 1) 113 2 v n (fl l))), (11, 14, (fun v w9 => w9.ownsRow (w.heap.size + 1) 23 1 v m (fl lk)))] := by
    intro q hq
    rcases List.mem_cons.1 hq with rfl | hq
    · intro v w w' hb hh
      exact ownsRow_below hh hb
    obtain rfl := List.mem_singleton.1 hq
    intro v w w' hb hh
    exact ownsRow_below hh hb
  refine region_calmV_tail 13 (w.alloc (.cells #[.slice none 0 0, .slice none 0 0] 49)) [(⟨p, 0, none⟩, .slice (some ⟨b, o, none⟩) n cap), (⟨p, 1, none⟩, .slice (some ⟨b', o', none⟩) m cap'), (⟨w.heap.size, 0, none⟩, .slice none 0 0), (⟨w.heap.size, 1, none⟩, .slice none 0 0)] (fun _ _ _ => False) [(5, 8, (fun v w9 => w9.ownsRow (w.heap.size + 1) 113 2 v n (fl l))), (11, 14, (fun v w9 => w9.ownsRow (w.heap.size + 1) 23 1 v m (fl lk)))] (by kernel_rfl) (by kernel_rfl) (by kernel_rfl) ⟨by simp [Held, go_sem, *], by (repeat (first | assumption | (with_reducible exact Below.refl _ _) | (with_reducible refine Below.drewN ?_ _) | (with_reducible refine Below.drew ?_) | (with_reducible refine Below.allocS ?_ _) | ((with_reducible refine Below.setCell ?_ ?_ _); rotate_left; focus (first | omega | (simp; done) | (simp; omega))) | (with_reducible refine Below.step ?_ (by assumption))))⟩ ?_
  simp only [List.take_succ_cons, List.take_zero, List.drop_succ_cons, List.drop_zero]
  (refine calmV_op (Tv := fun v => ∃ b9, v = .slice (some ⟨b9, 0, none⟩) 0 0) hst rfl (fun w1 hC => ⟨.slice (some ⟨w1.heap.size, 0, none⟩) 0 0, w1.alloc (.cells #[] 113), ?_, ⟨_, rfl⟩, ?_, ?_⟩) ?_; (focus (simp [execOp, go_sem]; done)); (focus (simp [RVF]; done)); (focus (exact Below.allocS (Below.refl _ _) _)); rintro v ⟨b9, rfl⟩)
  repeat (first | (refine calmV_plain hst rfl rfl ?_ (fun K hK w1 hC => ?_); (focus (intro _ _; simp [RVF]; done)); have hC' := hC.1; simp only [Held, and_true] at hC'; go_wp2_with (first | (refine wpList_fbin rfl rfl rfl rfl rfl (fun r n9 hr => ?_)) | (refine wpList_widen rfl rfl Try.underlying85 Try.underlying23 rfl (fun r n9 hr => ?_))); refine ⟨rfl, (by first | exact Below.refl _ _ | exact below_drewN _), hK _ ?_⟩; clear hC hC' hK K w1) | (refine calmV_check rfl rfl rfl ?_ ?_; (focus (intro _ _; simp [RVF]; done))) | (refine calmV_skip rfl ?_ ?_; (focus (intro _ _; simp [RVF]; done)); simp [Act.put]))
  (refine calmV_op (Tv := fun v => ∃ ao9 k9 c9, v = .slice ao9 k9 c9) hst rfl (fun w1 hC => ?_) ?_; (focus (obtain ⟨v9, w9, hr9, ho9, hb9⟩ := run_append_fresh (P := Try.prog) w1 47 47 113 i0 (.agg #[.float .f32 0, .float .f32 0]) 2 8 Try.underlying47 hi.1 hi.2.1 hi.2.2.1 hi.2.2.2 rfl _ ⟨b, o, none⟩ n cap (fl l) h1 (by intro j u hj; have hBB := hC.2; rw [Addr.add_lit, hBB.cell (p := ⟨b, o + j, none⟩) (by simp; omega)]; first | exact Lib.cell?_alloc_some _ (HC.out j u hj).1 | exact (HC.out j u hj).1) (by omega) (by simp only [maxLen]; omega) (by omega); obtain ⟨ao9, k9, c9, hsh⟩ := ownsRow_shape ho9; refine ⟨v9, w9, ?_, ⟨ao9, k9, c9, hsh⟩, ?_, hb9⟩; (focus (exact run_op_append rfl rfl rfl hr9)); (focus (simp [RVF, Act.put, Act.eval]; refine ownsRow_base ?_ ho9; have := hC.2.size; simp at this; omega)))); rintro v ⟨ao9, k9, c9, rfl⟩)
  (refine calmV_op (Tv := fun v => ∃ b9, v = .slice (some ⟨b9, 0, none⟩) 0 0) hst rfl (fun w1 hC => ⟨.slice (some ⟨w1.heap.size, 0, none⟩) 0 0, w1.alloc (.cells #[] 23), ?_, ⟨_, rfl⟩, ?_, ?_⟩) ?_; (focus (simp [execOp, go_sem]; done)); (focus (simp [RVF]; done)); (focus (exact Below.allocS (Below.refl _ _) _)); rintro v ⟨b9, rfl⟩)
  repeat (first | (refine calmV_plain hst rfl rfl ?_ (fun K hK w1 hC => ?_); (focus (intro _ _; simp [RVF]; done)); have hC' := hC.1; simp only [Held, and_true] at hC'; go_wp2_with (first | (refine wpList_fbin rfl rfl rfl rfl rfl (fun r n9 hr => ?_)) | (refine wpList_widen rfl rfl Try.underlying85 Try.underlying23 rfl (fun r n9 hr => ?_))); refine ⟨rfl, (by first | exact Below.refl _ _ | exact below_drewN _), hK _ ?_⟩; clear hC hC' hK K w1) | (refine calmV_check rfl rfl rfl ?_ ?_; (focus (intro _ _; simp [RVF]; done))) | (refine calmV_skip rfl ?_ ?_; (focus (intro _ _; simp [RVF]; done)); simp [Act.put]))
  (refine calmV_op (Tv := fun v => ∃ ao9 k9 c9, v = .slice ao9 k9 c9) hst rfl (fun w1 hC => ?_) ?_; (focus (obtain ⟨v9, w9, hr9, ho9, hb9⟩ := run_append_fresh (P := Try.prog) w1 42 42 23 i1 (.float .f32 0) 1 4 Try.underlying42 hj.1 hj.2.1 hj.2.2.1 hj.2.2.2 rfl _ ⟨b', o', none⟩ m cap' (fl lk) g1 (by intro j u hj; have hBB := hC.2; rw [Addr.add_lit, hBB.cell (p := ⟨b', o' + j, none⟩) (by simp; omega)]; first | exact Lib.cell?_alloc_some _ (HC'.out j u hj).1 | exact (HC'.out j u hj).1) (by omega) (by simp only [maxLen]; omega) (by omega); obtain ⟨ao9, k9, c9, hsh⟩ := ownsRow_shape ho9; refine ⟨v9, w9, ?_, ⟨ao9, k9, c9, hsh⟩, ?_, hb9⟩; (focus (exact run_op_append rfl rfl rfl hr9)); (focus (simp [RVF, Act.put, Act.eval]; refine ownsRow_base ?_ ho9; have := hC.2.size; simp at this; omega)))); rintro v ⟨ao9, k9, c9, rfl⟩)
  repeat (first | (refine calmV_plain hst rfl rfl ?_ (fun K hK w1 hC => ?_); (focus (intro _ _; simp [RVF]; done)); have hC' := hC.1; simp only [Held, and_true] at hC'; go_wp2_with (first | (refine wpList_fbin rfl rfl rfl rfl rfl (fun r n9 hr => ?_)) | (refine wpList_widen rfl rfl Try.underlying85 Try.underlying23 rfl (fun r n9 hr => ?_))); refine ⟨rfl, (by first | exact Below.refl _ _ | exact below_drewN _), hK _ ?_⟩; clear hC hC' hK K w1) | (refine calmV_check rfl rfl rfl ?_ ?_; (focus (intro _ _; simp [RVF]; done))) | (refine calmV_skip rfl ?_ ?_; (focus (intro _ _; simp [RVF]; done)); simp [Act.put]))
  refine calmV_nil ?_
  intro w1 hC hF
  have f1 := RVF_get (hF 5 (by decide)) List.mem_cons_self
  have f2 := RVF_get (hF 11 (by decide)) (List.mem_cons_of_mem _ (List.mem_singleton.2 rfl))
  simp [Act.put, Act.eval] at f1 f2
  have F1 := Lib.hid f1
  have F2 := Lib.hid f2
  have hB1 : Below w.heap.size w w1 := by
    have hB := hC.2
    (repeat (first | assumption | (with_reducible exact Below.refl _ _) | (with_reducible refine Below.drewN ?_ _) | (with_reducible refine Below.drew ?_) | (with_reducible refine Below.allocS ?_ _) | ((with_reducible refine Below.setCell ?_ ?_ _); rotate_left; focus (first | omega | (simp; done) | (simp; omega))) | (with_reducible refine Below.step ?_ (by assumption))))
  have hz1 := hC.2.size
  have hC' := hC.1
  simp only [Held, and_true] at hC'
  clear f1 f2 hC hF hst
  go_wp2_with fail
  refine bodyPost_ret (v := ?_) (by first | (simp [results, Try.results102, go_sem, *]; rfl) | (simp [results, Try.results102, go_sem, *]; done)) rfl ?_
  refine ⟨_, _, rfl, ?_, ?_, ?_⟩
  · refine ownsRow_base (base := w.heap.size + 1) (by omega) ?_
    have := F1.out
    (repeat (first | (with_reducible refine World.ownsRow.alloc ?_ _) | (with_reducible refine ownsRow_drewN ?_ _) | ((with_reducible refine ownsRow_setCell_below ?_ ?_ _); rotate_left; focus (first | omega | (simp; done) | (simp; omega)))))
    exact this
  · refine ownsRow_base (base := w.heap.size + 1) (by omega) ?_
    have := F2.out
    (repeat (first | (with_reducible refine World.ownsRow.alloc ?_ _) | (with_reducible refine ownsRow_drewN ?_ _) | ((with_reducible refine ownsRow_setCell_below ?_ ?_ _); rotate_left; focus (first | omega | (simp; done) | (simp; omega)))))
    exact this
  · (repeat (first | assumption | (with_reducible exact Below.refl _ _) | (with_reducible refine Below.drewN ?_ _) | (with_reducible refine Below.drew ?_) | (with_reducible refine Below.allocS ?_ _) | ((with_reducible refine Below.setCell ?_ ?_ _); rotate_left; focus (first | omega | (simp; done) | (simp; omega))) | (with_reducible refine Below.step ?_ (by assumption))))

set_option maxRecDepth 100000 in
set_option maxHeartbeats 8000000 in
theorem cloneClocks_any (v v' : Value) (n m : Nat) (l lk : List Nat) (w : World) (h : RowAt w v 2 n (fl l)) (h' : RowAt w v' 1 m (fl lk)) (hn0 : 0 < n) (hm0 : 0 < m) (hn : n ≤ 1048576) (hm : m ≤ 1048576) : Calls Try.prog 106 #[.agg #[v, v']] w (NewC n l m lk w) := by
  have H := Lib.hid h
  have H' := Lib.hid h'
  obtain ⟨h1, h2, ao, cap, rfl, h3⟩ := h
  obtain ⟨b, o, rfl, hbl, hcell⟩ := h3.resolve_left (by omega)
  obtain ⟨g1, g2, ao', cap', rfl, g3⟩ := h'
  obtain ⟨b', o', rfl, hbl', hcell'⟩ := g3.resolve_left (by omega)
  clear hcell hcell' h3 g3
  go_enter Try.func106, Try.ntmps106
  go_wp2_with fail
  have hst : stableV [(2, 5, (fun v w9 => w9.ownsRow (w.heap.size + 1 + 1) 113 2 v n (fl l))), (5, 8, (fun v w9 => w9.ownsRow (w.heap.size + 1 + 1) 23 1 v m (fl lk)))] := by
    intro q hq
    rcases List.mem_cons.1 hq with rfl | hq
    · intro v w w' hb hh
      exact ownsRow_below hh hb
    obtain rfl := List.mem_singleton.1 hq
    intro v w w' hb hh
    exact ownsRow_below hh hb
  refine region_calmV_tail 6 ((w.alloc (.cells #[.slice (some ⟨b, o, none⟩) n cap, .slice (some ⟨b', o', none⟩) m cap'] 49)).alloc (.cells #[.slice none 0 0, .slice none 0 0] 49)) [(⟨w.heap.size, 0, none⟩, .slice (some ⟨b, o, none⟩) n cap), (⟨w.heap.size, 1, none⟩, .slice (some ⟨b', o', none⟩) m cap'), (⟨w.heap.size + 1, 0, none⟩, .slice none 0 0), (⟨w.heap.size + 1, 1, none⟩, .slice none 0 0)] (fun _ _ v => ∃ ao9 k9 c9, v = .slice ao9 k9 c9) [(2, 5, (fun v w9 => w9.ownsRow (w.heap.size + 1 + 1) 113 2 v n (fl l))), (5, 8, (fun v w9 => w9.ownsRow (w.heap.size + 1 + 1) 23 1 v m (fl lk)))] (by kernel_rfl) (by kernel_rfl) (by kernel_rfl) ⟨by simp [Held, go_sem, *], by (repeat (first | assumption | (with_reducible exact Below.refl _ _) | (with_reducible refine Below.drewN ?_ _) | (with_reducible refine Below.drew ?_) | (with_reducible refine Below.allocS ?_ _) | ((with_reducible refine Below.setCell ?_ ?_ _); rotate_left; focus (first | omega | (simp; done) | (simp; omega))) | (with_reducible refine Below.step ?_ (by assumption))))⟩ ?_
  simp only [List.take_succ_cons, List.take_zero, List.drop_succ_cons, List.drop_zero]
  repeat (first | (refine calmV_plain hst rfl rfl ?_ (fun K hK w1 hC => ?_); (focus (intro _ _; simp [RVF]; done)); have hC' := hC.1; simp only [Held, and_true] at hC'; go_wp2_with (first | (refine wpList_fbin rfl rfl rfl rfl rfl (fun r n9 hr => ?_)) | (refine wpList_widen rfl rfl Try.underlying85 Try.underlying23 rfl (fun r n9 hr => ?_))); refine ⟨rfl, (by first | exact Below.refl _ _ | exact below_drewN _), hK _ ?_⟩; clear hC hC' hK K w1) | (refine calmV_check rfl rfl rfl ?_ ?_; (focus (intro _ _; simp [RVF]; done))) | (refine calmV_skip rfl ?_ ?_; (focus (intro _ _; simp [RVF]; done)); simp [Act.put]))
  (refine calmV_call (f := 149) (args := _) hst rfl (by (intro w1; simp [execOp, resolve, invoke, go_sem]; with_reducible rfl)) (fun w1 hC hD => ?_) ?_; (focus (refine (cloneRowC_any b o n cap l _ ?_ (by omega) (by omega)).mono ?_; (focus (refine RowAt.below H.out ?_; have hB9 := hC.2; (repeat (first | assumption | (with_reducible exact Below.refl _ _) | (with_reducible refine Below.drewN ?_ _) | (with_reducible refine Below.drew ?_) | (with_reducible refine Below.allocS ?_ _) | ((with_reducible refine Below.setCell ?_ ?_ _); rotate_left; focus (first | omega | (simp; done) | (simp; omega))) | (with_reducible refine Below.step ?_ (by assumption)))); done)); rintro e w9 ⟨v9, rfl, ho9, hb9⟩; obtain ⟨ao9, k9, c9, hsh⟩ := ownsRow_shape ho9; refine ⟨v9, rfl, ⟨ao9, k9, c9, hsh⟩, ?_, hb9⟩; simp [RVF, Act.put, Act.eval]; refine ownsRow_base ?_ ho9; have := hC.2.size; simp at this; omega)); rintro v ⟨ao9, k9, c9, rfl⟩)
  repeat (first | (refine calmV_plain hst rfl rfl ?_ (fun K hK w1 hC => ?_); (focus (intro _ _; simp [RVF]; done)); have hC' := hC.1; simp only [Held, and_true] at hC'; go_wp2_with (first | (refine wpList_fbin rfl rfl rfl rfl rfl (fun r n9 hr => ?_)) | (refine wpList_widen rfl rfl Try.underlying85 Try.underlying23 rfl (fun r n9 hr => ?_))); refine ⟨rfl, (by first | exact Below.refl _ _ | exact below_drewN _), hK _ ?_⟩; clear hC hC' hK K w1) | (refine calmV_check rfl rfl rfl ?_ ?_; (focus (intro _ _; simp [RVF]; done))) | (refine calmV_skip rfl ?_ ?_; (focus (intro _ _; simp [RVF]; done)); simp [Act.put]))
  (refine calmV_call (f := 150) (args := _) hst rfl (by (intro w1; simp [execOp, resolve, invoke, go_sem]; with_reducible rfl)) (fun w1 hC hD => ?_) ?_; (focus (refine (cloneRowF_any b' o' m cap' lk _ ?_ (by omega) (by omega)).mono ?_; (focus (refine RowAt.below H'.out ?_; have hB9 := hC.2; (repeat (first | assumption | (with_reducible exact Below.refl _ _) | (with_reducible refine Below.drewN ?_ _) | (with_reducible refine Below.drew ?_) | (with_reducible refine Below.allocS ?_ _) | ((with_reducible refine Below.setCell ?_ ?_ _); rotate_left; focus (first | omega | (simp; done) | (simp; omega))) | (with_reducible refine Below.step ?_ (by assumption)))); done)); rintro e w9 ⟨v9, rfl, ho9, hb9⟩; obtain ⟨ao9, k9, c9, hsh⟩ := ownsRow_shape ho9; refine ⟨v9, rfl, ⟨ao9, k9, c9, hsh⟩, ?_, hb9⟩; simp [RVF, Act.put, Act.eval]; refine ownsRow_base ?_ ho9; have := hC.2.size; simp at this; omega)); rintro v ⟨ao9, k9, c9, rfl⟩)
  repeat (first | (refine calmV_plain hst rfl rfl ?_ (fun K hK w1 hC => ?_); (focus (intro _ _; simp [RVF]; done)); have hC' := hC.1; simp only [Held, and_true] at hC'; go_wp2_with (first | (refine wpList_fbin rfl rfl rfl rfl rfl (fun r n9 hr => ?_)) | (refine wpList_widen rfl rfl Try.underlying85 Try.underlying23 rfl (fun r n9 hr => ?_))); refine ⟨rfl, (by first | exact Below.refl _ _ | exact below_drewN _), hK _ ?_⟩; clear hC hC' hK K w1) | (refine calmV_check rfl rfl rfl ?_ ?_; (focus (intro _ _; simp [RVF]; done))) | (refine calmV_skip rfl ?_ ?_; (focus (intro _ _; simp [RVF]; done)); simp [Act.put]))
  refine calmV_nil ?_
  intro w1 hC hF
  have f1 := RVF_get (hF 2 (by decide)) List.mem_cons_self
  have f2 := RVF_get (hF 5 (by decide)) (List.mem_cons_of_mem _ (List.mem_singleton.2 rfl))
  simp [Act.put, Act.eval] at f1 f2
  have F1 := Lib.hid f1
  have F2 := Lib.hid f2
  have hB1 : Below w.heap.size w w1 := by
    have hB := hC.2
    (repeat (first | assumption | (with_reducible exact Below.refl _ _) | (with_reducible refine Below.drewN ?_ _) | (with_reducible refine Below.drew ?_) | (with_reducible refine Below.allocS ?_ _) | ((with_reducible refine Below.setCell ?_ ?_ _); rotate_left; focus (first | omega | (simp; done) | (simp; omega))) | (with_reducible refine Below.step ?_ (by assumption))))
  have hz1 := hC.2.size
  have hC' := hC.1
  simp only [Held, and_true] at hC'
  clear f1 f2 hC hF hst
  go_wp2_with fail
  refine bodyPost_ret (v := ?_) (by first | (simp [results, Try.results106, go_sem, *]; rfl) | (simp [results, Try.results106, go_sem, *]; done)) rfl ?_
  refine ⟨_, _, rfl, ?_, ?_, ?_⟩
  · refine ownsRow_base (base := w.heap.size + 1 + 1) (by omega) ?_
    have := F1.out
    (repeat (first | (with_reducible refine World.ownsRow.alloc ?_ _) | (with_reducible refine ownsRow_drewN ?_ _) | ((with_reducible refine ownsRow_setCell_below ?_ ?_ _); rotate_left; focus (first | omega | (simp; done) | (simp; omega)))))
    exact this
  · refine ownsRow_base (base := w.heap.size + 1 + 1) (by omega) ?_
    have := F2.out
    (repeat (first | (with_reducible refine World.ownsRow.alloc ?_ _) | (with_reducible refine ownsRow_drewN ?_ _) | ((with_reducible refine ownsRow_setCell_below ?_ ?_ _); rotate_left; focus (first | omega | (simp; done) | (simp; omega)))))
    exact this
  · (repeat (first | assumption | (with_reducible exact Below.refl _ _) | (with_reducible refine Below.drewN ?_ _) | (with_reducible refine Below.drew ?_) | (with_reducible refine Below.allocS ?_ _) | ((with_reducible refine Below.setCell ?_ ?_ _); rotate_left; focus (first | omega | (simp; done) | (simp; omega))) | (with_reducible refine Below.step ?_ (by assumption))))

end Go.Proofs.Ytbmabpnolheghaa
