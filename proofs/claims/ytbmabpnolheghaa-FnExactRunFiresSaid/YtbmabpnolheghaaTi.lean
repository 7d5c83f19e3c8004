/-
  The walks of clocks' rates and of their steps.
-/
import Derived.Test.YtbmabpnolheghaaTg
set_option linter.unusedVariables false
set_option linter.unusedSimpArgs false
namespace Go.Proofs.Ytbmabpnolheghaa
open Go.RowKit

theorem grown_held {a b : World} {base : Nat} {e : TypeId} {c n : Nat} {v : Value} {xs : List Value} {l : List (Addr × Value)} (hg : a.grownBy b v.ownBlock) (ho : a.ownsRow base e c v n xs) (hl : ∀ q ∈ l, q.1.block < base) (h : Held l a) : Held l b :=
  Held_kept1 (Kept.of_grown hg) (fun q hq hm => Nat.lt_irrefl _ (Nat.lt_of_lt_of_le (hl q hq) (ownsRow_lt ho _ hm).1)) h
theorem grown_below {B : Nat} {w a b : World} {base : Nat} {e : TypeId} {c n : Nat} {v : Value} {xs : List Value} (hb : Below B w a) (hg : a.grownBy b v.ownBlock) (ho : a.ownsRow base e c v n xs) (hB : B ≤ base) (h : B ≤ a.heap.size) : Below B w b :=
  hb.grown hg h (fun k hk => Nat.le_trans hB (ownsRow_lt ho k hk).1)
theorem float_one (r : Nat) : ∀ u ∈ [Value.float .f32 r], u.oneCell' = true := by
  intro u hu
  rw [List.mem_singleton.1 hu]
  rfl
theorem range_snoc (f : Nat → Nat) (i : Nat) : (List.range (i + 1)).map f = (List.range i).map f ++ [f i] := by rw [List.range_succ, List.map_append]; rfl
theorem exact_fin {r X : Nat} (h : cn .f32 r = X) (hf : finB .f32 X = true) : r = X := exact_of h (isN_of_fin hf)
/-- The rate of clock 'i'. -/
def rateC (n : Nat) (l lk : List Nat) (i : Nat) : Nat := fbin .add .f32 (cn .f32 (l.getD (i * 2 + 1) 0)) (pullS n l lk i n)
def ratesL (n : Nat) (l lk : List Nat) : List Nat := (List.range n).map (rateC n l lk)
def levelB (y : Nat) : Bool := finB .f32 y && geF .f32 y 0
/-- The turn of clock 'i' behind a step. -/
def stepQ (n : Nat) (l lk : List Nat) (y i : Nat) : Nat := fbin .add .f32 (cn .f32 (l.getD (i * 2) 0)) (fbin .mul .f32 (cn .f32 y) (rateC n l lk i))
theorem cn_rateC (n : Nat) (l lk : List Nat) (i : Nat) : cn .f32 (rateC n l lk i) = rateC n l lk i := cn_fbin ..
theorem ratesL_length (n : Nat) (l lk : List Nat) : (ratesL n l lk).length = n := by unfold ratesL; simp
theorem ratesL_get (n : Nat) (l lk : List Nat) (i : Nat) (hi : i < n) : (ratesL n l lk).getD i 0 = rateC n l lk i := by
  unfold ratesL
  rw [List.getD_eq_getElem?_getD, List.getElem?_map, List.getElem?_range hi]
  rfl
/-- Where all turns behind a step are finite, so are the rates. -/
theorem step_rates {n : Nat} {l lk : List Nat} {y : Nat} (h : upto (fun j => finB .f32 (stepQ n l lk y j)) n = true) : upto (fun j => finB .f32 (rateC n l lk j)) n = true := by
  refine upto_true fun j hj => ?_
  have h1 := upto_at h hj
  cases hr : finB .f32 (rateC n l lk j)
  · have h2 : finB .f32 (stepQ n l lk y j) = false := add_notfin (mul_notfin hr)
    rw [h2] at h1
    cases h1
  · rfl
theorem allFin_map {rs : List Nat} {f : Nat → Nat} {n : Nat} (h : rs.map (cn .f32) = (List.range n).map f) : allFin rs = upto (fun j => finB .f32 (f j)) n := by
  have h1 : allFin rs = (rs.map (cn .f32)).all (finB .f32) := by
    unfold allFin
    rw [List.all_map]
    congr 1
    funext x
    exact (finB_cn .f32 x).symm
  rw [h1, h, List.all_map]
  rfl
theorem exact_list {rs : List Nat} {f : Nat → Nat} {n : Nat} (h : rs.map (cn .f32) = (List.range n).map f) (hf : upto (fun j => finB .f32 (f j)) n = true) : rs = (List.range n).map f := by
  rw [← allFin_map h] at hf
  rw [← h]
  unfold allFin at hf
  rw [List.all_eq_true] at hf
  have h2 : ∀ x ∈ rs, cn .f32 x = x := fun x hx => cn_of_not (isN_of_fin (hf x hx))
  have h3 := List.map_congr_left (f := cn .f32) (g := id) (l := rs) (fun x hx => h2 x hx)
  rw [h3, List.map_id]
theorem cell_one {w : World} {b : Nat} {x : Value} (h : w.cell? ⟨b, 0, none⟩ = some x) : ∀ j u, [x][j]? = some u → w.cell? ((⟨b, 0, none⟩ : Addr).add j) = some u := by
  intro j u hj
  match j, hj with
  | 0, hj =>
    simp at hj
    subst hj
    exact h
/-- Floats given back, and a word. -/
def GiveL (n : Nat) (l : List Nat) (b : Bool) (w : World) (e : Ending) (w' : World) : Prop :=
  ∃ v, e = .returned (.tuple #[v, .bool b]) ∧ w'.ownsRow w.heap.size 23 1 v n (fl l) ∧ Below w.heap.size w w'


set_option maxRecDepth 100000 in
set_option maxHeartbeats 8000000 in
theorem toldNumbers_any (v : Value) (n : Nat) (l : List Nat) (w : World) (h : RowAt w v 1 n (fl l)) (hn : 0 < n) : Calls Try.prog 172 #[v] w fun e w' => ∃ c, e = .returned (.tuple #[if allFin l then v else .slice none 0 0, .bool (allFin l)]) ∧ w' = w.drewN c := by
  obtain ⟨h1, h2, ao, cap, rfl, h3⟩ := h
  obtain ⟨b, o, rfl, hbl, hcell⟩ := h3.resolve_left (by omega)
  rw [fl_length] at h1
  obtain rfl : n = l.length := by omega
  clear h1
  have HCL : Hid (∀ i, i < l.length → w.cell? ⟨b, o + i, none⟩ = some (.float .f32 (l.getD i 0))) := fun i hi => (hcell i _ (fl_get hi)).1
  clear hcell h3
  cases hf : allFin l
  all_goals
    go_enter Try.func172, Try.ntmps172
    go_wp2_with (first | (go_at_call 60; refine (finite_any l b o cap _ h2 (fun i hi => HCL.out i hi)).mono ?_; rintro e w' ⟨n9, rfl, rfl⟩; rw [hf]))
    go_ret2
    all_goals (simp; exact ⟨_, rfl⟩)

set_option maxRecDepth 100000 in
set_option maxHeartbeats 8000000 in
theorem implRatesOf_any (v v' : Value) (n m : Nat) (l lk : List Nat) (w : World) (h : RowAt w v 2 n (fl l)) (h' : RowAt w v' 1 m (fl lk)) : Calls Try.prog 151 #[.agg #[v, v']] w (GiveL (cN (clocksB n l m lk && upto (fun j => finB .f32 (rateC n l lk j)) n) n) (cL (clocksB n l m lk && upto (fun j => finB .f32 (rateC n l lk j)) n) (ratesL n l lk)) (clocksB n l m lk && upto (fun j => finB .f32 (rateC n l lk j)) n) w) := by
  have H := Lib.hid h
  have H' := Lib.hid h'
  clear h h'
  cases hc : clocksB n l m lk
  · go_enter Try.func151, Try.ntmps151
    go_wp2_with (first | (go_at_call 29; refine (implValidClocks_any v v' n m l lk _ ?_ ?_).mono ?_; (focus (refine RowAt.below H.out ?_; (repeat (first | assumption | (with_reducible exact Below.refl _ _) | (with_reducible refine Below.drewN ?_ _) | (with_reducible refine Below.drew ?_) | (with_reducible refine Below.allocS ?_ _) | ((with_reducible refine Below.setCell ?_ ?_ _); rotate_left; focus (first | omega | (simp; done) | (simp; omega))) | (with_reducible refine Below.step ?_ (by assumption)))); done)); (focus (refine RowAt.below H'.out ?_; (repeat (first | assumption | (with_reducible exact Below.refl _ _) | (with_reducible refine Below.drewN ?_ _) | (with_reducible refine Below.drew ?_) | (with_reducible refine Below.allocS ?_ _) | ((with_reducible refine Below.setCell ?_ ?_ _); rotate_left; focus (first | omega | (simp; done) | (simp; omega))) | (with_reducible refine Below.step ?_ (by assumption)))); done)); rintro e w1 ⟨rfl, hb⟩; rw [hc]; have hk := Held.below hb (l := [(⟨w.heap.size, 0, none⟩, v), (⟨w.heap.size, 1, none⟩, v')]) (by simp [Held, go_sem]); simp only [Held, and_true] at hk))
    go_ret2
    refine ⟨_, rfl, ownsRow_nil', ?_⟩
    (repeat (first | assumption | (with_reducible exact Below.refl _ _) | (with_reducible refine Below.drewN ?_ _) | (with_reducible refine Below.drew ?_) | (with_reducible refine Below.allocS ?_ _) | ((with_reducible refine Below.setCell ?_ ?_ _); rotate_left; focus (first | omega | (simp; done) | (simp; omega))) | (with_reducible refine Below.step ?_ (by assumption))))
  obtain ⟨c1, c2, c3, c4, c5⟩ := clocks_parts hc
  have C4 := Lib.hid c4
  clear c4 c3 c5
  rw [Bool.true_and]
  obtain ⟨h1, h2, ao, cap, rfl, h3⟩ := H.out
  obtain ⟨b, o, rfl, hbl, hcell⟩ := h3.resolve_left (by omega)
  rw [fl_length] at h1
  have HC := Lib.hid hcell
  have HL : Hid (l.length = n * 2) := h1
  clear hcell h3 h1
  obtain ⟨i0, hi0, hz0, hz1, hz2⟩ := info_parts info_Float32
  go_enter Try.func151, Try.ntmps151
  go_wp2_with (first | (go_at_call 29; refine (implValidClocks_any (.slice (some ⟨b, o, none⟩) n cap) v' n m l lk _ ?_ ?_).mono ?_; (focus (refine RowAt.below H.out ?_; (repeat (first | assumption | (with_reducible exact Below.refl _ _) | (with_reducible refine Below.drewN ?_ _) | (with_reducible refine Below.drew ?_) | (with_reducible refine Below.allocS ?_ _) | ((with_reducible refine Below.setCell ?_ ?_ _); rotate_left; focus (first | omega | (simp; done) | (simp; omega))) | (with_reducible refine Below.step ?_ (by assumption)))); done)); (focus (refine RowAt.below H'.out ?_; (repeat (first | assumption | (with_reducible exact Below.refl _ _) | (with_reducible refine Below.drewN ?_ _) | (with_reducible refine Below.drew ?_) | (with_reducible refine Below.allocS ?_ _) | ((with_reducible refine Below.setCell ?_ ?_ _); rotate_left; focus (first | omega | (simp; done) | (simp; omega))) | (with_reducible refine Below.step ?_ (by assumption)))); done)); rintro e w1 ⟨rfl, hb⟩; rw [hc]; have hk := Held.below hb (l := [(⟨w.heap.size, 0, none⟩, .slice (some ⟨b, o, none⟩) n cap), (⟨w.heap.size, 1, none⟩, v')]) (by simp [Held, go_sem]); simp only [Held, and_true] at hk))
  have hBw1 : Below w.heap.size w w1 := by (repeat (first | assumption | (with_reducible exact Below.refl _ _) | (with_reducible refine Below.drewN ?_ _) | (with_reducible refine Below.drew ?_) | (with_reducible refine Below.allocS ?_ _) | ((with_reducible refine Below.setCell ?_ ?_ _); rotate_left; focus (first | omega | (simp; done) | (simp; omega))) | (with_reducible refine Below.step ?_ (by assumption))))
  have hzw1 : w.heap.size < w1.heap.size := by omega
  go_loopw [14, 4] (fun jv uv wr => ∃ (i : Nat) (rs : List Nat), i ≤ n ∧ jv = .int .i64 (i : Int) ∧ Hid (rs.map (cn .f32) = (List.range i).map (rateC n l lk)) ∧ wr.ownsRow (w.heap.size + 1) 23 1 uv i (fl rs) ∧ Below w.heap.size w wr ∧ Held [(⟨w.heap.size, 0, none⟩, .slice (some ⟨b, o, none⟩) n cap), (⟨w.heap.size, 1, none⟩, v')] wr) (fun jv _ _ => n - (intOf jv).toNat)
  case atStart =>
    refine ⟨0, [], Nat.zero_le _, rfl, rfl, ?_, by (repeat (first | assumption | (with_reducible exact Below.refl _ _) | (with_reducible refine Below.drewN ?_ _) | (with_reducible refine Below.drew ?_) | (with_reducible refine Below.allocS ?_ _) | ((with_reducible refine Below.setCell ?_ ?_ _); rotate_left; focus (first | omega | (simp; done) | (simp; omega))) | (with_reducible refine Below.step ?_ (by assumption)))), by simp [Held, go_sem, *]⟩
    repeat (with_reducible refine ownsRow_drewN ?_ _)
    exact World.ownsRow_made w1 #[] 0 (by omega) (Nat.zero_le _) (by simp)
  case round =>
    obtain ⟨i, rs, hi, rfl, hrs, ho, hBr, hH⟩ := hrel
    have OI := Lib.hid ho
    have hr2 := hH
    have HR2 := Lib.hid hH
    simp only [Held, and_true] at hr2
    have hzr := hBr.size
    clear ho hH
    by_cases hlt : i < n
    · have d1 : decide ((i : Int) < (n : Int)) = true := decide_eq_true (by omega)
      obtain ⟨x1, hx1⟩ : ∃ x, Hid (l.getD (i * 2 + 1) 0 = x) := ⟨_, rfl⟩
      obtain ⟨x0, hx0⟩ : ∃ x, Hid (l.getD (i * 2) 0 = x) := ⟨_, rfl⟩
      have f0 := HC.out (i * 2) (.float .f32 x0) (by rw [← hx0.out]; exact fl_get (by rw [HL.out]; omega))
      have f1 := HC.out (i * 2 + 1) (.float .f32 x1) (by rw [← hx1.out]; exact fl_get (by rw [HL.out]; omega))
      simp only [← Nat.add_assoc] at f1
      have hc0 := Held.below hBr (l := [(⟨b, o + i * 2, none⟩, .float .f32 x0), (⟨b, o + i * 2 + 1, none⟩, .float .f32 x1)]) ⟨⟨hbl, f0⟩, ⟨hbl, f1⟩, trivial⟩
      simp only [Held, and_true] at hc0
      clear f0 f1
      go_wp2_with fail
      have hst : stableV [(6, 25, (fun v w9 => ∃ b9 r9, v = Value.slice (some ⟨b9, 0, none⟩) 1 1 ∧ cn .f32 r9 = rateC n l lk i ∧ Held [(⟨b9, 0, none⟩, .float .f32 r9)] w9))] := by
        intro q hq
        obtain rfl := List.mem_singleton.1 hq
        intro v w w' hb hh
        obtain ⟨b9, r9, e9, q9, h9⟩ := hh
        exact ⟨b9, r9, e9, q9, Held.below hb h9⟩
      refine region_calmV_tail 7 (wr.alloc (.cells #[.float .f32 x0, .float .f32 x1] 113)) [(⟨w.heap.size, 0, none⟩, .slice (some ⟨b, o, none⟩) n cap), (⟨w.heap.size, 1, none⟩, v'), (⟨wr.heap.size, 0, none⟩, .float .f32 x0), (⟨wr.heap.size, 1, none⟩, .float .f32 x1)] (fun _ _ v => ∃ r, v = .float .f32 r ∧ cn .f32 r = pullS n l lk i n) [(6, 25, (fun v w9 => ∃ b9 r9, v = Value.slice (some ⟨b9, 0, none⟩) 1 1 ∧ cn .f32 r9 = rateC n l lk i ∧ Held [(⟨b9, 0, none⟩, .float .f32 r9)] w9))] (by kernel_rfl) (by kernel_rfl) (by kernel_rfl) ⟨by simp [Held, go_sem, *], by (repeat (first | assumption | (with_reducible exact Below.refl _ _) | (with_reducible refine Below.drewN ?_ _) | (with_reducible refine Below.drew ?_) | (with_reducible refine Below.allocS ?_ _) | ((with_reducible refine Below.setCell ?_ ?_ _); rotate_left; focus (first | omega | (simp; done) | (simp; omega))) | (with_reducible refine Below.step ?_ (by assumption))))⟩ ?_
      simp only [List.take_succ_cons, List.take_zero, List.drop_succ_cons, List.drop_zero]
      repeat (first | (first | (refine calmV_plain hst rfl rfl ?_ (fun K hK w1 hC => ?_); (focus (intro _ _; simp [RVF]; done)); have hC' := hC.1; simp only [Held, and_true] at hC'; go_wp2_with (first | (refine wpList_fbin rfl rfl rfl rfl rfl (fun r n9 hr => ?_)) | (refine wpList_widen rfl rfl Try.underlying85 Try.underlying23 rfl (fun r n9 hr => ?_))); refine ⟨rfl, (by first | exact Below.refl _ _ | exact below_drewN _), hK _ ?_⟩; clear hC hC' hK K w1) | (refine calmV_check rfl rfl rfl ?_ ?_; (focus (intro _ _; simp [RVF]; done))) | (refine calmV_skip rfl ?_ ?_; (focus (intro _ _; simp [RVF]; done)); simp [Act.put])) | (refine calmV_call (f := 171) (args := _) hst rfl (by (intro w1; simp [execOp, resolve, invoke, go_sem]; with_reducible rfl)) (fun w7 hC hD => ?_) ?_; (focus (have hC' := hC.1; simp only [Held, and_true] at hC'; refine (pullC_any (.slice (some ⟨b, o, none⟩) n cap) v' n m l lk w.heap.size i _ (H.out.below (by have hB9 := hC.2; (repeat (first | assumption | (with_reducible exact Below.refl _ _) | (with_reducible refine Below.drewN ?_ _) | (with_reducible refine Below.drew ?_) | (with_reducible refine Below.allocS ?_ _) | ((with_reducible refine Below.setCell ?_ ?_ _); rotate_left; focus (first | omega | (simp; done) | (simp; omega))) | (with_reducible refine Below.step ?_ (by assumption)))))) (H'.out.below (by have hB9 := hC.2; (repeat (first | assumption | (with_reducible exact Below.refl _ _) | (with_reducible refine Below.drewN ?_ _) | (with_reducible refine Below.drew ?_) | (with_reducible refine Below.allocS ?_ _) | ((with_reducible refine Below.setCell ?_ ?_ _); rotate_left; focus (first | omega | (simp; done) | (simp; omega))) | (with_reducible refine Below.step ?_ (by assumption)))))) (by simp [Held, *]) hlt c2 C4.out).mono ?_; rintro e w8 ⟨r, rfl, hq, hb8⟩; exact ⟨_, rfl, ⟨r, rfl, hq⟩, (by simp [RVF]), hb8⟩)); rintro v9 ⟨rr, rfl, hq⟩; have HRR := Lib.hid hq; clear hq))
      have hq9 : cn .f32 r = rateC n l lk i := by show _ = rateC n l lk i; unfold rateC; rw [hx1.out]; simp only [Hid] at *; simp only [*]
      refine calmV_op (Tv := fun v => ∃ b9, v = .slice (some ⟨b9, 0, none⟩) 1 1) hst rfl (fun w1 hC => ⟨.slice (some ⟨w1.heap.size, 0, none⟩) 1 1, w1.alloc (.cells #[.float .f32 r] 23), ?_, ⟨_, rfl⟩, ?_, ?_⟩) ?_
      · simp [execOp, go_sem]
      · refine ⟨fun _ => ?_, trivial⟩
        refine ⟨w1.heap.size, r, ?_, hq9, ?_⟩
        · first | rfl | simp [Act.put, Act.eval]
        · simp [Held, go_sem]
      · exact Below.allocS (Below.refl _ _) _
      rintro v ⟨b9, rfl⟩
      refine calmV_nil ?_
      intro w5 hC hF
      have hf9 := RVF_get (hF 6 (by decide)) List.mem_cons_self
      clear hq9
      obtain ⟨b8, r8, hbe, hq9, hH9⟩ := hf9
      have hbe2 : b9 = b8 := by simpa [Act.put, Act.eval] using hbe
      clear hbe
      subst hbe2
      have HQ9 := Lib.hid hq9
      have H9 : Hid (w5.cell? ⟨b9, 0, none⟩ = some (.float .f32 r8)) := hH9.1.2.1
      have hB5' := hC.2
      have hB5 : Below wr.heap.size wr w5 := by
        refine Below.trans ?_ (hB5'.mono (by simp))
        (repeat (first | assumption | (with_reducible exact Below.refl _ _) | (with_reducible refine Below.drewN ?_ _) | (with_reducible refine Below.drew ?_) | (with_reducible refine Below.allocS ?_ _) | ((with_reducible refine Below.setCell ?_ ?_ _); rotate_left; focus (first | omega | (simp; done) | (simp; omega))) | (with_reducible refine Below.step ?_ (by assumption))))
      have hB50 : Below w.heap.size w w5 := by (repeat (first | assumption | (with_reducible exact Below.refl _ _) | (with_reducible refine Below.drewN ?_ _) | (with_reducible refine Below.drew ?_) | (with_reducible refine Below.allocS ?_ _) | ((with_reducible refine Below.setCell ?_ ?_ _); rotate_left; focus (first | omega | (simp; done) | (simp; omega))) | (with_reducible refine Below.step ?_ (by assumption))))
      have hC' := hC.1
      simp only [Held, and_true] at hC'
      have hz5 := hB5.size
      clear hC hF hq9 hB5' hH9
      replace OI := Lib.hid (ownsRow_below OI.out hB5)
      go_wp2_with (first | (at_builtin; refine wpList_append_own_at _ rfl _ _ 42 rfl (w.heap.size + 1) 23 i0 (.float .f32 0) 1 4 Try.underlying42 hi0 hz0 hz1 hz2 rfl (by decide) _ i (fl rs) rfl (by have h9 := OI.out; (repeat (first | (with_reducible refine World.ownsRow.alloc ?_ _) | (with_reducible refine ownsRow_drewN ?_ _) | ((with_reducible refine ownsRow_setCell_below ?_ ?_ _); rotate_left; focus (first | omega | (simp; done) | (simp; omega))))); exact h9) ⟨_, 0, none⟩ 1 1 [.float .f32 r8] rfl rfl (cell_one H9.out) (float_one _) (by simp only [maxLen]; omega) (by omega) (by first | omega | (simp; omega)) ?_))
      intro v8 w8 ho8 hg8 _ _
      have hk8 := grown_held hg8 (base := w.heap.size + 1) (e := 23) (c := 1) (n := i) (xs := fl rs) (by have h9 := OI.out; (repeat (first | (with_reducible refine World.ownsRow.alloc ?_ _) | (with_reducible refine ownsRow_drewN ?_ _) | ((with_reducible refine ownsRow_setCell_below ?_ ?_ _); rotate_left; focus (first | omega | (simp; done) | (simp; omega))))); exact h9) (l := [(⟨w.heap.size, 0, none⟩, .slice (some ⟨b, o, none⟩) n cap), (⟨w.heap.size, 1, none⟩, v')]) (by simp) (by simp [Held, go_sem, *])
      have hb8 : Below w.heap.size w w8 := by
        refine grown_below (w := w) ?_ hg8 (base := w.heap.size + 1) (e := 23) (c := 1) (n := i) (xs := fl rs) (by have h9 := OI.out; (repeat (first | (with_reducible refine World.ownsRow.alloc ?_ _) | (with_reducible refine ownsRow_drewN ?_ _) | ((with_reducible refine ownsRow_setCell_below ?_ ?_ _); rotate_left; focus (first | omega | (simp; done) | (simp; omega))))); exact h9) (by omega) (by first | omega | (simp; omega))
        (repeat (first | assumption | (with_reducible exact Below.refl _ _) | (with_reducible refine Below.drewN ?_ _) | (with_reducible refine Below.drew ?_) | (with_reducible refine Below.allocS ?_ _) | ((with_reducible refine Below.setCell ?_ ?_ _); rotate_left; focus (first | omega | (simp; done) | (simp; omega))) | (with_reducible refine Below.step ?_ (by assumption))))
      have O8 : Hid (w8.ownsRow (w.heap.size + 1) 23 1 v8 (i + 1) (fl (rs ++ [r8]))) := by
        rw [fl_append]
        exact ho8
      clear ho8 hg8
      go_wp2_with fail
      go_roundw
      case rel => exact ⟨i + 1, rs ++ [r8], hlt, by go_num, by show _ = _; rw [List.map_append, range_snoc, hrs.out, List.map_cons, List.map_nil, HQ9.out], O8.out, hb8, hk8⟩
      case measure => simp [intOf]; omega
    · obtain rfl : i = n := by omega
      have d1 : decide ((i : Int) < (i : Int)) = false := decide_eq_false (by omega)
      have hrs' := hrs.out
      cases hf : allFin rs
      · go_wp2_with (first | (go_at_call 172; refine (toldNumbers_any _ i rs _ (ownsRow_rowAt OI.out) (by omega)).mono ?_; rintro e w9 ⟨c8, rfl, rfl⟩; rw [hf]))
        go_ret2
        rw [← allFin_map hrs', hf]
        refine ⟨_, rfl, ownsRow_nil', ?_⟩
        (repeat (first | assumption | (with_reducible exact Below.refl _ _) | (with_reducible refine Below.drewN ?_ _) | (with_reducible refine Below.drew ?_) | (with_reducible refine Below.allocS ?_ _) | ((with_reducible refine Below.setCell ?_ ?_ _); rotate_left; focus (first | omega | (simp; done) | (simp; omega))) | (with_reducible refine Below.step ?_ (by assumption))))
      · have hex : Hid (rs = ratesL i l lk) := exact_list hrs' (by rw [← allFin_map hrs']; exact hf)
        go_wp2_with (first | (go_at_call 172; refine (toldNumbers_any _ i rs _ (ownsRow_rowAt OI.out) (by omega)).mono ?_; rintro e w9 ⟨c8, rfl, rfl⟩; rw [hf]))
        go_ret2
        rw [← allFin_map hrs', hf]
        refine ⟨_, rfl, ?_, ?_⟩
        · refine ownsRow_base (base := w.heap.size + 1) (by omega) ?_
          have h9 := OI.out
          rw [hex.out] at h9
          (repeat (first | (with_reducible refine World.ownsRow.alloc ?_ _) | (with_reducible refine ownsRow_drewN ?_ _) | ((with_reducible refine ownsRow_setCell_below ?_ ?_ _); rotate_left; focus (first | omega | (simp; done) | (simp; omega)))))
          exact h9
        · (repeat (first | assumption | (with_reducible exact Below.refl _ _) | (with_reducible refine Below.drewN ?_ _) | (with_reducible refine Below.drew ?_) | (with_reducible refine Below.allocS ?_ _) | ((with_reducible refine Below.setCell ?_ ?_ _); rotate_left; focus (first | omega | (simp; done) | (simp; omega))) | (with_reducible refine Below.step ?_ (by assumption))))

set_option maxRecDepth 100000 in
set_option maxHeartbeats 8000000 in
theorem l05Step_any (v v' : Value) (n m : Nat) (l lk : List Nat) (p y : Nat) (w : World) (h : RowAt w v 2 n (fl l)) (h' : RowAt w v' 1 m (fl lk)) (hp : Held [(⟨p, 0, none⟩, v), (⟨p, 1, none⟩, v')] w) (hc : clocksB n l m lk = true) : Calls Try.prog 103 #[.pointer (some ⟨p, 0, none⟩), .float .f32 y] w (GiveC (cN (upto (fun j => finB .f32 (stepQ n l lk y j)) n) n) (cL (upto (fun j => finB .f32 (stepQ n l lk y j)) n) (turned l (stepQ n l lk y) n)) (cN (upto (fun j => finB .f32 (stepQ n l lk y j)) n) m) (cL (upto (fun j => finB .f32 (stepQ n l lk y j)) n) lk) (upto (fun j => finB .f32 (stepQ n l lk y j)) n) w) := by
  have H := Lib.hid h
  have H' := Lib.hid h'
  clear h h'
  obtain ⟨c1, c2, c3, c4, c5⟩ := clocks_parts hc
  have C4 := Lib.hid c4
  have hm0 : 0 < m := by have := Nat.mul_pos (by omega : 0 < n) (by omega : 0 < n); omega
  have hm9 : m ≤ 144 := by have := sq_small c2; omega
  clear c4 c3 c5 hc
  obtain ⟨h1, h2, ao, cap, rfl, h3⟩ := H.out
  obtain ⟨b, o, rfl, hbl, hcell⟩ := h3.resolve_left (by omega)
  rw [fl_length] at h1
  have HC := Lib.hid hcell
  have HL : Hid (l.length = n * 2) := h1
  have HP := Lib.hid hp
  have hpw := hp.1.1
  dsimp only at hpw
  have hpne : ¬ p = w.heap.size := by omega
  simp only [Held, and_true] at hp
  clear hcell h3 h1
  go_enter Try.func103, Try.ntmps103
  go_wp2_with (first | (go_at_call 102; refine (l05Own_any (.slice (some ⟨b, o, none⟩) n cap) v' n m l lk p _ ?_ ?_ ?_ (by omega) hm0 (by omega) (by omega)).mono ?_; (focus (refine RowAt.below H.out ?_; (repeat (first | assumption | (with_reducible exact Below.refl _ _) | (with_reducible refine Below.drewN ?_ _) | (with_reducible refine Below.drew ?_) | (with_reducible refine Below.allocS ?_ _) | ((with_reducible refine Below.setCell ?_ ?_ _); rotate_left; focus (first | omega | (simp; done) | (simp; omega))) | (with_reducible refine Below.step ?_ (by assumption)))); done)); (focus (refine RowAt.below H'.out ?_; (repeat (first | assumption | (with_reducible exact Below.refl _ _) | (with_reducible refine Below.drewN ?_ _) | (with_reducible refine Below.drew ?_) | (with_reducible refine Below.allocS ?_ _) | ((with_reducible refine Below.setCell ?_ ?_ _); rotate_left; focus (first | omega | (simp; done) | (simp; omega))) | (with_reducible refine Below.step ?_ (by assumption)))); done)); (focus (simp [Held, go_sem, *]; done))))
  rintro e w2 ⟨u0, u1, rfl, ou0, ou1, hb2⟩
  obtain ⟨ga, ca, rfl⟩ := ownsRow_own ou0 (by omega)
  obtain ⟨gb, cb, rfl⟩ := ownsRow_own ou1 (by omega)
  have hk2 := Held.below hb2 (l := [(⟨p, 0, none⟩, .slice (some ⟨b, o, none⟩) n cap), (⟨p, 1, none⟩, v'), (⟨w.heap.size, 0, none⟩, .slice none 0 0), (⟨w.heap.size, 1, none⟩, .slice none 0 0)]) (by simp [Held, go_sem, *])
  simp only [Held, and_true] at hk2
  have hg0 := ownsRow_lt ou0 ga rfl
  have hg1 := ownsRow_lt ou1 gb rfl
  have hB2 : Below w.heap.size w w2 := by (repeat (first | assumption | (with_reducible exact Below.refl _ _) | (with_reducible refine Below.drewN ?_ _) | (with_reducible refine Below.drew ?_) | (with_reducible refine Below.allocS ?_ _) | ((with_reducible refine Below.setCell ?_ ?_ _); rotate_left; focus (first | omega | (simp; done) | (simp; omega))) | (with_reducible refine Below.step ?_ (by assumption))))
  have hz2 := hb2.size
  simp at hg0 hg1 hz2
  have ou0' := ownsRow_base (base' := w.heap.size + 1) (by simp) ou0
  have ou1' := ownsRow_base (base' := w.heap.size + 1) (by simp) ou1
  have hne := ownsRow_ne ou0' ou1' tc_ne
  have OU0 := Lib.hid ou0'
  have OU1 := Lib.hid ou1'
  clear ou0 ou1 ou0' ou1'
  have hpne2 : ¬ p = w2.heap.size := by omega
  obtain ⟨w3, hw3⟩ : ∃ w3, w3 = w2.alloc (.cells #[.slice (some ⟨ga, 0, none⟩) n ca, .slice (some ⟨gb, 0, none⟩) m cb] 49) := ⟨_, rfl⟩
  have HK3 : Hid (Held [(⟨p, 0, none⟩, .slice (some ⟨b, o, none⟩) n cap), (⟨p, 1, none⟩, v'), (⟨w.heap.size, 0, none⟩, .slice none 0 0), (⟨w.heap.size, 1, none⟩, .slice none 0 0), (⟨w2.heap.size, 0, none⟩, .slice (some ⟨ga, 0, none⟩) n ca), (⟨w2.heap.size, 1, none⟩, .slice (some ⟨gb, 0, none⟩) m cb)] w3) := by rw [hw3]; show Held _ _; simp [Held, go_sem, *]
  have O3 : Hid (w3.ownsRow (w.heap.size + 1) 113 2 (.slice (some ⟨ga, 0, none⟩) n ca) n (fl l)) := by rw [hw3]; exact OU0.out.alloc _
  have O3' : Hid (w3.ownsRow (w.heap.size + 1) 23 1 (.slice (some ⟨gb, 0, none⟩) m cb) m (fl lk)) := by rw [hw3]; exact OU1.out.alloc _
  have hB3 : Below w.heap.size w w3 := by rw [hw3]; (repeat (first | assumption | (with_reducible exact Below.refl _ _) | (with_reducible refine Below.drewN ?_ _) | (with_reducible refine Below.drew ?_) | (with_reducible refine Below.allocS ?_ _) | ((with_reducible refine Below.setCell ?_ ?_ _); rotate_left; focus (first | omega | (simp; done) | (simp; omega))) | (with_reducible refine Below.step ?_ (by assumption))))
  have hz3 : w2.heap.size < w3.heap.size := by rw [hw3]; simp
  go_wp2_with fail
  rw [← hw3]
  clear hw3 hk2
  have hk3 := HK3.out
  simp only [Held, and_true] at hk3
  go_wp2_with fail
  go_loopw [14] (fun jv wr => ∃ i : Nat, i ≤ n ∧ jv = .int .i64 (i : Int) ∧ upto (fun j => finB .f32 (stepQ n l lk y j)) i = true ∧ wr.ownsRow (w.heap.size + 1) 113 2 (.slice (some ⟨ga, 0, none⟩) n ca) n (fl (turned l (stepQ n l lk y) i)) ∧ Kept w3 wr [some ga]) (fun jv _ => n - (intOf jv).toNat)
  case atStart => exact ⟨0, Nat.zero_le _, rfl, rfl, O3.out, Kept.refl1 _ _⟩
  case round =>
    obtain ⟨i, hi, rfl, hup, ho, hk⟩ := hrel
    have UP := Lib.hid hup
    have OI := Lib.hid ho
    have KI := Lib.hid hk
    have hr2 := Held_kept1 (v := .slice (some ⟨ga, 0, none⟩) n ca) hk (l := [(⟨p, 0, none⟩, .slice (some ⟨b, o, none⟩) n cap), (⟨p, 1, none⟩, v'), (⟨w.heap.size, 0, none⟩, .slice none 0 0), (⟨w.heap.size, 1, none⟩, .slice none 0 0), (⟨w2.heap.size, 0, none⟩, .slice (some ⟨ga, 0, none⟩) n ca), (⟨w2.heap.size, 1, none⟩, .slice (some ⟨gb, 0, none⟩) m cb)]) (by simp [Value.ownBlock]; omega) HK3.out
    have HR2 := Lib.hid hr2
    simp only [Held, and_true] at hr2
    have hBr : Below w.heap.size w wr := hB3.trans (hk.toBelow (by omega) (fun j hj => by have := List.mem_singleton.1 hj; cases this; omega))
    clear ho hk hup
    by_cases hlt : i < n
    · have d1 : decide ((i : Int) < (n : Int)) = true := decide_eq_true (by omega)
      obtain ⟨x1, hx1⟩ : ∃ x, Hid (l.getD (i * 2 + 1) 0 = x) := ⟨_, rfl⟩
      obtain ⟨x0, hx0⟩ : ∃ x, Hid (l.getD (i * 2) 0 = x) := ⟨_, rfl⟩
      have f0 := HC.out (i * 2) (.float .f32 x0) (by rw [← hx0.out]; exact fl_get (by rw [HL.out]; omega))
      have f1 := HC.out (i * 2 + 1) (.float .f32 x1) (by rw [← hx1.out]; exact fl_get (by rw [HL.out]; omega))
      simp only [← Nat.add_assoc] at f1
      have hc0 := Held.below hBr (l := [(⟨b, o + i * 2, none⟩, .float .f32 x0), (⟨b, o + i * 2 + 1, none⟩, .float .f32 x1)]) ⟨⟨hbl, f0⟩, ⟨hbl, f1⟩, trivial⟩
      simp only [Held, and_true] at hc0
      clear f0 f1
      have hzr := hBr.size
      go_wp2_with fail
      refine region_calmA wr wr.heap.size [(⟨p, 0, none⟩, .slice (some ⟨b, o, none⟩) n cap), (⟨p, 1, none⟩, v'), (⟨b, o + i * 2 + 1, none⟩, .float .f32 x1)] (fun _ _ v => ∃ r, v = .float .f32 r ∧ cn .f32 r = pullS n l lk i n) [] (by kernel_rfl) (by kernel_rfl) (by kernel_rfl) ⟨⟨by simp [Held, go_sem, *], by (repeat (first | (with_reducible exact Below.refl _ _) | (with_reducible refine Below.drewN ?_ _) | (with_reducible refine Below.drew ?_) | (with_reducible refine Below.allocS ?_ _) | ((with_reducible refine Below.setCell ?_ ?_ _); rotate_left; focus (first | omega | (simp; done) | (simp; omega))) | (with_reducible refine Below.step ?_ (by assumption))))⟩, by (first | (simp; done) | (simp; omega) | omega)⟩ ?_
      repeat (first | (first | (refine calmA_plain rfl rfl ?_ (fun K hK w1 hC => ?_); (focus (intro _ _; simp [RA]; done)); have hC' := hC.1.1; simp only [Held, and_true] at hC'; go_wp2_with (first | (refine wpList_fbin rfl rfl rfl rfl rfl (fun r n9 hr => ?_)) | (refine wpList_widen rfl rfl Try.underlying85 Try.underlying23 rfl (fun r n9 hr => ?_))); refine ⟨rfl, (by first | exact Below.refl _ _ | exact below_drewN _), hK _ ?_⟩; clear hC hC' hK K w1) | (refine calmA_check rfl rfl rfl ?_ ?_; (focus (intro _ _; simp [RA]; done)))) | (refine calmA_call (f := 144) (args := _) rfl ?_ (by (intro w1; simp [execOp, resolve, invoke, go_sem]; with_reducible rfl)) (fun w7 hC => ?_) ?_; (focus (intro _ _; simp [RA]; done)); (focus (have hz7 : Below w.heap.size w w7 := hBr.trans (hC.1.2.mono (by omega)); refine (l05Pull_any (.slice (some ⟨b, o, none⟩) n cap) v' n m l lk p i _ (H.out.below hz7) (H'.out.below hz7) ⟨hC.1.1.1, hC.1.1.2.1, trivial⟩ hlt c2 C4.out).mono ?_; rintro e w8 ⟨r, rfl, hq, hb8⟩; exact ⟨_, rfl, ⟨r, rfl, hq⟩, hb8⟩)); rintro v9 ⟨rp, rfl, hq⟩; have HRP := Lib.hid hq; clear hq))
      refine calmA_nil ?_
      intro w5 hC hF
      have hqr : cn .f32 r = rateC n l lk i := hr.out.trans (by unfold rateC; rw [hx1.out, HRP.out])
      have HQR := Lib.hid hqr
      have hB5 : Below wr.heap.size wr w5 := hC.1.2
      have hr5 := Held.below hB5 (l := [(⟨p, 0, none⟩, .slice (some ⟨b, o, none⟩) n cap), (⟨p, 1, none⟩, v'), (⟨w.heap.size, 0, none⟩, .slice none 0 0), (⟨w.heap.size, 1, none⟩, .slice none 0 0), (⟨w2.heap.size, 0, none⟩, .slice (some ⟨ga, 0, none⟩) n ca), (⟨w2.heap.size, 1, none⟩, .slice (some ⟨gb, 0, none⟩) m cb), (⟨b, o + i * 2, none⟩, .float .f32 x0)]) (by have h8 := HR2.out; simp only [Held, and_true] at h8; simp [Held, *])
      simp only [Held, and_true] at hr5
      have K5 := Lib.hid (KI.out.below1 hB5)
      replace OI := Lib.hid (ownsRow_below OI.out hB5)
      have hBw5 : Below w.heap.size w w5 := by (repeat (first | assumption | (with_reducible exact Below.refl _ _) | (with_reducible refine Below.drewN ?_ _) | (with_reducible refine Below.drew ?_) | (with_reducible refine Below.allocS ?_ _) | ((with_reducible refine Below.setCell ?_ ?_ _); rotate_left; focus (first | omega | (simp; done) | (simp; omega))) | (with_reducible refine Below.step ?_ (by assumption))))
      clear hC hF hqr hr
      cases e1 : finB .f32 (stepQ n l lk y i)
      all_goals
        have E1 := Lib.hid e1
        clear e1
        go_wp2_with (first | (refine wpList_fbin rfl rfl rfl rfl rfl (fun r n9 hr => ?_)) | (go_at_call 145; refine (l05Turned_any (.slice (some ⟨ga, 0, none⟩) n ca) (.slice (some ⟨gb, 0, none⟩) m cb) n (turned l (stepQ n l lk y) i) (w.heap.size + 1) w2.heap.size i _ _ ?_ ?_ hlt c2).mono ?_; (focus (have h9 := OI.out; (repeat (first | (with_reducible refine World.ownsRow.alloc ?_ _) | (with_reducible refine ownsRow_drewN ?_ _) | ((with_reducible refine ownsRow_setCell_below ?_ ?_ _); rotate_left; focus (first | omega | (simp; done) | (simp; omega))))); exact h9)); (focus (simp [Held, go_sem, *]; done)); have hq9 : cn .f32 r = stepQ n l lk y i := (by show _ = stepQ n l lk y i; unfold stepQ; rw [hx0.out]; clear HK3 O3 O3' OI UP KI HR2 K5 H H' HC HP OU0 OU1; simp only [Hid] at *; simp only [*]); have hfr : finB .f32 r = finB .f32 (stepQ n l lk y i) := (by rw [← hq9, finB_cn]); rw [E1.out] at hfr; rw [hfr]; have HQ9 := Lib.hid hq9; clear hq9 hfr; rintro e w4 ⟨rfl, ho4, hk4⟩; have O4 := Lib.hid ho4; clear ho4; have K6 := (K5.out.below1 (below_drewN _)).trans1 hk4; have hk5 := Held_kept1 (v := .slice (some ⟨ga, 0, none⟩) n ca) K6 (l := [(⟨p, 0, none⟩, .slice (some ⟨b, o, none⟩) n cap), (⟨p, 1, none⟩, v'), (⟨w.heap.size, 0, none⟩, .slice none 0 0), (⟨w.heap.size, 1, none⟩, .slice none 0 0), (⟨w2.heap.size, 0, none⟩, .slice (some ⟨ga, 0, none⟩) n ca), (⟨w2.heap.size, 1, none⟩, .slice (some ⟨gb, 0, none⟩) m cb)]) (by simp [Value.ownBlock]; omega) HK3.out; have KK6 := Lib.hid K6; clear hk4 K6; simp only [Held, and_true] at hk5; have hB4 : Below w.heap.size w w4 := hB3.trans (KK6.out.toBelow (by omega) (fun j hj => by have := List.mem_singleton.1 hj; cases this; omega))))
      · refine bodyPost_ret (v := ?_) (by first | (simp [results, Try.results103, go_sem, *]; rfl) | (simp [results, Try.results103, go_sem, *]; done)) rfl ?_
        rw [upto_false hlt E1.out]
        refine ⟨_, _, rfl, ownsRow_nil', ownsRow_nil', (fun i hi => by cases hi), ?_⟩
        (repeat (first | assumption | (with_reducible exact Below.refl _ _) | (with_reducible refine Below.drewN ?_ _) | (with_reducible refine Below.drew ?_) | (with_reducible refine Below.allocS ?_ _) | ((with_reducible refine Below.setCell ?_ ?_ _); rotate_left; focus (first | omega | (simp; done) | (simp; omega))) | (with_reducible refine Below.step ?_ (by assumption))))
      · go_roundw
        case rel =>
          refine ⟨i + 1, hlt, by go_num, ?_, ?_, KK6.out⟩
          · rw [upto_succ, UP.out, E1.out]; rfl
          · have h9 := O4.out trivial
            rw [← turnQ_cn, HQ9.out] at h9
            exact h9
        case measure => simp [intOf]; omega
    · obtain rfl : i = n := by omega
      have d1 : decide ((i : Int) < (i : Int)) = false := decide_eq_false (by omega)
      go_wp2_with fail
      refine bodyPost_ret (v := ?_) (by first | (simp [results, Try.results103, go_sem, *]; rfl) | (simp [results, Try.results103, go_sem, *]; done)) rfl ?_
      rw [UP.out]
      refine ⟨_, _, rfl, ?_, ?_, hne, ?_⟩
      · refine ownsRow_base (base := w.heap.size + 1) (by omega) ?_
        have := OI.out
        (repeat (first | (with_reducible refine World.ownsRow.alloc ?_ _) | (with_reducible refine ownsRow_drewN ?_ _) | ((with_reducible refine ownsRow_setCell_below ?_ ?_ _); rotate_left; focus (first | omega | (simp; done) | (simp; omega)))))
        exact this
      · refine ownsRow_base (base := w.heap.size + 1) (by omega) ?_
        have := ownsRow_kept O3'.out KI.out (fun j hj hm => hne j (List.mem_singleton.1 hm).symm hj)
        (repeat (first | (with_reducible refine World.ownsRow.alloc ?_ _) | (with_reducible refine ownsRow_drewN ?_ _) | ((with_reducible refine ownsRow_setCell_below ?_ ?_ _); rotate_left; focus (first | omega | (simp; done) | (simp; omega)))))
        exact this
      · (repeat (first | assumption | (with_reducible exact Below.refl _ _) | (with_reducible refine Below.drewN ?_ _) | (with_reducible refine Below.drew ?_) | (with_reducible refine Below.allocS ?_ _) | ((with_reducible refine Below.setCell ?_ ?_ _); rotate_left; focus (first | omega | (simp; done) | (simp; omega))) | (with_reducible refine Below.step ?_ (by assumption))))

end Go.Proofs.Ytbmabpnolheghaa
