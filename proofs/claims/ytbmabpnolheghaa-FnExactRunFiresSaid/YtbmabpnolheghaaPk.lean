/-
  The walk of the program's RunFires.
-/
import Derived.Test.YtbmabpnolheghaaPj
set_option linter.unusedVariables false
set_option linter.unusedSimpArgs false
namespace Go.Proofs.Ytbmabpnolheghaa
open Go.RowKit

theorem ownsRow_count {w : World} {base : Nat} {e : TypeId} {c n k : Nat} {a : Option Addr} {d : Nat} {xs : List Value} (h : w.ownsRow base e c (.slice a k d) n xs) : k = n := by
  rcases h.2 with ⟨h1, rfl⟩ | ⟨g, cap, cur, h1, _⟩
  · cases h1; rfl
  · cases h1; rfl
set_option maxRecDepth 100000 in
set_option maxHeartbeats 8000000 in
theorem implRunFires_any (v v' : Value) (n m : Nat) (l lk : List Nat) (J : Nat) (i : Int) (w : World) (h : RowAt w v 2 n (fl l)) (h' : RowAt w v' 1 m (fl lk)) : Calls Try.prog 50 #[.agg #[v, v'], .float .f32 J, .int .i64 i] w (GiveF (cN (firesB n l m lk J i) n) (cL (firesB n l m lk J i) (runF n l J i.toNat)) (cN (firesB n l m lk J i) m) (cL (firesB n l m lk J i) lk) (cN (firesB n l m lk J i) i.toNat) (cZ (firesB n l m lk J i) (runO n l J i.toNat)) (cT (firesB n l m lk J i) (sumQ n l J i.toNat)) (firesB n l m lk J i) w) := by
  have H := Lib.hid h
  have H' := Lib.hid h'
  clear h h'
  have HBB : Hid (firesB n l m lk J i = (((clocksB n l m lk && levelB J) && inZ i 0 64) && upto (okF n l m lk J) i.toNat)) := rfl
  cases hc : clocksB n l m lk
  · have HF : Hid (firesB n l m lk J i = false) := by show _ = _; rw [HBB.out]; simp [hc]
    go_enter Try.func50, Try.ntmps50
    go_wp2_with (first | (go_at_call 29; refine (implValidClocks_any v v' n m l lk _ ?_ ?_).mono ?_; (focus (refine RowAt.below H.out ?_; (repeat (first | assumption | (with_reducible exact Below.refl _ _) | (with_reducible refine Below.drewN ?_ _) | (with_reducible refine Below.drew ?_) | (with_reducible refine Below.allocS ?_ _) | ((with_reducible refine Below.setCell ?_ ?_ _); rotate_left; focus (first | omega | (simp; done) | (simp; omega))) | (with_reducible refine Below.step ?_ (by assumption)))); done)); (focus (refine RowAt.below H'.out ?_; (repeat (first | assumption | (with_reducible exact Below.refl _ _) | (with_reducible refine Below.drewN ?_ _) | (with_reducible refine Below.drew ?_) | (with_reducible refine Below.allocS ?_ _) | ((with_reducible refine Below.setCell ?_ ?_ _); rotate_left; focus (first | omega | (simp; done) | (simp; omega))) | (with_reducible refine Below.step ?_ (by assumption)))); done)); rintro e w1 ⟨rfl, hb⟩; rw [hc]; have hk := Held.below hb (l := [(⟨w.heap.size, 0, none⟩, v), (⟨w.heap.size, 1, none⟩, v'), (⟨w.heap.size + 1, 0, none⟩, .slice none 0 0), (⟨w.heap.size + 1, 1, none⟩, .slice none 0 0)]) (by simp [Held, go_sem]); simp only [Held, and_true] at hk))
    refine bodyPost_ret (v := ?_) (by first | (simp [results, Try.results50, go_sem, *]; rfl) | (simp [results, Try.results50, go_sem, *]; done)) rfl ?_
    rw [HF.out]
    refine ⟨_, _, _, _, rfl, ownsRow_nil', ownsRow_nil', ownsRow_nil', (fun i hi => by cases hi), (fun i hi => by cases hi), (fun i hi => by cases hi), cn_null, ?_⟩
    (repeat (first | assumption | (with_reducible exact Below.refl _ _) | (with_reducible refine Below.drewN ?_ _) | (with_reducible refine Below.drew ?_) | (with_reducible refine Below.allocS ?_ _) | ((with_reducible refine Below.setCell ?_ ?_ _); rotate_left; focus (first | omega | (simp; done) | (simp; omega))) | (with_reducible refine Below.step ?_ (by assumption))))
  cases hl : levelB J
  · have HF : Hid (firesB n l m lk J i = false) := by show _ = _; rw [HBB.out]; simp [hl]
    go_enter Try.func50, Try.ntmps50
    go_wp2_with (first | (go_at_call 29; refine (implValidClocks_any v v' n m l lk _ ?_ ?_).mono ?_; (focus (refine RowAt.below H.out ?_; (repeat (first | assumption | (with_reducible exact Below.refl _ _) | (with_reducible refine Below.drewN ?_ _) | (with_reducible refine Below.drew ?_) | (with_reducible refine Below.allocS ?_ _) | ((with_reducible refine Below.setCell ?_ ?_ _); rotate_left; focus (first | omega | (simp; done) | (simp; omega))) | (with_reducible refine Below.step ?_ (by assumption)))); done)); (focus (refine RowAt.below H'.out ?_; (repeat (first | assumption | (with_reducible exact Below.refl _ _) | (with_reducible refine Below.drewN ?_ _) | (with_reducible refine Below.drew ?_) | (with_reducible refine Below.allocS ?_ _) | ((with_reducible refine Below.setCell ?_ ?_ _); rotate_left; focus (first | omega | (simp; done) | (simp; omega))) | (with_reducible refine Below.step ?_ (by assumption)))); done)); rintro e w1 ⟨rfl, hb⟩; rw [hc]; have hk := Held.below hb (l := [(⟨w.heap.size, 0, none⟩, v), (⟨w.heap.size, 1, none⟩, v'), (⟨w.heap.size + 1, 0, none⟩, .slice none 0 0), (⟨w.heap.size + 1, 1, none⟩, .slice none 0 0)]) (by simp [Held, go_sem]); simp only [Held, and_true] at hk) | (go_at_call 105; refine (levelOkC_any _ _).mono ?_; rintro e w' ⟨n9, rfl, rfl⟩; rw [hl]))
    refine bodyPost_ret (v := ?_) (by first | (simp [results, Try.results50, go_sem, *]; rfl) | (simp [results, Try.results50, go_sem, *]; done)) rfl ?_
    rw [HF.out]
    refine ⟨_, _, _, _, rfl, ownsRow_nil', ownsRow_nil', ownsRow_nil', (fun i hi => by cases hi), (fun i hi => by cases hi), (fun i hi => by cases hi), cn_null, ?_⟩
    (repeat (first | assumption | (with_reducible exact Below.refl _ _) | (with_reducible refine Below.drewN ?_ _) | (with_reducible refine Below.drew ?_) | (with_reducible refine Below.allocS ?_ _) | ((with_reducible refine Below.setCell ?_ ?_ _); rotate_left; focus (first | omega | (simp; done) | (simp; omega))) | (with_reducible refine Below.step ?_ (by assumption))))
  cases hz : inZ i 0 64
  · have HF : Hid (firesB n l m lk J i = false) := by show _ = _; rw [HBB.out]; simp [hz]
    go_enter Try.func50, Try.ntmps50
    go_wp2_with (first | (go_at_call 29; refine (implValidClocks_any v v' n m l lk _ ?_ ?_).mono ?_; (focus (refine RowAt.below H.out ?_; (repeat (first | assumption | (with_reducible exact Below.refl _ _) | (with_reducible refine Below.drewN ?_ _) | (with_reducible refine Below.drew ?_) | (with_reducible refine Below.allocS ?_ _) | ((with_reducible refine Below.setCell ?_ ?_ _); rotate_left; focus (first | omega | (simp; done) | (simp; omega))) | (with_reducible refine Below.step ?_ (by assumption)))); done)); (focus (refine RowAt.below H'.out ?_; (repeat (first | assumption | (with_reducible exact Below.refl _ _) | (with_reducible refine Below.drewN ?_ _) | (with_reducible refine Below.drew ?_) | (with_reducible refine Below.allocS ?_ _) | ((with_reducible refine Below.setCell ?_ ?_ _); rotate_left; focus (first | omega | (simp; done) | (simp; omega))) | (with_reducible refine Below.step ?_ (by assumption)))); done)); rintro e w1 ⟨rfl, hb⟩; rw [hc]; have hk := Held.below hb (l := [(⟨w.heap.size, 0, none⟩, v), (⟨w.heap.size, 1, none⟩, v'), (⟨w.heap.size + 1, 0, none⟩, .slice none 0 0), (⟨w.heap.size + 1, 1, none⟩, .slice none 0 0)]) (by simp [Held, go_sem]); simp only [Held, and_true] at hk) | (go_at_call 105; refine (levelOkC_any _ _).mono ?_; rintro e w' ⟨n9, rfl, rfl⟩; rw [hl]) | (go_at_call 62; refine (inZ_any _ _ _ _).mono ?_; rintro e w' ⟨rfl, e9⟩; subst w'; rw [hz]))
    refine bodyPost_ret (v := ?_) (by first | (simp [results, Try.results50, go_sem, *]; rfl) | (simp [results, Try.results50, go_sem, *]; done)) rfl ?_
    rw [HF.out]
    refine ⟨_, _, _, _, rfl, ownsRow_nil', ownsRow_nil', ownsRow_nil', (fun i hi => by cases hi), (fun i hi => by cases hi), (fun i hi => by cases hi), cn_null, ?_⟩
    (repeat (first | assumption | (with_reducible exact Below.refl _ _) | (with_reducible refine Below.drewN ?_ _) | (with_reducible refine Below.drew ?_) | (with_reducible refine Below.allocS ?_ _) | ((with_reducible refine Below.setCell ?_ ?_ _); rotate_left; focus (first | omega | (simp; done) | (simp; omega))) | (with_reducible refine Below.step ?_ (by assumption))))
  obtain ⟨T, rfl⟩ : ∃ T : Nat, i = (T : Int) := ⟨i.toNat, by unfold inZ at hz; simp at hz; omega⟩
  have hT : T ≤ 64 := by unfold inZ at hz; simp at hz; omega
  have HB2 : Hid (firesB n l m lk J (T : Int) = upto (okF n l m lk J) T) := by show _ = _; rw [HBB.out, hc, hl, hz]; simp
  have HC := Lib.hid hc
  have HJ := Lib.hid (level_fin hl)
  have c1 := (clocks_parts hc).1
  have c2 := (clocks_parts hc).2.1
  have hm0 : 0 < m := by have := (clocks_parts hc).2.2.2.1; have := Nat.mul_pos (by omega : 0 < n) (by omega : 0 < n); omega
  have hm9 : m ≤ 144 := by have := (clocks_parts hc).2.2.2.1; have := sq_small c2; omega
  obtain ⟨i0, hi0, hz0, hz1, hz2⟩ := info_parts info_Int64
  clear HBB
  simp only [Int.toNat_natCast]
  go_enter Try.func50, Try.ntmps50
  go_wp2_with (first | (go_at_call 29; refine (implValidClocks_any v v' n m l lk _ ?_ ?_).mono ?_; (focus (refine RowAt.below H.out ?_; (repeat (first | assumption | (with_reducible exact Below.refl _ _) | (with_reducible refine Below.drewN ?_ _) | (with_reducible refine Below.drew ?_) | (with_reducible refine Below.allocS ?_ _) | ((with_reducible refine Below.setCell ?_ ?_ _); rotate_left; focus (first | omega | (simp; done) | (simp; omega))) | (with_reducible refine Below.step ?_ (by assumption)))); done)); (focus (refine RowAt.below H'.out ?_; (repeat (first | assumption | (with_reducible exact Below.refl _ _) | (with_reducible refine Below.drewN ?_ _) | (with_reducible refine Below.drew ?_) | (with_reducible refine Below.allocS ?_ _) | ((with_reducible refine Below.setCell ?_ ?_ _); rotate_left; focus (first | omega | (simp; done) | (simp; omega))) | (with_reducible refine Below.step ?_ (by assumption)))); done)); rintro e w1 ⟨rfl, hb⟩; rw [hc]; have hk := Held.below hb (l := [(⟨w.heap.size, 0, none⟩, v), (⟨w.heap.size, 1, none⟩, v'), (⟨w.heap.size + 1, 0, none⟩, .slice none 0 0), (⟨w.heap.size + 1, 1, none⟩, .slice none 0 0)]) (by simp [Held, go_sem]); simp only [Held, and_true] at hk) | (go_at_call 105; refine (levelOkC_any _ _).mono ?_; rintro e w' ⟨n9, rfl, rfl⟩; rw [hl]) | (go_at_call 62; refine (inZ_any _ _ _ _).mono ?_; rintro e w' ⟨rfl, e9⟩; subst w'; rw [hz]) | (go_at_call 106; refine (cloneClocks_any v v' n m l lk _ ?_ ?_ (by omega) hm0 (by omega) (by omega)).mono ?_; (focus (refine RowAt.below H.out ?_; (repeat (first | assumption | (with_reducible exact Below.refl _ _) | (with_reducible refine Below.drewN ?_ _) | (with_reducible refine Below.drew ?_) | (with_reducible refine Below.allocS ?_ _) | ((with_reducible refine Below.setCell ?_ ?_ _); rotate_left; focus (first | omega | (simp; done) | (simp; omega))) | (with_reducible refine Below.step ?_ (by assumption)))); done)); (focus (refine RowAt.below H'.out ?_; (repeat (first | assumption | (with_reducible exact Below.refl _ _) | (with_reducible refine Below.drewN ?_ _) | (with_reducible refine Below.drew ?_) | (with_reducible refine Below.allocS ?_ _) | ((with_reducible refine Below.setCell ?_ ?_ _); rotate_left; focus (first | omega | (simp; done) | (simp; omega))) | (with_reducible refine Below.step ?_ (by assumption)))); done))))
  rintro e w2 ⟨u0, u1, rfl, ou0, ou1, hb2⟩
  obtain ⟨ga, ca, rfl⟩ := ownsRow_own ou0 (by omega)
  obtain ⟨gb, cb, rfl⟩ := ownsRow_own ou1 (by omega)
  have hk2 := Held.below hb2 (l := [(⟨w.heap.size, 0, none⟩, v), (⟨w.heap.size, 1, none⟩, v'), (⟨w.heap.size + 1, 0, none⟩, .slice none 0 0), (⟨w.heap.size + 1, 1, none⟩, .slice none 0 0)]) (by simp [Held, go_sem, *])
  simp only [Held, and_true] at hk2
  have hg0 := ownsRow_lt ou0 ga rfl
  have hg1 := ownsRow_lt ou1 gb rfl
  have hB2 : Below w.heap.size w w2 := by (repeat (first | assumption | (with_reducible exact Below.refl _ _) | (with_reducible refine Below.drewN ?_ _) | (with_reducible refine Below.drew ?_) | (with_reducible refine Below.allocS ?_ _) | ((with_reducible refine Below.setCell ?_ ?_ _); rotate_left; focus (first | omega | (simp; done) | (simp; omega))) | (with_reducible refine Below.step ?_ (by assumption))))
  have hz2' := hb2.size
  simp at hg0 hg1 hz2'
  have ou0' := ownsRow_base (base' := w.heap.size + 1 + 1) (by simp; try omega) ou0
  have ou1' := ownsRow_base (base' := w.heap.size + 1 + 1) (by simp; try omega) ou1
  have OU0 := Lib.hid ou0'
  have OU1 := Lib.hid ou1'
  have hgab : ga ≠ gb := fun e => ownsRow_ne ou0' ou1' tc_ne ga rfl (by rw [e]; rfl)
  clear ou0 ou1 ou0' ou1'
  go_wp2_with fail
  have hp2 : w.heap.size + 1 < (w2.heap.size + 1) := by omega
  go_loopw [35, 11, 12] (fun jv uv sv wr => ∃ (k s : Nat) (u0 u1 : Value), k ≤ T ∧ jv = .int .i64 (k : Int) ∧ sv = .float .f32 s ∧ upto (okF n l m lk J) k = true ∧ Hid (clocksB n (runF n l J k) m lk = true) ∧ Hid (cn .f32 s = sumQ n l J k) ∧ Held [(⟨(w2.heap.size + 1), 0, none⟩, u0), (⟨(w2.heap.size + 1), 1, none⟩, u1), (⟨w.heap.size + 1, 0, none⟩, .slice none 0 0), (⟨w.heap.size + 1, 1, none⟩, .slice none 0 0)] wr ∧ wr.ownsRow (w.heap.size + 1 + 1) 113 2 u0 n (fl (runF n l J k)) ∧ wr.ownsRow (w.heap.size + 1 + 1) 23 1 u1 m (fl lk) ∧ wr.ownsRow (w.heap.size + 1 + 1) 2 1 uv k (il (runO n l J k)) ∧ (∀ i, u0.ownBlock = some i → i ≠ (w2.heap.size + 1)) ∧ (∀ i, u1.ownBlock = some i → i ≠ (w2.heap.size + 1)) ∧ (∀ i, uv.ownBlock = some i → i ≠ (w2.heap.size + 1)) ∧ Below w.heap.size w wr) (fun jv _ _ _ => T - (intOf jv).toNat)
  case atStart =>
    refine ⟨0, 0, (.slice (some ⟨ga, 0, none⟩) n ca), (.slice (some ⟨gb, 0, none⟩) m cb), Nat.zero_le _, by rfl, rfl, rfl, HC, cn_null, ?_, ?_, ?_, ?_, ?_, ?_, ?_, ?_⟩
    · simp [Held, go_sem, *]
    · exact (by have h9 := OU0.out; (repeat (first | (with_reducible refine World.ownsRow.alloc ?_ _) | (with_reducible refine ownsRow_drewN ?_ _) | ((with_reducible refine ownsRow_setCell_below ?_ ?_ _); rotate_left; focus (first | omega | (simp; done) | (simp; omega))))); exact h9)
    · exact (by have h9 := OU1.out; (repeat (first | (with_reducible refine World.ownsRow.alloc ?_ _) | (with_reducible refine ownsRow_drewN ?_ _) | ((with_reducible refine ownsRow_setCell_below ?_ ?_ _); rotate_left; focus (first | omega | (simp; done) | (simp; omega))))); exact h9)
    · have h9 : (w2.alloc (.cells #[] 2)).ownsRow (w.heap.size + 1 + 1) 2 1 (.slice (some ⟨w2.heap.size, 0, none⟩) 0 0) 0 (il (runO n l J 0)) := own_empty w2 w2.heap.size (w.heap.size + 1 + 1) 2 rfl (by omega)
      exact h9.alloc _
    · intro j hj
      have e1 := own_some hj
      omega
    · intro j hj
      have e1 := own_some hj
      omega
    · intro j hj
      have e1 := own_some hj
      omega
    · (repeat (first | assumption | (with_reducible exact Below.refl _ _) | (with_reducible refine Below.drewN ?_ _) | (with_reducible refine Below.drew ?_) | (with_reducible refine Below.allocS ?_ _) | ((with_reducible refine Below.setCell ?_ ?_ _); rotate_left; focus (first | omega | (simp; done) | (simp; omega))) | (with_reducible refine Below.step ?_ (by assumption))))
  case round =>
    obtain ⟨k, s, u0, u1, hk, rfl, rfl, hup, HCL, HS, hH, o0, o1, ov, n0, n1, nv, hBr⟩ := hrel
    obtain ⟨b0, s0, t0, rfl⟩ := ownsRow_shape o0
    obtain ⟨b1, s1, t1, rfl⟩ := ownsRow_shape o1
    have UP := Lib.hid hup
    have OU0 := Lib.hid o0
    have OU1 := Lib.hid o1
    have OV := Lib.hid ov
    have LV := Lib.hid (ownsRow_lt ov)
    have HH := Lib.hid hH
    have NV := Lib.hid nv
    have hll : (runF n l J k).length = n * 2 := by have := o0.1; rwa [fl_length] at this
    simp only [Held, and_true] at hH
    have hzr := hBr.size
    have hpr : (w2.heap.size + 1) < wr.heap.size := HH.out.1.1
    clear o0 o1 ov hup nv n0 n1
    by_cases hlt : k < T
    · have d1 : decide ((k : Int) < (T : Int)) = true := decide_eq_true (by omega)
      have hf : ∀ i, i < n → finB .f32 (turnAt (runF n l J k) i) = true := fun i hi => okClock_fin HCL.out hi
      have hfit := fired_fits hll hf HJ.out
      have hKl := hfit.len
      have HFL := Lib.hid (fire_len hfit)
      have hFL : (fireO (runF n l J k) n J).length ≤ 12 := by have := HFL.out; omega
      clear hf hfit
      have e9 : fireB n (runF n l J k) m lk J = clocksB n (runF n l J (k + 1)) m lk := by unfold fireB; rw [HCL.out, hl]; rfl
      cases e1 : clocksB n (runF n l J (k + 1)) m lk
      all_goals
        rw [e1] at e9
        have E9 := Lib.hid e9
        clear e9
        go_wp2_with (first | (go_at_call 56; refine (implFireNext_lit E9.out rfl _ _ _ (ownsRow_rowAt OU0.out) (ownsRow_rowAt OU1.out)).mono ?_))
        rintro e w5 ⟨x0, x1, x2, rt, rfl, ox0, ox1, ox2, xn01, xn02, xn12, HT, hb5⟩
        obtain ⟨a0, k0, d0, rfl⟩ := ownsRow_shape ox0
        obtain ⟨a1, k1, d1', rfl⟩ := ownsRow_shape ox1
        obtain ⟨a2, k2, d2, rfl⟩ := ownsRow_shape ox2
        have hk5 := Held.below hb5 HH.out
        have HK5 := Lib.hid hk5
        simp only [Held, and_true] at hk5
        have hB5 : Below w.heap.size w w5 := by (repeat (first | assumption | (with_reducible exact Below.refl _ _) | (with_reducible refine Below.drewN ?_ _) | (with_reducible refine Below.drew ?_) | (with_reducible refine Below.allocS ?_ _) | ((with_reducible refine Below.setCell ?_ ?_ _); rotate_left; focus (first | omega | (simp; done) | (simp; omega))) | (with_reducible refine Below.step ?_ (by assumption))))
        have hz5 := hb5.size
        clear xn01 xn02 xn12
      · go_wp2_with fail
        refine bodyPost_ret (v := ?_) (by first | (simp [results, Try.results50, go_sem, *]; rfl) | (simp [results, Try.results50, go_sem, *]; done)) rfl ?_
        rw [HB2.out, upto_false hlt (show okF n l m lk J k = false from e1)]
        refine ⟨_, _, _, _, rfl, ownsRow_nil', ownsRow_nil', ownsRow_nil', (fun i hi => by cases hi), (fun i hi => by cases hi), (fun i hi => by cases hi), cn_null, ?_⟩
        (repeat (first | assumption | (with_reducible exact Below.refl _ _) | (with_reducible refine Below.drewN ?_ _) | (with_reducible refine Below.drew ?_) | (with_reducible refine Below.allocS ?_ _) | ((with_reducible refine Below.setCell ?_ ?_ _); rotate_left; focus (first | omega | (simp; done) | (simp; omega))) | (with_reducible refine Below.step ?_ (by assumption))))
      · have L0 := Lib.hid (ownsRow_lt ox0)
        have L1 := Lib.hid (ownsRow_lt ox1)
        have Y0 : Hid (w5.ownsRow (w.heap.size + 1 + 1) 113 2 (.slice a0 k0 d0) n (fl (runF n l J (k + 1)))) := ownsRow_base (base' := w.heap.size + 1 + 1) (by omega) ox0
        have Y1 : Hid (w5.ownsRow (w.heap.size + 1 + 1) 23 1 (.slice a1 k1 d1') m (fl lk)) := ownsRow_base (base' := w.heap.size + 1 + 1) (by omega) ox1
        have V5 := Lib.hid (ownsRow_below OV.out hb5)
        obtain rfl : k2 = (firedF (runF n l J k) n J).2.length := by have h9 := ownsRow_count ox2; have h8 := HFL.out; exact h9.trans h8
        clear ox0 ox1 ox2 OV OU0 OU1
        go_wp2_with fail
        obtain ⟨w6, hw6⟩ : ∃ w6, w6 = w5.alloc (.cells #[(.slice a0 k0 d0), (.slice a1 k1 d1')] 49) := ⟨_, rfl⟩
        rw [← hw6]
        have hB56 : Below w5.heap.size w5 w6 := by rw [hw6]; (repeat (first | assumption | (with_reducible exact Below.refl _ _) | (with_reducible refine Below.drewN ?_ _) | (with_reducible refine Below.drew ?_) | (with_reducible refine Below.allocS ?_ _) | ((with_reducible refine Below.setCell ?_ ?_ _); rotate_left; focus (first | omega | (simp; done) | (simp; omega))) | (with_reducible refine Below.step ?_ (by assumption))))
        have hz6 : w6.heap.size = w5.heap.size + 1 := by rw [hw6]; simp
        have hq6 : Held [(⟨w5.heap.size, 0, none⟩, (.slice a0 k0 d0)), (⟨w5.heap.size, 1, none⟩, (.slice a1 k1 d1'))] w6 := by rw [hw6]; simp [Held, go_sem]
        have hk6 := Held.below hB56 HK5.out
        have W0 := Lib.hid (ownsRow_below Y0.out hB56)
        have W1 := Lib.hid (ownsRow_below Y1.out hB56)
        have V6 := Lib.hid (ownsRow_below V5.out hB56)
        have hB6 : Below w.heap.size w w6 := hB5.trans (hB56.mono (by have := hB5.size; omega))
        clear hw6 Y0 Y1 V5 hk5 HK5
        have hDD : ∀ w8 w9, (fun w9 => Held [(⟨w5.heap.size, 0, none⟩, (.slice a0 k0 d0)), (⟨w5.heap.size, 1, none⟩, (.slice a1 k1 d1')), (⟨w.heap.size + 1, 0, none⟩, .slice none 0 0), (⟨w.heap.size + 1, 1, none⟩, .slice none 0 0)] w9 ∧ (∃ x y, Held [(⟨(w2.heap.size + 1), 0, none⟩, x), (⟨(w2.heap.size + 1), 1, none⟩, y)] w9) ∧ w9.ownsRow (w.heap.size + 1 + 1) 113 2 (.slice a0 k0 d0) n (fl (runF n l J (k + 1))) ∧ w9.ownsRow (w.heap.size + 1 + 1) 23 1 (.slice a1 k1 d1') m (fl lk) ∧ w9.ownsRow (w.heap.size + 1 + 1) 2 1 u11 k (il (runO n l J k)) ∧ Below w.heap.size w w9) w8 → Below w8.heap.size w8 w9 → (fun w9 => Held [(⟨w5.heap.size, 0, none⟩, (.slice a0 k0 d0)), (⟨w5.heap.size, 1, none⟩, (.slice a1 k1 d1')), (⟨w.heap.size + 1, 0, none⟩, .slice none 0 0), (⟨w.heap.size + 1, 1, none⟩, .slice none 0 0)] w9 ∧ (∃ x y, Held [(⟨(w2.heap.size + 1), 0, none⟩, x), (⟨(w2.heap.size + 1), 1, none⟩, y)] w9) ∧ w9.ownsRow (w.heap.size + 1 + 1) 113 2 (.slice a0 k0 d0) n (fl (runF n l J (k + 1))) ∧ w9.ownsRow (w.heap.size + 1 + 1) 23 1 (.slice a1 k1 d1') m (fl lk) ∧ w9.ownsRow (w.heap.size + 1 + 1) 2 1 u11 k (il (runO n l J k)) ∧ Below w.heap.size w w9) w9 := fun w8 w9 h8 hb8 => ⟨Held.below hb8 h8.1, ⟨h8.2.1.choose, h8.2.1.choose_spec.choose, Held.below hb8 h8.2.1.choose_spec.choose_spec⟩, ownsRow_below h8.2.2.1 hb8, ownsRow_below h8.2.2.2.1 hb8, ownsRow_below h8.2.2.2.2.1 hb8, h8.2.2.2.2.2.trans (hb8.mono (by have := h8.2.2.2.2.2.size; omega))⟩
        have hst : stableV [(4, 52, (fun v w9 => ∃ b9, v = Value.slice (some ⟨b9, 0, none⟩) 1 1 ∧ w5.heap.size < b9 ∧ Held [(⟨b9, 0, none⟩, .int .i64 ((firedF (runF n l J k) n J).2.length : Int))] w9)), (5, 53, (fun v w9 => w9.ownsRow (w.heap.size + 1 + 1) 2 1 v (k + 1) (il (runO n l J (k + 1))) ∧ ∀ i, v.ownBlock = some i → i ≠ (w2.heap.size + 1))), (9, 48, (fun _ w9 => Held [(⟨(w2.heap.size + 1), 0, none⟩, (.slice a0 k0 d0)), (⟨(w2.heap.size + 1), 1, none⟩, (.slice a1 k1 d1'))] w9))] := by
          intro q hq
          rcases List.mem_cons.1 hq with rfl | hq
          · intro v w8 w9 hb8 hh
            obtain ⟨b9, e9, g9, h9⟩ := hh
            exact ⟨b9, e9, g9, Held.below hb8 h9⟩
          rcases List.mem_cons.1 hq with rfl | hq
          · intro v w8 w9 hb8 hh
            exact ⟨ownsRow_below hh.1 hb8, hh.2⟩
          obtain rfl := List.mem_singleton.1 hq
          intro v w8 w9 hb8 hh
          exact Held.below hb8 hh
        have hall : Held [(⟨w5.heap.size, 0, none⟩, (.slice a0 k0 d0)), (⟨w5.heap.size, 1, none⟩, (.slice a1 k1 d1')), (⟨w.heap.size + 1, 0, none⟩, .slice none 0 0), (⟨w.heap.size + 1, 1, none⟩, .slice none 0 0)] w6 := ⟨hq6.1, hq6.2.1, hk6.2.2.1, hk6.2.2.2.1, trivial⟩
        have hpp : ∃ x y, Held [(⟨(w2.heap.size + 1), 0, none⟩, x), (⟨(w2.heap.size + 1), 1, none⟩, y)] w6 := ⟨_, _, hk6.1, hk6.2.1, trivial⟩
        refine region_calmD (fun w9 => Held [(⟨w5.heap.size, 0, none⟩, (.slice a0 k0 d0)), (⟨w5.heap.size, 1, none⟩, (.slice a1 k1 d1')), (⟨w.heap.size + 1, 0, none⟩, .slice none 0 0), (⟨w.heap.size + 1, 1, none⟩, .slice none 0 0)] w9 ∧ (∃ x y, Held [(⟨(w2.heap.size + 1), 0, none⟩, x), (⟨(w2.heap.size + 1), 1, none⟩, y)] w9) ∧ w9.ownsRow (w.heap.size + 1 + 1) 113 2 (.slice a0 k0 d0) n (fl (runF n l J (k + 1))) ∧ w9.ownsRow (w.heap.size + 1 + 1) 23 1 (.slice a1 k1 d1') m (fl lk) ∧ w9.ownsRow (w.heap.size + 1 + 1) 2 1 u11 k (il (runO n l J k)) ∧ Below w.heap.size w w9) (fun _ _ _ => False) [(4, 52, (fun v w9 => ∃ b9, v = Value.slice (some ⟨b9, 0, none⟩) 1 1 ∧ w5.heap.size < b9 ∧ Held [(⟨b9, 0, none⟩, .int .i64 ((firedF (runF n l J k) n J).2.length : Int))] w9)), (5, 53, (fun v w9 => w9.ownsRow (w.heap.size + 1 + 1) 2 1 v (k + 1) (il (runO n l J (k + 1))) ∧ ∀ i, v.ownBlock = some i → i ≠ (w2.heap.size + 1))), (9, 48, (fun _ w9 => Held [(⟨(w2.heap.size + 1), 0, none⟩, (.slice a0 k0 d0)), (⟨(w2.heap.size + 1), 1, none⟩, (.slice a1 k1 d1'))] w9))] (by kernel_rfl) (by kernel_rfl) (by kernel_rfl) ⟨hall, hpp, W0.out, W1.out, V6.out, hB6.drew⟩ ?_
        clear hk6 hq6 hall hpp
        repeat (first | (refine calmD_plain hst hDD rfl rfl ?_ (fun K hK w1 hC => ?_); (focus (intro _ _; simp [RVF]; done)); have hC' := hC.1; simp only [Held, and_true] at hC'; go_wp2_with (first | (refine wpList_fbin rfl rfl rfl rfl rfl (fun r n9 hr => ?_))); refine ⟨rfl, (by first | exact Below.refl _ _ | exact below_drewN _), hK _ ?_⟩; clear hC hC' hK K w1) | (refine calmD_check rfl rfl rfl ?_ ?_; (focus (intro _ _; simp [RVF]; done))))
        refine calmD_op (Tv := fun v => v = .int .i64 ((firedF (runF n l J k) n J).2.length : Int)) hst hDD rfl (fun w1 hC => ⟨.int .i64 ((firedF (runF n l J k) n J).2.length : Int), w1, ?_, rfl, ?_, Below.refl _ _⟩) ?_
        · simp [execOp, go_sem]
        · exact ⟨fun e9 => by simp at e9, fun e9 => by simp at e9, fun e9 => by simp at e9, trivial⟩
        rintro v rfl
        refine calmD_op (Tv := fun v => ∃ b9, v = .slice (some ⟨b9, 0, none⟩) 1 1) hst hDD rfl (fun w1 hC => ⟨.slice (some ⟨w1.heap.size, 0, none⟩) 1 1, w1.alloc (.cells #[.int .i64 ((firedF (runF n l J k) n J).2.length : Int)] 2), ?_, ⟨_, rfl⟩, ?_, ?_⟩) ?_
        · simp [execOp, go_sem]
        · refine ⟨fun _ => ⟨w1.heap.size, ?_, hC.1.1.1, ?_⟩, fun e9 => by simp at e9, fun e9 => by simp at e9, trivial⟩
          · first | rfl | simp [Act.put, Act.eval]
          · simp [Held, go_sem]
        · exact Below.allocS (Below.refl _ _) _
        rintro v ⟨b9, rfl⟩
        refine calmD_turn (Tv := fun v => ∃ ao9 k9 c9, v = .slice ao9 k9 c9) rfl (fun w1 hC hDp => ?_) ?_
        · obtain ⟨b8, e8, g8, h8⟩ := RVF_get (depD hDp (ia := 4) (by kernel_rfl)) List.mem_cons_self
          have hbe : b9 = b8 := by simpa [Act.put, Act.eval] using e8
          subst hbe
          have hnews : ∀ jj u, [Value.int .i64 ((firedF (runF n l J k) n J).2.length : Int)][jj]? = some u → w1.cell? ((⟨b9, 0, none⟩ : Addr).add jj) = some u := by
            intro jj u hjj
            rcases jj with _ | jj
            · cases hjj
              exact h8.1.2.1
            · simp at hjj
          have hq1 : w5.heap.size < w1.heap.size := hC.1.1.1
          have hbs : (w.heap.size + 1 + 1) ≤ w1.heap.size := by omega
          obtain ⟨v9, w9, hr9, ho9, hg9, hold9⟩ := append_old (P := Try.prog) w1 (w.heap.size + 1 + 1) 80 80 2 i0 (.int .i64 0) 1 8 Try.underlying80 hi0 hz0 hz1 hz2 rfl (by decide) u11 k (il (runO n l J k)) hC.2.2.2.2.1 ⟨b9, 0, none⟩ 1 1 [.int .i64 ((firedF (runF n l J k) n J).2.length : Int)] rfl hnews (int_one _) (by simp only [maxLen]; omega) (by omega) hbs
          have hat9 : v9.ownBlock = u11.ownBlock ∨ v9.ownBlock = some w1.heap.size := by
            obtain ⟨v8', w8', hr8', _, _, _, hat⟩ := run_append_own_at (P := Try.prog) (w := w1) (w.heap.size + 1 + 1) 80 80 2 i0 (.int .i64 0) 1 8 Try.underlying80 hi0 hz0 hz1 hz2 rfl (by decide) u11 k (il (runO n l J k)) hC.2.2.2.2.1 ⟨b9, 0, none⟩ 1 1 [.int .i64 ((firedF (runF n l J k) n J).2.length : Int)] rfl hnews (int_one _) (by simp only [maxLen]; omega) (by omega) hbs
            rw [hr9] at hr8'
            cases hr8'
            exact hat
          obtain ⟨ao9, k9, c9, hsh⟩ := ownsRow_shape ho9
          have hK9 := Kept.of_grown hg9
          have hP1 : (w2.heap.size + 1) < w1.heap.size := hC.2.1.choose_spec.choose_spec.1.1
          have hlv := ownsRow_lt hC.2.2.2.2.1
          refine ⟨v9, w9, run_op_append rfl rfl rfl hr9, ⟨ao9, k9, c9, hsh⟩, ⟨?_, ?_, ?_, ?_, hold9, ?_⟩, ?_, ?_⟩
          · refine Held_kept1 hK9 ?_ hC.1
            intro q hq e9
            have h7 := LV.out _ e9
            simp only [List.mem_cons, List.not_mem_nil, or_false] at hq
            rcases hq with rfl | rfl | rfl | rfl <;> (dsimp only at h7; omega)
          · obtain ⟨x9, y9, h9⟩ := hC.2.1
            refine ⟨x9, y9, Held_kept1 hK9 ?_ h9⟩
            intro q hq e9
            have h7 := NV.out _ e9
            simp only [List.mem_cons, List.not_mem_nil, or_false] at hq
            rcases hq with rfl | rfl <;> exact h7 rfl
          · exact ownsRow_kept hC.2.2.1 hK9 (fun j hj hm => ownsRow_ne hC.2.2.1 hC.2.2.2.2.1 ci_ne j hj (List.mem_singleton.1 hm).symm)
          · exact ownsRow_kept hC.2.2.2.1 hK9 (fun j hj hm => ownsRow_ne hC.2.2.2.1 hC.2.2.2.2.1 fi_ne j hj (List.mem_singleton.1 hm).symm)
          · exact hC.2.2.2.2.2.grown hg9 (by have := hC.2.2.2.2.2.size; omega) (fun j hj => by have := (hlv j hj).1; omega)
          · refine ⟨fun e9 => by simp at e9, fun _ => ?_, fun e9 => by simp at e9, trivial⟩
            have h9 : w9.ownsRow (w.heap.size + 1 + 1) 2 1 v9 (k + 1) (il (runO n l J (k + 1))) := by rw [runO_succ, il_snoc]; exact ho9
            have hn9 : ∀ i, v9.ownBlock = some i → i ≠ (w2.heap.size + 1) := by
              intro i hi
              rcases hat9 with e | e
              · rw [e] at hi
                exact NV.out i hi
              · rw [e] at hi
                cases hi
                omega
            first | exact ⟨h9, hn9⟩ | (simp [Act.put, Act.eval]; exact ⟨h9, hn9⟩)
          · intro j a' hj hR
            refine ⟨fun e9 => ?_, fun e9 => absurd e9.symm hj, fun e9 => ?_, trivial⟩
            · obtain ⟨b7, e7, g7, h7⟩ := hR.1 e9
              refine ⟨b7, e7, g7, Held_kept1 hK9 ?_ h7⟩
              intro q hq e6
              have h6 := LV.out _ e6
              obtain rfl := List.mem_singleton.1 hq
              dsimp only at h6
              omega
            · refine Held_kept1 hK9 ?_ (hR.2.2.1 e9)
              intro q hq e6
              have h7 := NV.out _ e6
              simp only [List.mem_cons, List.not_mem_nil, or_false] at hq
              rcases hq with rfl | rfl <;> exact h7 rfl
        rintro v9 ⟨a9, k9, c9, rfl⟩
        repeat (first | (refine calmD_plain hst hDD rfl rfl ?_ (fun K hK w1 hC => ?_); (focus (intro _ _; simp [RVF]; done)); have hC' := hC.1; simp only [Held, and_true] at hC'; go_wp2_with (first | (refine wpList_fbin rfl rfl rfl rfl rfl (fun r n9 hr => ?_))); refine ⟨rfl, (by first | exact Below.refl _ _ | exact below_drewN _), hK _ ?_⟩; clear hC hC' hK K w1) | (refine calmD_check rfl rfl rfl ?_ ?_; (focus (intro _ _; simp [RVF]; done))))
        refine calmD_store rfl (fun w1 hC hDp => ?_) ?_
        · obtain ⟨hc1, ⟨x9, y9, hc2⟩, hc3, hc4, hc5, hc6⟩ := hC
          have HC1 := Lib.hid hc1
          simp only [Held, and_true] at hc1 hc2
          obtain ⟨w8, hw8⟩ : ∃ w8, w8 = (w1.setCell ⟨(w2.heap.size + 1), 0, none⟩ (.slice a0 k0 d0)).setCell ⟨(w2.heap.size + 1), 1, none⟩ (.slice a1 k1 d1') := ⟨_, rfl⟩
          have K8 : Kept w1 w8 [some (w2.heap.size + 1)] := by rw [hw8]; exact (kept_one _ _ _ _).trans1 (kept_one _ _ _ _)
          have T8 : Held [(⟨(w2.heap.size + 1), 0, none⟩, (.slice a0 k0 d0)), (⟨(w2.heap.size + 1), 1, none⟩, (.slice a1 k1 d1'))] w8 := by rw [hw8]; simp [Held, go_sem, *]
          have hr8 : w8.heap.size = w1.heap.size := by rw [hw8]; simp
          have hz1' := hc6.size
          refine ⟨w8, by rw [hw8]; simp [execOp, go_sem, *], ⟨held_many K8 HC1.out (fun q9 hq9 hm => by
            have h9 := List.mem_singleton.1 hm
            simp only [List.mem_cons, List.not_mem_nil, or_false] at hq9
            rcases hq9 with rfl | rfl | rfl | rfl <;> (dsimp only at h9; have h8 := Option.some.inj h9; omega)), ⟨_, _, T8⟩, ?_, ?_, ?_, ?_⟩, ⟨fun e9 => by simp at e9, fun e9 => by simp at e9, fun _ => T8, trivial⟩, ?_⟩
          · exact ownsRow_kept hc3 K8 (fun j hj hm => by have h1 := L0.out j hj; have h2 := Option.some.inj (List.mem_singleton.1 hm); omega)
          · exact ownsRow_kept hc4 K8 (fun j hj hm => by have h1 := L1.out j hj; have h2 := Option.some.inj (List.mem_singleton.1 hm); omega)
          · exact ownsRow_kept hc5 K8 (fun j hj hm => NV.out j hj (Option.some.inj (List.mem_singleton.1 hm)))
          · exact hc6.trans (K8.toBelow (by omega) (fun j hj => by have h2 := Option.some.inj (List.mem_singleton.1 hj); omega))
          · intro j a' hj hR
            refine ⟨fun e9 => ?_, fun e9 => ?_, fun e9 => absurd e9.symm hj, trivial⟩
            · obtain ⟨b7, e7, g7, h7⟩ := hR.1 e9
              refine ⟨b7, e7, g7, held_many K8 h7 (fun q9 hq9 hm => by
                have h9 := Option.some.inj (List.mem_singleton.1 hm)
                obtain rfl := List.mem_singleton.1 hq9
                dsimp only at h9
                omega)⟩
            · have h7 := hR.2.1 e9
              exact ⟨ownsRow_kept h7.1 K8 (fun j hj hm => h7.2 j hj (Option.some.inj (List.mem_singleton.1 hm))), h7.2⟩
        repeat (first | (refine calmD_plain hst hDD rfl rfl ?_ (fun K hK w1 hC => ?_); (focus (intro _ _; simp [RVF]; done)); have hC' := hC.1; simp only [Held, and_true] at hC'; go_wp2_with (first | (refine wpList_fbin rfl rfl rfl rfl rfl (fun r n9 hr => ?_))); refine ⟨rfl, (by first | exact Below.refl _ _ | exact below_drewN _), hK _ ?_⟩; clear hC hC' hK K w1) | (refine calmD_check rfl rfl rfl ?_ ?_; (focus (intro _ _; simp [RVF]; done))))
        refine calmD_nil ?_
        intro w7 hC hF
        have f5 := RVF_get (hF 5 (by decide)) (List.mem_cons_of_mem _ List.mem_cons_self)
        have T9 := RVF_get (hF 9 (by decide)) (List.mem_cons_of_mem _ (List.mem_cons_of_mem _ (List.mem_singleton.2 rfl)))
        have V7 : Hid (w7.ownsRow (w.heap.size + 1 + 1) 2 1 (.slice a9 k9 c9) (k + 1) (il (runO n l J (k + 1))) ∧ ∀ i, (Value.slice a9 k9 c9).ownBlock = some i → i ≠ (w2.heap.size + 1)) := by first | exact f5 | simpa [Act.put, Act.eval] using f5
        have hT9 : Held [(⟨(w2.heap.size + 1), 0, none⟩, (.slice a0 k0 d0)), (⟨(w2.heap.size + 1), 1, none⟩, (.slice a1 k1 d1'))] w7 := T9
        have HT9 := Lib.hid hT9
        obtain ⟨hc1, _, hc3, hc4, _, hB7⟩ := hC
        have Z0 := Lib.hid hc3
        have Z1 := Lib.hid hc4
        have HC1 := Lib.hid hc1
        simp only [Held, and_true] at hT9 hc1
        clear hF f5 hst hDD T9 hc3 hc4
        go_wp2_with fail
        go_roundw
        case rel =>
          refine ⟨k + 1, r, _, _, hlt, (by first | go_num | (congr 1; omega)), rfl, (by rw [upto_succ, UP.out]; exact e1), e1, ?_, ?_, (by have h9 := Z0.out; (repeat (first | (with_reducible refine World.ownsRow.alloc ?_ _) | (with_reducible refine ownsRow_drewN ?_ _) | ((with_reducible refine ownsRow_setCell_below ?_ ?_ _); rotate_left; focus (first | omega | (simp; done) | (simp; omega))))); exact h9), (by have h9 := Z1.out; (repeat (first | (with_reducible refine World.ownsRow.alloc ?_ _) | (with_reducible refine ownsRow_drewN ?_ _) | ((with_reducible refine ownsRow_setCell_below ?_ ?_ _); rotate_left; focus (first | omega | (simp; done) | (simp; omega))))); exact h9), (by have h9 := V7.out.1; (repeat (first | (with_reducible refine World.ownsRow.alloc ?_ _) | (with_reducible refine ownsRow_drewN ?_ _) | ((with_reducible refine ownsRow_setCell_below ?_ ?_ _); rotate_left; focus (first | omega | (simp; done) | (simp; omega))))); exact h9), ?_, ?_, V7.out.2, ?_⟩
          · show cn .f32 r = fbin .add .f32 (sumQ n l J k) (timeQ (runF n l J k) n)
            have HT' : cn .f32 rt = timeQ (runF n l J k) n := HT
            rw [hr, HS.out, HT']
          · exact ⟨HT9.out.1, HT9.out.2.1, HC1.out.2.2.1, HC1.out.2.2.2.1, trivial⟩
          · intro j hj
            have := L0.out j hj
            omega
          · intro j hj
            have := L1.out j hj
            omega
          · (repeat (first | assumption | (with_reducible exact Below.refl _ _) | (with_reducible refine Below.drewN ?_ _) | (with_reducible refine Below.drew ?_) | (with_reducible refine Below.allocS ?_ _) | ((with_reducible refine Below.setCell ?_ ?_ _); rotate_left; focus (first | omega | (simp; done) | (simp; omega))) | (with_reducible refine Below.step ?_ (by assumption))))
        case measure => simp [intOf]; omega
    · obtain rfl : k = T := by omega
      have d1 : decide ((k : Int) < (k : Int)) = false := decide_eq_false (by omega)
      have N01 := Lib.hid (ownsRow_ne OU0.out OU1.out tc_ne)
      have N02 := Lib.hid (ownsRow_ne OU0.out OV.out ci_ne)
      have N12 := Lib.hid (ownsRow_ne OU1.out OV.out fi_ne)
      go_wp2_with fail
      refine bodyPost_ret (v := ?_) (by first | (simp [results, Try.results50, go_sem, *]; rfl) | (simp [results, Try.results50, go_sem, *]; done)) rfl ?_
      rw [HB2.out, UP.out]
      refine ⟨_, _, _, s, rfl, ?_, ?_, ?_, N01.out, N02.out, N12.out, HS.out, ?_⟩
      · refine ownsRow_base (base := w.heap.size + 1 + 1) (by omega) ?_
        exact (by have h9 := OU0.out; (repeat (first | (with_reducible refine World.ownsRow.alloc ?_ _) | (with_reducible refine ownsRow_drewN ?_ _) | ((with_reducible refine ownsRow_setCell_below ?_ ?_ _); rotate_left; focus (first | omega | (simp; done) | (simp; omega))))); exact h9)
      · refine ownsRow_base (base := w.heap.size + 1 + 1) (by omega) ?_
        exact (by have h9 := OU1.out; (repeat (first | (with_reducible refine World.ownsRow.alloc ?_ _) | (with_reducible refine ownsRow_drewN ?_ _) | ((with_reducible refine ownsRow_setCell_below ?_ ?_ _); rotate_left; focus (first | omega | (simp; done) | (simp; omega))))); exact h9)
      · refine ownsRow_base (base := w.heap.size + 1 + 1) (by omega) ?_
        exact (by have h9 := OV.out; (repeat (first | (with_reducible refine World.ownsRow.alloc ?_ _) | (with_reducible refine ownsRow_drewN ?_ _) | ((with_reducible refine ownsRow_setCell_below ?_ ?_ _); rotate_left; focus (first | omega | (simp; done) | (simp; omega))))); exact h9)
      · (repeat (first | assumption | (with_reducible exact Below.refl _ _) | (with_reducible refine Below.drewN ?_ _) | (with_reducible refine Below.drew ?_) | (with_reducible refine Below.allocS ?_ _) | ((with_reducible refine Below.setCell ?_ ?_ _); rotate_left; focus (first | omega | (simp; done) | (simp; omega))) | (with_reducible refine Below.step ?_ (by assumption))))

end Go.Proofs.Ytbmabpnolheghaa
