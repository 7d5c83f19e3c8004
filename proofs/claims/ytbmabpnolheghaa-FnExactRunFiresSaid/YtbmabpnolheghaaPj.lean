/-
  The walk of the reference's RunFires.
-/
import Derived.Test.YtbmabpnolheghaaPi
set_option linter.unusedVariables false
set_option linter.unusedSimpArgs false
namespace Go.Proofs.Ytbmabpnolheghaa
open Go.RowKit

/-- The clocks behind 'k' fires, who fired, and the time. -/
def runF (n : Nat) (l : List Nat) (J : Nat) : Nat → List Nat
  | 0 => l
  | k + 1 => fireL (runF n l J k) n J
def runO (n : Nat) (l : List Nat) (J T : Nat) : List Int := (List.range T).map fun k => ((firedF (runF n l J k) n J).2.length : Int)
def sumQ (n : Nat) (l : List Nat) (J : Nat) : Nat → Nat
  | 0 => 0
  | k + 1 => fbin .add .f32 (sumQ n l J k) (timeQ (runF n l J k) n)
def okF (n : Nat) (l : List Nat) (m : Nat) (lk : List Nat) (J k : Nat) : Bool := clocksB n (runF n l J (k + 1)) m lk
def firesB (n : Nat) (l : List Nat) (m : Nat) (lk : List Nat) (J : Nat) (i : Int) : Bool := ((clocksB n l m lk && levelB J) && inZ i 0 64) && upto (okF n l m lk J) i.toNat
theorem runO_succ (n : Nat) (l : List Nat) (J k : Nat) : runO n l J (k + 1) = runO n l J k ++ [((firedF (runF n l J k) n J).2.length : Int)] := by
  unfold runO
  rw [List.range_succ, List.map_append]
  rfl
theorem fire_len {l : List Nat} {n J : Nat} (h : FitF n (firedF l n J)) : (fireO l n J).length = (firedF l n J).2.length := by
  unfold fireO
  rw [← sort_set (map_nodup h.2.2.1), sortI_length, List.length_map]

set_option maxRecDepth 100000 in
set_option maxHeartbeats 8000000 in
theorem specRunFires_any (v v' : Value) (n m : Nat) (l lk : List Nat) (J : Nat) (i : Int) (w : World) (h : RowAt w v 2 n (fl l)) (h' : RowAt w v' 1 m (fl lk)) : Calls Try.prog 49 #[.agg #[v, v'], .float .f32 J, .int .i64 i] w (GiveF (cN (firesB n l m lk J i) n) (cL (firesB n l m lk J i) (runF n l J i.toNat)) (cN (firesB n l m lk J i) m) (cL (firesB n l m lk J i) lk) (cN (firesB n l m lk J i) i.toNat) (cZ (firesB n l m lk J i) (runO n l J i.toNat)) (cT (firesB n l m lk J i) (sumQ n l J i.toNat)) (firesB n l m lk J i) w) := by
  have H := Lib.hid h
  have H' := Lib.hid h'
  clear h h'
  have HBB : Hid (firesB n l m lk J i = (((clocksB n l m lk && levelB J) && inZ i 0 64) && upto (okF n l m lk J) i.toNat)) := rfl
  cases hc : clocksB n l m lk
  · have HF : Hid (firesB n l m lk J i = false) := by show _ = _; rw [HBB.out]; simp [hc]
    go_enter Try.func49, Try.ntmps49
    go_wp2_with (first | (go_at_call 74; refine (l05Is_any v v' n m l lk _ _ ?_ ?_ ?_).mono ?_; (focus (refine RowAt.below H.out ?_; (repeat (first | assumption | (with_reducible exact Below.refl _ _) | (with_reducible refine Below.drewN ?_ _) | (with_reducible refine Below.drew ?_) | (with_reducible refine Below.allocS ?_ _) | ((with_reducible refine Below.setCell ?_ ?_ _); rotate_left; focus (first | omega | (simp; done) | (simp; omega))) | (with_reducible refine Below.step ?_ (by assumption)))); done)); (focus (refine RowAt.below H'.out ?_; (repeat (first | assumption | (with_reducible exact Below.refl _ _) | (with_reducible refine Below.drewN ?_ _) | (with_reducible refine Below.drew ?_) | (with_reducible refine Below.allocS ?_ _) | ((with_reducible refine Below.setCell ?_ ?_ _); rotate_left; focus (first | omega | (simp; done) | (simp; omega))) | (with_reducible refine Below.step ?_ (by assumption)))); done)); (focus (simp [Held, go_sem]; done)); rintro e w' ⟨c9, rfl, rfl⟩; rw [hc]))
    refine bodyPost_ret (v := ?_) (by first | (simp [results, Try.results49, go_sem, *]; rfl) | (simp [results, Try.results49, go_sem, *]; done)) rfl ?_
    rw [HF.out]
    refine ⟨_, _, _, _, rfl, ownsRow_nil', ownsRow_nil', ownsRow_nil', (fun i hi => by cases hi), (fun i hi => by cases hi), (fun i hi => by cases hi), cn_null, ?_⟩
    (repeat (first | assumption | (with_reducible exact Below.refl _ _) | (with_reducible refine Below.drewN ?_ _) | (with_reducible refine Below.drew ?_) | (with_reducible refine Below.allocS ?_ _) | ((with_reducible refine Below.setCell ?_ ?_ _); rotate_left; focus (first | omega | (simp; done) | (simp; omega))) | (with_reducible refine Below.step ?_ (by assumption))))
  cases hl : levelB J
  · have HF : Hid (firesB n l m lk J i = false) := by show _ = _; rw [HBB.out]; simp [hl]
    go_enter Try.func49, Try.ntmps49
    go_wp2_with (first | (go_at_call 74; refine (l05Is_any v v' n m l lk _ _ ?_ ?_ ?_).mono ?_; (focus (refine RowAt.below H.out ?_; (repeat (first | assumption | (with_reducible exact Below.refl _ _) | (with_reducible refine Below.drewN ?_ _) | (with_reducible refine Below.drew ?_) | (with_reducible refine Below.allocS ?_ _) | ((with_reducible refine Below.setCell ?_ ?_ _); rotate_left; focus (first | omega | (simp; done) | (simp; omega))) | (with_reducible refine Below.step ?_ (by assumption)))); done)); (focus (refine RowAt.below H'.out ?_; (repeat (first | assumption | (with_reducible exact Below.refl _ _) | (with_reducible refine Below.drewN ?_ _) | (with_reducible refine Below.drew ?_) | (with_reducible refine Below.allocS ?_ _) | ((with_reducible refine Below.setCell ?_ ?_ _); rotate_left; focus (first | omega | (simp; done) | (simp; omega))) | (with_reducible refine Below.step ?_ (by assumption)))); done)); (focus (simp [Held, go_sem]; done)); rintro e w' ⟨c9, rfl, rfl⟩; rw [hc]) | (go_at_call 100; refine (l05Least_any _ _).mono ?_; rintro e w' ⟨n9, rfl, rfl⟩; rw [hl]))
    refine bodyPost_ret (v := ?_) (by first | (simp [results, Try.results49, go_sem, *]; rfl) | (simp [results, Try.results49, go_sem, *]; done)) rfl ?_
    rw [HF.out]
    refine ⟨_, _, _, _, rfl, ownsRow_nil', ownsRow_nil', ownsRow_nil', (fun i hi => by cases hi), (fun i hi => by cases hi), (fun i hi => by cases hi), cn_null, ?_⟩
    (repeat (first | assumption | (with_reducible exact Below.refl _ _) | (with_reducible refine Below.drewN ?_ _) | (with_reducible refine Below.drew ?_) | (with_reducible refine Below.allocS ?_ _) | ((with_reducible refine Below.setCell ?_ ?_ _); rotate_left; focus (first | omega | (simp; done) | (simp; omega))) | (with_reducible refine Below.step ?_ (by assumption))))
  cases hz : inZ i 0 64
  · have HF : Hid (firesB n l m lk J i = false) := by show _ = _; rw [HBB.out]; simp [hz]
    go_enter Try.func49, Try.ntmps49
    go_wp2_with (first | (go_at_call 74; refine (l05Is_any v v' n m l lk _ _ ?_ ?_ ?_).mono ?_; (focus (refine RowAt.below H.out ?_; (repeat (first | assumption | (with_reducible exact Below.refl _ _) | (with_reducible refine Below.drewN ?_ _) | (with_reducible refine Below.drew ?_) | (with_reducible refine Below.allocS ?_ _) | ((with_reducible refine Below.setCell ?_ ?_ _); rotate_left; focus (first | omega | (simp; done) | (simp; omega))) | (with_reducible refine Below.step ?_ (by assumption)))); done)); (focus (refine RowAt.below H'.out ?_; (repeat (first | assumption | (with_reducible exact Below.refl _ _) | (with_reducible refine Below.drewN ?_ _) | (with_reducible refine Below.drew ?_) | (with_reducible refine Below.allocS ?_ _) | ((with_reducible refine Below.setCell ?_ ?_ _); rotate_left; focus (first | omega | (simp; done) | (simp; omega))) | (with_reducible refine Below.step ?_ (by assumption)))); done)); (focus (simp [Held, go_sem]; done)); rintro e w' ⟨c9, rfl, rfl⟩; rw [hc]) | (go_at_call 100; refine (l05Least_any _ _).mono ?_; rintro e w' ⟨n9, rfl, rfl⟩; rw [hl]) | (go_at_call 101; refine (l00InZ_any _ _ _ _).mono ?_; rintro e w' ⟨rfl, e9⟩; subst w'; rw [hz]))
    refine bodyPost_ret (v := ?_) (by first | (simp [results, Try.results49, go_sem, *]; rfl) | (simp [results, Try.results49, go_sem, *]; done)) rfl ?_
    rw [HF.out]
    refine ⟨_, _, _, _, rfl, ownsRow_nil', ownsRow_nil', ownsRow_nil', (fun i hi => by cases hi), (fun i hi => by cases hi), (fun i hi => by cases hi), cn_null, ?_⟩
    (repeat (first | assumption | (with_reducible exact Below.refl _ _) | (with_reducible refine Below.drewN ?_ _) | (with_reducible refine Below.drew ?_) | (with_reducible refine Below.allocS ?_ _) | ((with_reducible refine Below.setCell ?_ ?_ _); rotate_left; focus (first | omega | (simp; done) | (simp; omega))) | (with_reducible refine Below.step ?_ (by assumption))))
  obtain ⟨T, rfl⟩ : ∃ T : Nat, i = (T : Int) := ⟨i.toNat, by unfold inZ at hz; simp at hz; omega⟩
  have hT : T ≤ 64 := by unfold inZ at hz; simp at hz; omega
  have HB2 : Hid (firesB n l m lk J (T : Int) = upto (okF n l m lk J) T) := by show _ = _; rw [HBB.out, hc, hl, hz]; simp
  have HC := Lib.hid hc
  have HJ := Lib.hid (level_fin hl)
  have c1 := (clocks_parts hc).1
  have c2 := (clocks_parts hc).2.1
  have hm0 : 0 < m := by have := (clocks_parts hc).2.2.2.1; have := Nat.mul_pos (by omega : 0 < n) (by omega : 0 < n); omega
  have hm9 : m ≤ 144 := by have := (clocks_parts hc).2.2.2.1; have := sq_small c2; omega
  obtain ⟨i0, hi0, hz0, hz1, hz2⟩ := info_parts info_Int64
  clear HBB
  simp only [Int.toNat_natCast]
  go_enter Try.func49, Try.ntmps49
  go_wp2_with (first | (go_at_call 74; refine (l05Is_any v v' n m l lk _ _ ?_ ?_ ?_).mono ?_; (focus (refine RowAt.below H.out ?_; (repeat (first | assumption | (with_reducible exact Below.refl _ _) | (with_reducible refine Below.drewN ?_ _) | (with_reducible refine Below.drew ?_) | (with_reducible refine Below.allocS ?_ _) | ((with_reducible refine Below.setCell ?_ ?_ _); rotate_left; focus (first | omega | (simp; done) | (simp; omega))) | (with_reducible refine Below.step ?_ (by assumption)))); done)); (focus (refine RowAt.below H'.out ?_; (repeat (first | assumption | (with_reducible exact Below.refl _ _) | (with_reducible refine Below.drewN ?_ _) | (with_reducible refine Below.drew ?_) | (with_reducible refine Below.allocS ?_ _) | ((with_reducible refine Below.setCell ?_ ?_ _); rotate_left; focus (first | omega | (simp; done) | (simp; omega))) | (with_reducible refine Below.step ?_ (by assumption)))); done)); (focus (simp [Held, go_sem]; done)); rintro e w' ⟨c9, rfl, rfl⟩; rw [hc]) | (go_at_call 100; refine (l05Least_any _ _).mono ?_; rintro e w' ⟨n9, rfl, rfl⟩; rw [hl]) | (go_at_call 101; refine (l00InZ_any _ _ _ _).mono ?_; rintro e w' ⟨rfl, e9⟩; subst w'; rw [hz]) | (go_at_call 102; refine (l05Own_any v v' n m l lk _ _ ?_ ?_ ?_ (by omega) hm0 (by omega) (by omega)).mono ?_; (focus (refine RowAt.below H.out ?_; (repeat (first | assumption | (with_reducible exact Below.refl _ _) | (with_reducible refine Below.drewN ?_ _) | (with_reducible refine Below.drew ?_) | (with_reducible refine Below.allocS ?_ _) | ((with_reducible refine Below.setCell ?_ ?_ _); rotate_left; focus (first | omega | (simp; done) | (simp; omega))) | (with_reducible refine Below.step ?_ (by assumption)))); done)); (focus (refine RowAt.below H'.out ?_; (repeat (first | assumption | (with_reducible exact Below.refl _ _) | (with_reducible refine Below.drewN ?_ _) | (with_reducible refine Below.drew ?_) | (with_reducible refine Below.allocS ?_ _) | ((with_reducible refine Below.setCell ?_ ?_ _); rotate_left; focus (first | omega | (simp; done) | (simp; omega))) | (with_reducible refine Below.step ?_ (by assumption)))); done)); (focus (simp [Held, go_sem]; done))))
  rintro e w2 ⟨u0, u1, rfl, ou0, ou1, hb2⟩
  obtain ⟨ga, ca, rfl⟩ := ownsRow_own ou0 (by omega)
  obtain ⟨gb, cb, rfl⟩ := ownsRow_own ou1 (by omega)
  have hk2 := Held.below hb2 (l := [(⟨w.heap.size, 0, none⟩, v), (⟨w.heap.size, 1, none⟩, v'), (⟨w.heap.size + 1, 0, none⟩, .slice none 0 0), (⟨w.heap.size + 1, 1, none⟩, .slice none 0 0)]) (by simp [Held, go_sem, *])
  simp only [Held, and_true] at hk2
  have hg0 := ownsRow_lt ou0 ga rfl
  have hg1 := ownsRow_lt ou1 gb rfl
  have hB2 : Below w.heap.size w w2 := by (repeat (first | assumption | (with_reducible exact Below.refl _ _) | (with_reducible refine Below.drewN ?_ _) | (with_reducible refine Below.drew ?_) | (with_reducible refine Below.allocS ?_ _) | ((with_reducible refine Below.setCell ?_ ?_ _); rotate_left; focus (first | omega | (simp; done) | (simp; omega))) | (with_reducible refine Below.step ?_ (by assumption))))
  have hz2' := hb2.size
  simp at hg0 hg1 hz2'
  have ou0' := ownsRow_base (base' := w.heap.size + 1 + 1) (by simp; try omega) ou0
  have ou1' := ownsRow_base (base' := w.heap.size + 1 + 1) (by simp; try omega) ou1
  have OU0 := Lib.hid ou0'
  have OU1 := Lib.hid ou1'
  have hgab : ga ≠ gb := fun e => ownsRow_ne ou0' ou1' tc_ne ga rfl (by rw [e]; rfl)
  clear ou0 ou1 ou0' ou1'
  go_wp2_with fail
  go_loopw [2, 11, 12] (fun jv uv sv wr => ∃ (k s : Nat), k ≤ T ∧ jv = .int .i64 ((T : Int) - (k : Int)) ∧ sv = .float .f32 s ∧ upto (okF n l m lk J) k = true ∧ Hid (clocksB n (runF n l J k) m lk = true) ∧ Hid (cn .f32 s = sumQ n l J k) ∧ Held [(⟨w2.heap.size, 0, none⟩, (.slice (some ⟨ga, 0, none⟩) n ca)), (⟨w2.heap.size, 1, none⟩, (.slice (some ⟨gb, 0, none⟩) m cb)), (⟨w.heap.size + 1, 0, none⟩, .slice none 0 0), (⟨w.heap.size + 1, 1, none⟩, .slice none 0 0)] wr ∧ wr.ownsRow (w.heap.size + 1 + 1) 113 2 (.slice (some ⟨ga, 0, none⟩) n ca) n (fl (runF n l J k)) ∧ wr.ownsRow (w.heap.size + 1 + 1) 23 1 (.slice (some ⟨gb, 0, none⟩) m cb) m (fl lk) ∧ wr.ownsRow (w.heap.size + 1 + 1) 2 1 uv k (il (runO n l J k)) ∧ (∀ i, uv.ownBlock = some i → i ≠ w2.heap.size) ∧ Below w.heap.size w wr) (fun jv _ _ _ => (intOf jv).toNat)
  case atStart =>
    refine ⟨0, 0, Nat.zero_le _, by simp, rfl, rfl, HC, cn_null, ?_, ?_, ?_, ?_, ?_, ?_⟩
    · simp [Held, go_sem, *]
    · exact (by have h9 := OU0.out; (repeat (first | (with_reducible refine World.ownsRow.alloc ?_ _) | (with_reducible refine ownsRow_drewN ?_ _) | ((with_reducible refine ownsRow_setCell_below ?_ ?_ _); rotate_left; focus (first | omega | (simp; done) | (simp; omega))))); exact h9)
    · exact (by have h9 := OU1.out; (repeat (first | (with_reducible refine World.ownsRow.alloc ?_ _) | (with_reducible refine ownsRow_drewN ?_ _) | ((with_reducible refine ownsRow_setCell_below ?_ ?_ _); rotate_left; focus (first | omega | (simp; done) | (simp; omega))))); exact h9)
    · exact own_empty _ _ _ _ (by simp) (by first | omega | (simp; omega))
    · intro j hj
      have e1 := own_some hj
      omega
    · (repeat (first | assumption | (with_reducible exact Below.refl _ _) | (with_reducible refine Below.drewN ?_ _) | (with_reducible refine Below.drew ?_) | (with_reducible refine Below.allocS ?_ _) | ((with_reducible refine Below.setCell ?_ ?_ _); rotate_left; focus (first | omega | (simp; done) | (simp; omega))) | (with_reducible refine Below.step ?_ (by assumption))))
  case round =>
    obtain ⟨k, s, hk, rfl, rfl, hup, HCL, HS, hH, o0, o1, ov, nv, hBr⟩ := hrel
    have UP := Lib.hid hup
    have OU0 := Lib.hid o0
    have OU1 := Lib.hid o1
    have OV := Lib.hid ov
    have LV := Lib.hid (ownsRow_lt ov)
    have HH := Lib.hid hH
    have NV := Lib.hid nv
    have hll : (runF n l J k).length = n * 2 := by have := o0.1; rwa [fl_length] at this
    simp only [Held, and_true] at hH
    have hzr := hBr.size
    have hpr : w2.heap.size < wr.heap.size := HH.out.1.1
    clear o0 o1 ov hup nv
    by_cases hlt : k < T
    · have d1 : decide ((0 : Int) < (T : Int) - (k : Int)) = true := decide_eq_true (by omega)
      have hf : ∀ i, i < n → finB .f32 (turnAt (runF n l J k) i) = true := fun i hi => okClock_fin HCL.out hi
      have HF := Lib.hid hf
      have hKl := (fired_fits hll hf HJ.out).len
      have HTN : Hid (cn .f32 (timeQ (runF n l J k) n) = timeQ (runF n l J k) n) := cn_of_not (some_not_nan (time_some hf))
      clear hf
      cases e1 : clocksB n (runF n l J (k + 1)) m lk
      all_goals
        go_wp2_with fail
        refine (l05Fire_any (.slice (some ⟨gb, 0, none⟩) m cb) n ca ga w2.heap.size J (w.heap.size + 1 + 1) (runF n l J k) _ OU0.out ⟨HH.out.1, HH.out.2.1, trivial⟩ (by omega) (by omega) c2 HF.out HJ.out).mono ?_
        rintro e w6 ⟨u, rfl, ol, oc, hk6⟩
        have hz6 := hk6.size
        obtain ⟨la, lc, rfl⟩ := ownsRow_len ol
        have Y0 : Hid (w6.ownsRow (w.heap.size + 1 + 1) 113 2 (.slice (some ⟨ga, 0, none⟩) n ca) n (fl (runF n l J (k + 1)))) := oc
        have Y1 : Hid (w6.ownsRow (w.heap.size + 1 + 1) 23 1 (.slice (some ⟨gb, 0, none⟩) m cb) m (fl lk)) := ownsRow_kept OU1.out hk6 (fun r hr hm => by have h8 := own_some hr; have h9 := Option.some.inj (List.mem_singleton.1 hm); omega)
        have V6 : Hid (w6.ownsRow (w.heap.size + 1 + 1) 2 1 u11 k (il (runO n l J k))) := ownsRow_kept OV.out hk6 (fun r hr hm => ownsRow_ne OU0.out OV.out ci_ne ga rfl (hr.trans (List.mem_singleton.1 hm)))
        have hk6' := held_many hk6 HH.out (fun q9 hq9 hm => by
          have h9 := List.mem_singleton.1 hm
          simp only [List.mem_cons, List.not_mem_nil, or_false] at hq9
          rcases hq9 with rfl | rfl | rfl | rfl <;> (dsimp only at h9; have h8 := Option.some.inj h9; omega))
        have HH6 := Lib.hid hk6'
        have hB6 : Below w.heap.size w w6 := hBr.trans (hk6.toBelow hzr (fun r hr => by have h8 := Option.some.inj (List.mem_singleton.1 hr); omega))
        simp only [Held, and_true] at hk6'
        clear ol oc hk6 hH
      · go_wp2_with (first | (go_at_call 74; refine (l05Is_any (.slice (some ⟨ga, 0, none⟩) n ca) (.slice (some ⟨gb, 0, none⟩) m cb) n m (runF n l J (k + 1)) lk _ _ (ownsRow_rowAt Y0.out) (ownsRow_rowAt Y1.out) ⟨HH6.out.1, HH6.out.2.1, trivial⟩).mono ?_; rintro e w' ⟨c9, rfl, rfl⟩; rw [e1]))
        refine bodyPost_ret (v := ?_) (by first | (simp [results, Try.results49, go_sem, *]; rfl) | (simp [results, Try.results49, go_sem, *]; done)) rfl ?_
        rw [HB2.out, upto_false hlt (show okF n l m lk J k = false from e1)]
        refine ⟨_, _, _, _, rfl, ownsRow_nil', ownsRow_nil', ownsRow_nil', (fun i hi => by cases hi), (fun i hi => by cases hi), (fun i hi => by cases hi), cn_null, ?_⟩
        (repeat (first | assumption | (with_reducible exact Below.refl _ _) | (with_reducible refine Below.drewN ?_ _) | (with_reducible refine Below.drew ?_) | (with_reducible refine Below.allocS ?_ _) | ((with_reducible refine Below.setCell ?_ ?_ _); rotate_left; focus (first | omega | (simp; done) | (simp; omega))) | (with_reducible refine Below.step ?_ (by assumption))))
      · go_wp2_with (first | (go_at_call 74; refine (l05Is_any (.slice (some ⟨ga, 0, none⟩) n ca) (.slice (some ⟨gb, 0, none⟩) m cb) n m (runF n l J (k + 1)) lk _ _ (ownsRow_rowAt Y0.out) (ownsRow_rowAt Y1.out) ⟨HH6.out.1, HH6.out.2.1, trivial⟩).mono ?_; rintro e w' ⟨c9, rfl, rfl⟩; rw [e1]) | (at_builtin; refine wpList_append_own_at _ rfl _ _ 80 rfl (w.heap.size + 1 + 1) 2 i0 (.int .i64 0) 1 8 Try.underlying80 hi0 hz0 hz1 hz2 rfl (by decide) _ k (il (runO n l J k)) rfl (by have h9 := V6.out; (repeat (first | (with_reducible refine World.ownsRow.alloc ?_ _) | (with_reducible refine ownsRow_drewN ?_ _) | ((with_reducible refine ownsRow_setCell_below ?_ ?_ _); rotate_left; focus (first | omega | (simp; done) | (simp; omega))))); exact h9) ⟨_, 0, none⟩ 1 1 [.int .i64 _] rfl rfl (cell_one_at _ _ (by simp)) (int_one _) (by simp only [maxLen]; omega) (by omega) (by first | omega | (simp; omega)) ?_))
        intro v8 w8 ho8 hg8 _ hat8
        have hk8 := Held_kept1 (Kept.of_grown hg8) (l := [(⟨w2.heap.size, 0, none⟩, (.slice (some ⟨ga, 0, none⟩) n ca)), (⟨w2.heap.size, 1, none⟩, (.slice (some ⟨gb, 0, none⟩) m cb)), (⟨w.heap.size + 1, 0, none⟩, .slice none 0 0), (⟨w.heap.size + 1, 1, none⟩, .slice none 0 0)]) (by simp only [List.mem_cons, List.not_mem_nil, or_false, forall_eq_or_imp, forall_eq]; exact ⟨fun e => NV.out _ e rfl, fun e => NV.out _ e rfl, fun e => by have := LV.out _ e; omega, fun e => by have := LV.out _ e; omega⟩) (by simp [Held, go_sem, *] <;> omega)
        have Z0 : Hid (w8.ownsRow (w.heap.size + 1 + 1) 113 2 (.slice (some ⟨ga, 0, none⟩) n ca) n (fl (runF n l J (k + 1)))) := ownsRow_kept (by have h9 := Y0.out; (repeat (first | (with_reducible refine World.ownsRow.alloc ?_ _) | (with_reducible refine ownsRow_drewN ?_ _) | ((with_reducible refine ownsRow_setCell_below ?_ ?_ _); rotate_left; focus (first | omega | (simp; done) | (simp; omega))))); exact h9) (Kept.of_grown hg8) (fun j hj hm => ownsRow_ne Y0.out V6.out ci_ne j hj (List.mem_singleton.1 hm).symm)
        have Z1 : Hid (w8.ownsRow (w.heap.size + 1 + 1) 23 1 (.slice (some ⟨gb, 0, none⟩) m cb) m (fl lk)) := ownsRow_kept (by have h9 := Y1.out; (repeat (first | (with_reducible refine World.ownsRow.alloc ?_ _) | (with_reducible refine ownsRow_drewN ?_ _) | ((with_reducible refine ownsRow_setCell_below ?_ ?_ _); rotate_left; focus (first | omega | (simp; done) | (simp; omega))))); exact h9) (Kept.of_grown hg8) (fun j hj hm => ownsRow_ne Y1.out V6.out fi_ne j hj (List.mem_singleton.1 hm).symm)
        have Z2 : Hid (w8.ownsRow (w.heap.size + 1 + 1) 2 1 v8 (k + 1) (il (runO n l J (k + 1)))) := by
          show World.ownsRow _ _ _ _ _ _ _
          rw [runO_succ, il_snoc]
          exact ho8
        have hB8 : Below w.heap.size w w8 := by
          refine Below.grown ?_ hg8 (by simp; omega) (fun j hj => by have := LV.out j hj; omega)
          (repeat (first | assumption | (with_reducible exact Below.refl _ _) | (with_reducible refine Below.drewN ?_ _) | (with_reducible refine Below.drew ?_) | (with_reducible refine Below.allocS ?_ _) | ((with_reducible refine Below.setCell ?_ ?_ _); rotate_left; focus (first | omega | (simp; done) | (simp; omega))) | (with_reducible refine Below.step ?_ (by assumption))))
        have HA := Lib.hid hat8
        have H8 := Lib.hid hk8
        simp only [Held, and_true] at hk8
        clear hat8 hg8 ho8 Y0 Y1 V6 hk6' HH6
        go_wp2_with (first | (refine wpList_fbin rfl rfl rfl rfl rfl (fun r n9 hr => ?_)))
        go_roundw
        case rel =>
          refine ⟨k + 1, r, hlt, (by first | go_num | (congr 1; omega)), rfl, (by rw [upto_succ, UP.out]; exact e1), e1, ?_, ?_, (by have h9 := Z0.out; (repeat (first | (with_reducible refine World.ownsRow.alloc ?_ _) | (with_reducible refine ownsRow_drewN ?_ _) | ((with_reducible refine ownsRow_setCell_below ?_ ?_ _); rotate_left; focus (first | omega | (simp; done) | (simp; omega))))); exact h9), (by have h9 := Z1.out; (repeat (first | (with_reducible refine World.ownsRow.alloc ?_ _) | (with_reducible refine ownsRow_drewN ?_ _) | ((with_reducible refine ownsRow_setCell_below ?_ ?_ _); rotate_left; focus (first | omega | (simp; done) | (simp; omega))))); exact h9), (by have h9 := Z2.out; (repeat (first | (with_reducible refine World.ownsRow.alloc ?_ _) | (with_reducible refine ownsRow_drewN ?_ _) | ((with_reducible refine ownsRow_setCell_below ?_ ?_ _); rotate_left; focus (first | omega | (simp; done) | (simp; omega))))); exact h9), ?_, ?_⟩
          · show cn .f32 r = fbin .add .f32 (sumQ n l J k) (timeQ (runF n l J k) n)
            rw [hr, HS.out, HTN.out]
          · simp [Held, go_sem, *]
          · intro j hj
            rcases HA.out with e | e
            · rw [e] at hj
              exact NV.out j hj
            · rw [e] at hj
              cases hj
              first | omega | (simp; omega)
          · (repeat (first | assumption | (with_reducible exact Below.refl _ _) | (with_reducible refine Below.drewN ?_ _) | (with_reducible refine Below.drew ?_) | (with_reducible refine Below.allocS ?_ _) | ((with_reducible refine Below.setCell ?_ ?_ _); rotate_left; focus (first | omega | (simp; done) | (simp; omega))) | (with_reducible refine Below.step ?_ (by assumption))))
        case measure => simp [intOf]; omega
    · obtain rfl : k = T := by omega
      have d1 : decide ((0 : Int) < (k : Int) - (k : Int)) = false := decide_eq_false (by omega)
      have N01 := Lib.hid (ownsRow_ne OU0.out OU1.out tc_ne)
      have N02 := Lib.hid (ownsRow_ne OU0.out OV.out ci_ne)
      have N12 := Lib.hid (ownsRow_ne OU1.out OV.out fi_ne)
      go_wp2_with fail
      refine bodyPost_ret (v := ?_) (by first | (simp [results, Try.results49, go_sem, *]; rfl) | (simp [results, Try.results49, go_sem, *]; done)) rfl ?_
      rw [HB2.out, UP.out]
      refine ⟨_, _, _, s, rfl, ?_, ?_, ?_, N01.out, N02.out, N12.out, HS.out, ?_⟩
      · refine ownsRow_base (base := w.heap.size + 1 + 1) (by omega) ?_
        exact (by have h9 := OU0.out; (repeat (first | (with_reducible refine World.ownsRow.alloc ?_ _) | (with_reducible refine ownsRow_drewN ?_ _) | ((with_reducible refine ownsRow_setCell_below ?_ ?_ _); rotate_left; focus (first | omega | (simp; done) | (simp; omega))))); exact h9)
      · refine ownsRow_base (base := w.heap.size + 1 + 1) (by omega) ?_
        exact (by have h9 := OU1.out; (repeat (first | (with_reducible refine World.ownsRow.alloc ?_ _) | (with_reducible refine ownsRow_drewN ?_ _) | ((with_reducible refine ownsRow_setCell_below ?_ ?_ _); rotate_left; focus (first | omega | (simp; done) | (simp; omega))))); exact h9)
      · refine ownsRow_base (base := w.heap.size + 1 + 1) (by omega) ?_
        exact (by have h9 := OV.out; (repeat (first | (with_reducible refine World.ownsRow.alloc ?_ _) | (with_reducible refine ownsRow_drewN ?_ _) | ((with_reducible refine ownsRow_setCell_below ?_ ?_ _); rotate_left; focus (first | omega | (simp; done) | (simp; omega))))); exact h9)
      · (repeat (first | assumption | (with_reducible exact Below.refl _ _) | (with_reducible refine Below.drewN ?_ _) | (with_reducible refine Below.drew ?_) | (with_reducible refine Below.allocS ?_ _) | ((with_reducible refine Below.setCell ?_ ?_ _); rotate_left; focus (first | omega | (simp; done) | (simp; omega))) | (with_reducible refine Below.step ?_ (by assumption))))

end Go.Proofs.Ytbmabpnolheghaa
