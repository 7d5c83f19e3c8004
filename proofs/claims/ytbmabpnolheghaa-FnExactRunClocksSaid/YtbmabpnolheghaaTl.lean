/-
  The walks of clocks that run.
-/
import Derived.Test.YtbmabpnolheghaaTj
set_option linter.unusedVariables false
set_option linter.unusedSimpArgs false
namespace Go.Proofs.Ytbmabpnolheghaa
open Go.RowKit

/-- The clocks' turns behind 'k' steps. -/
def runS (n : Nat) (l lk : List Nat) (y : Nat) : Nat → List Nat
  | 0 => l
  | k + 1 => turned (runS n l lk y k) (stepQ n (runS n l lk y k) lk y) n
def runOk (n : Nat) (l lk : List Nat) (y k : Nat) : Bool := upto (fun j => finB .f32 (stepQ n (runS n l lk y k) lk y j)) n
def runR (n : Nat) (l lk : List Nat) (y k : Nat) : Nat := ordR n (runS n l lk y (k + 1))
def runB (n : Nat) (l : List Nat) (m : Nat) (lk : List Nat) (y : Nat) (i : Int) : Bool := ((clocksB n l m lk && levelB y) && inZ i 0 64) && upto (runOk n l lk y) i.toNat
theorem runS_length (n : Nat) (l lk : List Nat) (y : Nat) : ∀ k, (runS n l lk y k).length = l.length
  | 0 => rfl
  | k + 1 => by show (turned _ _ _).length = _; rw [turned_length, runS_length n l lk y k]
theorem runS_clocks {n m : Nat} {l lk : List Nat} (y : Nat) (h : clocksB n l m lk = true) (hl : l.length = n * 2) : ∀ k, clocksB n (runS n l lk y k) m lk = true
  | 0 => h
  | k + 1 => turned_clocks _ (runS_clocks y h hl k) (by rw [runS_length]; exact hl)
theorem kept_two (w : World) (p : Nat) (a b : Value) : Kept w ((w.setCell ⟨p, 0, none⟩ a).setCell ⟨p, 1, none⟩ b) [some p] :=
  ⟨rfl, rfl, rfl, by simp, fun k hk hne => by
    have hk' : k ≠ p := fun e => hne (by rw [e]; exact List.mem_singleton.2 rfl)
    rw [Below.heap_setCell _ _ _ _ hk', Below.heap_setCell _ _ _ _ hk']⟩
/-- Clocks, floats (each NaN taken as one) and a word given back. -/
def GiveCN (n : Nat) (l : List Nat) (m : Nat) (lk : List Nat) (k : Nat) (L : List Nat) (b : Bool) (w : World) (e : Ending) (w' : World) : Prop :=
  ∃ v0 v1 u rs, e = .returned (.tuple #[.agg #[v0, v1], u, .bool b]) ∧ w'.ownsRow w.heap.size 113 2 v0 n (fl l) ∧ w'.ownsRow w.heap.size 23 1 v1 m (fl lk) ∧ w'.ownsRow w.heap.size 23 1 u k (fl rs) ∧ (∀ i, v0.ownBlock = some i → v1.ownBlock ≠ some i) ∧ (∀ i, v0.ownBlock = some i → u.ownBlock ≠ some i) ∧ (∀ i, v1.ownBlock = some i → u.ownBlock ≠ some i) ∧ rs.map (cn .f32) = L ∧ Below w.heap.size w w'

theorem l05Step_lit {n m : Nat} {l lk : List Nat} {y : Nat} {B : Bool} (hB : upto (fun j => finB .f32 (stepQ n l lk y j)) n = B) (v v' : Value) (p : Nat) (w : World) (h : RowAt w v 2 n (fl l)) (h' : RowAt w v' 1 m (fl lk)) (hp : Held [(⟨p, 0, none⟩, v), (⟨p, 1, none⟩, v')] w) (hc : clocksB n l m lk = true) : Calls Try.prog 103 #[.pointer (some ⟨p, 0, none⟩), .float .f32 y] w (GiveC (cN B n) (cL B (turned l (stepQ n l lk y) n)) (cN B m) (cL B lk) B w) := hB ▸ l05Step_any v v' n m l lk p y w h h' hp hc

set_option maxRecDepth 100000 in
set_option maxHeartbeats 8000000 in
theorem specRunClocks_any (v v' : Value) (n m : Nat) (l lk : List Nat) (y : Nat) (i : Int) (w : World) (h : RowAt w v 2 n (fl l)) (h' : RowAt w v' 1 m (fl lk)) : Calls Try.prog 42 #[.agg #[v, v'], .float .f32 y, .int .i64 i] w (GiveCN (cN (runB n l m lk y i) n) (cL (runB n l m lk y i) (runS n l lk y i.toNat)) (cN (runB n l m lk y i) m) (cL (runB n l m lk y i) lk) (cN (runB n l m lk y i) i.toNat) (cL (runB n l m lk y i) ((List.range i.toNat).map (runR n l lk y))) (runB n l m lk y i) w) := by
  have H := Lib.hid h
  have H' := Lib.hid h'
  have hlen : l.length = n * 2 := by have := h.1; rwa [fl_length] at this
  clear h h'
  have HBB : Hid (runB n l m lk y i = (((clocksB n l m lk && levelB y) && inZ i 0 64) && upto (runOk n l lk y) i.toNat)) := rfl
  cases hc : clocksB n l m lk
  · have HF : Hid (runB n l m lk y i = false) := by show _ = _; rw [HBB.out]; simp [hc]
    go_enter Try.func42, Try.ntmps42
    go_wp2_with (first | (go_at_call 74; refine (l05Is_any v v' n m l lk _ _ ?_ ?_ ?_).mono ?_; (focus (refine RowAt.below H.out ?_; (repeat (first | assumption | (with_reducible exact Below.refl _ _) | (with_reducible refine Below.drewN ?_ _) | (with_reducible refine Below.drew ?_) | (with_reducible refine Below.allocS ?_ _) | ((with_reducible refine Below.setCell ?_ ?_ _); rotate_left; focus (first | omega | (simp; done) | (simp; omega))) | (with_reducible refine Below.step ?_ (by assumption)))); done)); (focus (refine RowAt.below H'.out ?_; (repeat (first | assumption | (with_reducible exact Below.refl _ _) | (with_reducible refine Below.drewN ?_ _) | (with_reducible refine Below.drew ?_) | (with_reducible refine Below.allocS ?_ _) | ((with_reducible refine Below.setCell ?_ ?_ _); rotate_left; focus (first | omega | (simp; done) | (simp; omega))) | (with_reducible refine Below.step ?_ (by assumption)))); done)); (focus (simp [Held, go_sem]; done)); rintro e w' ⟨c9, rfl, rfl⟩; rw [hc]))
    refine bodyPost_ret (v := ?_) (by first | (simp [results, Try.results42, go_sem, *]; rfl) | (simp [results, Try.results42, go_sem, *]; done)) rfl ?_
    rw [HF.out]
    refine ⟨_, _, _, [], rfl, ownsRow_nil', ownsRow_nil', ownsRow_nil', (fun i hi => by cases hi), (fun i hi => by cases hi), (fun i hi => by cases hi), rfl, ?_⟩
    (repeat (first | assumption | (with_reducible exact Below.refl _ _) | (with_reducible refine Below.drewN ?_ _) | (with_reducible refine Below.drew ?_) | (with_reducible refine Below.allocS ?_ _) | ((with_reducible refine Below.setCell ?_ ?_ _); rotate_left; focus (first | omega | (simp; done) | (simp; omega))) | (with_reducible refine Below.step ?_ (by assumption))))
  cases hl : levelB y
  · have HF : Hid (runB n l m lk y i = false) := by show _ = _; rw [HBB.out]; simp [hl]
    go_enter Try.func42, Try.ntmps42
    go_wp2_with (first | (go_at_call 74; refine (l05Is_any v v' n m l lk _ _ ?_ ?_ ?_).mono ?_; (focus (refine RowAt.below H.out ?_; (repeat (first | assumption | (with_reducible exact Below.refl _ _) | (with_reducible refine Below.drewN ?_ _) | (with_reducible refine Below.drew ?_) | (with_reducible refine Below.allocS ?_ _) | ((with_reducible refine Below.setCell ?_ ?_ _); rotate_left; focus (first | omega | (simp; done) | (simp; omega))) | (with_reducible refine Below.step ?_ (by assumption)))); done)); (focus (refine RowAt.below H'.out ?_; (repeat (first | assumption | (with_reducible exact Below.refl _ _) | (with_reducible refine Below.drewN ?_ _) | (with_reducible refine Below.drew ?_) | (with_reducible refine Below.allocS ?_ _) | ((with_reducible refine Below.setCell ?_ ?_ _); rotate_left; focus (first | omega | (simp; done) | (simp; omega))) | (with_reducible refine Below.step ?_ (by assumption)))); done)); (focus (simp [Held, go_sem]; done)); rintro e w' ⟨c9, rfl, rfl⟩; rw [hc]) | (go_at_call 100; refine (l05Least_any _ _).mono ?_; rintro e w' ⟨n9, rfl, rfl⟩; rw [hl]))
    refine bodyPost_ret (v := ?_) (by first | (simp [results, Try.results42, go_sem, *]; rfl) | (simp [results, Try.results42, go_sem, *]; done)) rfl ?_
    rw [HF.out]
    refine ⟨_, _, _, [], rfl, ownsRow_nil', ownsRow_nil', ownsRow_nil', (fun i hi => by cases hi), (fun i hi => by cases hi), (fun i hi => by cases hi), rfl, ?_⟩
    (repeat (first | assumption | (with_reducible exact Below.refl _ _) | (with_reducible refine Below.drewN ?_ _) | (with_reducible refine Below.drew ?_) | (with_reducible refine Below.allocS ?_ _) | ((with_reducible refine Below.setCell ?_ ?_ _); rotate_left; focus (first | omega | (simp; done) | (simp; omega))) | (with_reducible refine Below.step ?_ (by assumption))))
  cases hz : inZ i 0 64
  · have HF : Hid (runB n l m lk y i = false) := by show _ = _; rw [HBB.out]; simp [hz]
    go_enter Try.func42, Try.ntmps42
    go_wp2_with (first | (go_at_call 74; refine (l05Is_any v v' n m l lk _ _ ?_ ?_ ?_).mono ?_; (focus (refine RowAt.below H.out ?_; (repeat (first | assumption | (with_reducible exact Below.refl _ _) | (with_reducible refine Below.drewN ?_ _) | (with_reducible refine Below.drew ?_) | (with_reducible refine Below.allocS ?_ _) | ((with_reducible refine Below.setCell ?_ ?_ _); rotate_left; focus (first | omega | (simp; done) | (simp; omega))) | (with_reducible refine Below.step ?_ (by assumption)))); done)); (focus (refine RowAt.below H'.out ?_; (repeat (first | assumption | (with_reducible exact Below.refl _ _) | (with_reducible refine Below.drewN ?_ _) | (with_reducible refine Below.drew ?_) | (with_reducible refine Below.allocS ?_ _) | ((with_reducible refine Below.setCell ?_ ?_ _); rotate_left; focus (first | omega | (simp; done) | (simp; omega))) | (with_reducible refine Below.step ?_ (by assumption)))); done)); (focus (simp [Held, go_sem]; done)); rintro e w' ⟨c9, rfl, rfl⟩; rw [hc]) | (go_at_call 100; refine (l05Least_any _ _).mono ?_; rintro e w' ⟨n9, rfl, rfl⟩; rw [hl]) | (go_at_call 101; refine (l00InZ_any _ _ _ _).mono ?_; rintro e w' ⟨rfl, e9⟩; subst w'; rw [hz]))
    refine bodyPost_ret (v := ?_) (by first | (simp [results, Try.results42, go_sem, *]; rfl) | (simp [results, Try.results42, go_sem, *]; done)) rfl ?_
    rw [HF.out]
    refine ⟨_, _, _, [], rfl, ownsRow_nil', ownsRow_nil', ownsRow_nil', (fun i hi => by cases hi), (fun i hi => by cases hi), (fun i hi => by cases hi), rfl, ?_⟩
    (repeat (first | assumption | (with_reducible exact Below.refl _ _) | (with_reducible refine Below.drewN ?_ _) | (with_reducible refine Below.drew ?_) | (with_reducible refine Below.allocS ?_ _) | ((with_reducible refine Below.setCell ?_ ?_ _); rotate_left; focus (first | omega | (simp; done) | (simp; omega))) | (with_reducible refine Below.step ?_ (by assumption))))
  obtain ⟨T, rfl⟩ : ∃ T : Nat, i = (T : Int) := ⟨i.toNat, by unfold inZ at hz; simp at hz; omega⟩
  have hT : T ≤ 64 := by unfold inZ at hz; simp at hz; omega
  have HC := Lib.hid (runS_clocks y hc hlen)
  have HB2 : Hid (runB n l m lk y (T : Int) = upto (runOk n l lk y) T) := by show _ = _; rw [HBB.out, hc, hl, hz]; simp
  have c1 := (clocks_parts hc).1
  have c2 := (clocks_parts hc).2.1
  have hm0 : 0 < m := by have := (clocks_parts hc).2.2.2.1; have := Nat.mul_pos (by omega : 0 < n) (by omega : 0 < n); omega
  have hm9 : m ≤ 144 := by have := (clocks_parts hc).2.2.2.1; have := sq_small c2; omega
  obtain ⟨i0, hi0, hz0, hz1, hz2⟩ := info_parts info_Float32
  clear HBB hlen
  simp only [Int.toNat_natCast]
  go_enter Try.func42, Try.ntmps42
  go_wp2_with (first | (go_at_call 74; refine (l05Is_any v v' n m l lk _ _ ?_ ?_ ?_).mono ?_; (focus (refine RowAt.below H.out ?_; (repeat (first | assumption | (with_reducible exact Below.refl _ _) | (with_reducible refine Below.drewN ?_ _) | (with_reducible refine Below.drew ?_) | (with_reducible refine Below.allocS ?_ _) | ((with_reducible refine Below.setCell ?_ ?_ _); rotate_left; focus (first | omega | (simp; done) | (simp; omega))) | (with_reducible refine Below.step ?_ (by assumption)))); done)); (focus (refine RowAt.below H'.out ?_; (repeat (first | assumption | (with_reducible exact Below.refl _ _) | (with_reducible refine Below.drewN ?_ _) | (with_reducible refine Below.drew ?_) | (with_reducible refine Below.allocS ?_ _) | ((with_reducible refine Below.setCell ?_ ?_ _); rotate_left; focus (first | omega | (simp; done) | (simp; omega))) | (with_reducible refine Below.step ?_ (by assumption)))); done)); (focus (simp [Held, go_sem]; done)); rintro e w' ⟨c9, rfl, rfl⟩; rw [hc]) | (go_at_call 100; refine (l05Least_any _ _).mono ?_; rintro e w' ⟨n9, rfl, rfl⟩; rw [hl]) | (go_at_call 101; refine (l00InZ_any _ _ _ _).mono ?_; rintro e w' ⟨rfl, e9⟩; subst w'; rw [hz]) | (go_at_call 102; refine (l05Own_any v v' n m l lk _ _ ?_ ?_ ?_ (by omega) hm0 (by omega) (by omega)).mono ?_; (focus (refine RowAt.below H.out ?_; (repeat (first | assumption | (with_reducible exact Below.refl _ _) | (with_reducible refine Below.drewN ?_ _) | (with_reducible refine Below.drew ?_) | (with_reducible refine Below.allocS ?_ _) | ((with_reducible refine Below.setCell ?_ ?_ _); rotate_left; focus (first | omega | (simp; done) | (simp; omega))) | (with_reducible refine Below.step ?_ (by assumption)))); done)); (focus (refine RowAt.below H'.out ?_; (repeat (first | assumption | (with_reducible exact Below.refl _ _) | (with_reducible refine Below.drewN ?_ _) | (with_reducible refine Below.drew ?_) | (with_reducible refine Below.allocS ?_ _) | ((with_reducible refine Below.setCell ?_ ?_ _); rotate_left; focus (first | omega | (simp; done) | (simp; omega))) | (with_reducible refine Below.step ?_ (by assumption)))); done)); (focus (simp [Held, go_sem]; done))))
  rintro e w2 ⟨u0, u1, rfl, ou0, ou1, hb2⟩
  obtain ⟨ga, ca, rfl⟩ := ownsRow_own ou0 (by omega)
  obtain ⟨gb, cb, rfl⟩ := ownsRow_own ou1 (by omega)
  have hk2 := Held.below hb2 (l := [(⟨w.heap.size, 0, none⟩, v), (⟨w.heap.size, 1, none⟩, v'), (⟨w.heap.size + 1, 0, none⟩, .slice none 0 0), (⟨w.heap.size + 1, 1, none⟩, .slice none 0 0)]) (by simp [Held, go_sem, *])
  simp only [Held, and_true] at hk2
  have hg0 := ownsRow_lt ou0 ga rfl
  have hg1 := ownsRow_lt ou1 gb rfl
  have hB2 : Below w.heap.size w w2 := by (repeat (first | assumption | (with_reducible exact Below.refl _ _) | (with_reducible refine Below.drewN ?_ _) | (with_reducible refine Below.drew ?_) | (with_reducible refine Below.allocS ?_ _) | ((with_reducible refine Below.setCell ?_ ?_ _); rotate_left; focus (first | omega | (simp; done) | (simp; omega))) | (with_reducible refine Below.step ?_ (by assumption))))
  have hz2' := hb2.size
  simp at hg0 hg1 hz2'
  have ou0' := ownsRow_base (base' := w.heap.size + 1 + 1) (by simp; try omega) ou0
  have ou1' := ownsRow_base (base' := w.heap.size + 1 + 1) (by simp; try omega) ou1
  have OU0 := Lib.hid ou0'
  have OU1 := Lib.hid ou1'
  have HNE := Lib.hid (ownsRow_ne ou0' ou1' tc_ne)
  clear ou0 ou1 ou0' ou1'
  go_wp2_with fail
  have hp2 : w.heap.size + 1 < w2.heap.size := by omega
  go_loopw [2, 10] (fun jv uv wr => ∃ (k : Nat) (rs : List Nat) (u0 u1 : Value), k ≤ T ∧ jv = .int .i64 ((T : Int) - (k : Int)) ∧ upto (runOk n l lk y) k = true ∧ Hid (rs.map (cn .f32) = (List.range k).map (runR n l lk y)) ∧ Held [(⟨w2.heap.size, 0, none⟩, u0), (⟨w2.heap.size, 1, none⟩, u1), (⟨w.heap.size + 1, 0, none⟩, .slice none 0 0), (⟨w.heap.size + 1, 1, none⟩, .slice none 0 0)] wr ∧ wr.ownsRow (w.heap.size + 1 + 1) 113 2 u0 n (fl (runS n l lk y k)) ∧ wr.ownsRow (w.heap.size + 1 + 1) 23 1 u1 m (fl lk) ∧ wr.ownsRow (w.heap.size + 1 + 1) 23 1 uv k (fl rs) ∧ (∀ i, u0.ownBlock = some i → i ≠ w2.heap.size) ∧ (∀ i, u1.ownBlock = some i → i ≠ w2.heap.size) ∧ (∀ i, uv.ownBlock = some i → i ≠ w2.heap.size) ∧ (∀ i, u1.ownBlock = some i → uv.ownBlock ≠ some i) ∧ Below w.heap.size w wr) (fun jv _ _ => (intOf jv).toNat)
  case atStart =>
    refine ⟨0, [], .slice (some ⟨ga, 0, none⟩) n ca, .slice (some ⟨gb, 0, none⟩) m cb, Nat.zero_le _, by simp, rfl, rfl, ?_, ?_, ?_, ?_, ?_, ?_, ?_, ?_, ?_⟩
    · simp [Held, go_sem, *]
    · have h9 := OU0.out
      (repeat (first | (with_reducible refine World.ownsRow.alloc ?_ _) | (with_reducible refine ownsRow_drewN ?_ _) | ((with_reducible refine ownsRow_setCell_below ?_ ?_ _); rotate_left; focus (first | omega | (simp; done) | (simp; omega)))))
      exact h9
    · have h9 := OU1.out
      (repeat (first | (with_reducible refine World.ownsRow.alloc ?_ _) | (with_reducible refine ownsRow_drewN ?_ _) | ((with_reducible refine ownsRow_setCell_below ?_ ?_ _); rotate_left; focus (first | omega | (simp; done) | (simp; omega)))))
      exact h9
    · have h9 := World.ownsRow_made (base := w.heap.size + 1 + 1) (e := 23) (size := 1) (w2.alloc (.cells #[.slice (some ⟨ga, 0, none⟩) n ca, .slice (some ⟨gb, 0, none⟩) m cb] 49)) #[] 0 (by first | omega | (simp; omega)) (Nat.zero_le _) (by simp)
      (try simp only [World.size_alloc] at h9)
      first | exact h9 | exact h9.alloc _
    · intro j hj
      have e1 := own_some hj
      omega
    · intro j hj
      have e1 := own_some hj
      omega
    · intro j hj
      have e1 := own_some hj
      omega
    · intro j hj hj2
      have e1 := own_some hj
      have e2 := own_some hj2
      omega
    · (repeat (first | assumption | (with_reducible exact Below.refl _ _) | (with_reducible refine Below.drewN ?_ _) | (with_reducible refine Below.drew ?_) | (with_reducible refine Below.allocS ?_ _) | ((with_reducible refine Below.setCell ?_ ?_ _); rotate_left; focus (first | omega | (simp; done) | (simp; omega))) | (with_reducible refine Below.step ?_ (by assumption))))
  case round =>
    obtain ⟨k, rs, u0, u1, hk, rfl, hup, hrs, hH, o0, o1, ov, n0, n1, nv, n1v, hBr⟩ := hrel
    obtain ⟨b0, s0, t0, rfl⟩ := ownsRow_shape o0
    obtain ⟨b1, s1, t1, rfl⟩ := ownsRow_shape o1
    have UP := Lib.hid hup
    have OU0 := Lib.hid o0
    have OU1 := Lib.hid o1
    have OV := Lib.hid ov
    have LV := Lib.hid (ownsRow_lt ov)
    have HH := Lib.hid hH
    have NV := Lib.hid nv
    have N1V := Lib.hid n1v
    have HRS := hrs
    simp only [Held, and_true] at hH
    have hzr := hBr.size
    have hpr : w2.heap.size < wr.heap.size := by omega
    clear o0 o1 ov hup n0 n1 nv n1v
    by_cases hlt : k < T
    · have d1 : decide ((0 : Int) < (T : Int) - (k : Int)) = true := decide_eq_true (by omega)
      have e9 : upto (fun j => finB .f32 (stepQ n (runS n l lk y k) lk y j)) n = runOk n l lk y k := rfl
      cases e1 : runOk n l lk y k
      all_goals
        rw [e1] at e9
        have E9 := Lib.hid e9
        clear e9
        go_wp2_with (first | (go_at_call 103; refine (l05Step_lit E9.out _ _ w2.heap.size _ (ownsRow_rowAt OU0.out) (ownsRow_rowAt OU1.out) ⟨HH.out.1, HH.out.2.1, trivial⟩ (HC.out k)).mono ?_))
        rintro e w5 ⟨x0, x1, rfl, ox0, ox1, xne, hb5⟩
        obtain ⟨a0, k0, d0, rfl⟩ := ownsRow_shape ox0
        obtain ⟨a1, k1, d1', rfl⟩ := ownsRow_shape ox1
        have hk5 := Held.below hb5 HH.out
        simp only [Held, and_true] at hk5
        have hB5 : Below w.heap.size w w5 := by (repeat (first | assumption | (with_reducible exact Below.refl _ _) | (with_reducible refine Below.drewN ?_ _) | (with_reducible refine Below.drew ?_) | (with_reducible refine Below.allocS ?_ _) | ((with_reducible refine Below.setCell ?_ ?_ _); rotate_left; focus (first | omega | (simp; done) | (simp; omega))) | (with_reducible refine Below.step ?_ (by assumption))))
        have hz5 := hb5.size
      · go_wp2_with fail
        refine bodyPost_ret (v := ?_) (by first | (simp [results, Try.results42, go_sem, *]; rfl) | (simp [results, Try.results42, go_sem, *]; done)) rfl ?_
        rw [HB2.out, upto_false hlt e1]
        refine ⟨_, _, _, [], rfl, ownsRow_nil', ownsRow_nil', ownsRow_nil', (fun i hi => by cases hi), (fun i hi => by cases hi), (fun i hi => by cases hi), rfl, ?_⟩
        (repeat (first | assumption | (with_reducible exact Below.refl _ _) | (with_reducible refine Below.drewN ?_ _) | (with_reducible refine Below.drew ?_) | (with_reducible refine Below.allocS ?_ _) | ((with_reducible refine Below.setCell ?_ ?_ _); rotate_left; focus (first | omega | (simp; done) | (simp; omega))) | (with_reducible refine Below.step ?_ (by assumption))))
      · have L0 := Lib.hid (ownsRow_lt ox0)
        have L1 := Lib.hid (ownsRow_lt ox1)
        have ox0' := ownsRow_base (base' := w.heap.size + 1 + 1) (by omega) ox0
        have ox1' := ownsRow_base (base' := w.heap.size + 1 + 1) (by omega) ox1
        obtain ⟨w6, hw6⟩ : ∃ w6, w6 = (w5.setCell ⟨w2.heap.size, 0, none⟩ (.slice a0 k0 d0)).setCell ⟨w2.heap.size, 1, none⟩ (.slice a1 k1 d1') := ⟨_, rfl⟩
        have K6 : Kept w5 w6 [some w2.heap.size] := by rw [hw6]; exact kept_two _ _ _ _
        have X0 : Hid (w6.ownsRow (w.heap.size + 1 + 1) 113 2 (.slice a0 k0 d0) n (fl (runS n l lk y (k + 1)))) := ownsRow_kept ox0' K6 (fun j hj hm => by have h1 := L0.out j hj; have h2 := List.mem_singleton.1 hm; cases h2; omega)
        have X1 : Hid (w6.ownsRow (w.heap.size + 1 + 1) 23 1 (.slice a1 k1 d1') m (fl lk)) := ownsRow_kept ox1' K6 (fun j hj hm => by have h1 := L1.out j hj; have h2 := List.mem_singleton.1 hm; cases h2; omega)
        have V6 : Hid (w6.ownsRow (w.heap.size + 1 + 1) 23 1 u10 k (fl rs)) := ownsRow_kept (ownsRow_below OV.out hb5) K6 (fun j hj hm => by have h2 := List.mem_singleton.1 hm; cases h2; exact NV.out _ hj rfl)
        have hk6 : Held [(⟨w2.heap.size, 0, none⟩, .slice a0 k0 d0), (⟨w2.heap.size, 1, none⟩, .slice a1 k1 d1'), (⟨w.heap.size + 1, 0, none⟩, .slice none 0 0), (⟨w.heap.size + 1, 1, none⟩, .slice none 0 0)] w6 := by
          rw [hw6]
          simp [Held, go_sem, *]
          try omega
        have hB6 : Below w.heap.size w w6 := hB5.trans (K6.toBelow (by omega) (fun j hj => by have h2 := List.mem_singleton.1 hj; cases h2; omega))
        have hz6 : w6.heap.size = w5.heap.size := by rw [hw6]; simp
        have HK6 := Lib.hid hk6
        clear K6 ox0 ox1 ox0' ox1' OV OU0 OU1 HH hH
        go_wp2_with fail
        rw [← hw6]
        clear hw6
        refine (l05Order_any (.slice a0 k0 d0) (.slice a1 k1 d1') n (runS n l lk y (k + 1)) w2.heap.size _ ?_ ?_ (by omega) c2).mono ?_
        · refine RowAt.below (ownsRow_rowAt X0.out) ?_
          (repeat (first | (with_reducible exact Below.refl _ _) | (with_reducible refine Below.drewN ?_ _) | (with_reducible refine Below.drew ?_) | (with_reducible refine Below.allocS ?_ _) | ((with_reducible refine Below.setCell ?_ ?_ _); rotate_left; focus (first | omega | (simp; done) | (simp; omega)))))
        · simp only [Held, and_true] at hk6
          simp [Held, go_sem, *]
        rintro e w7 ⟨r, s9, rfl, hq, hq2, hb7⟩
        have HQ := Lib.hid hq
        clear hq hq2
        have B67 : Below w6.heap.size w6 w7 := by
          refine Below.step ?_ hb7
          (repeat (first | (with_reducible exact Below.refl _ _) | (with_reducible refine Below.drewN ?_ _) | (with_reducible refine Below.drew ?_) | (with_reducible refine Below.allocS ?_ _) | ((with_reducible refine Below.setCell ?_ ?_ _); rotate_left; focus (first | omega | (simp; done) | (simp; omega)))))
        have Y0 := Lib.hid (ownsRow_below X0.out B67)
        have Y1 := Lib.hid (ownsRow_below X1.out B67)
        have V7 := Lib.hid (ownsRow_below V6.out B67)
        have hk7 := Held.below B67 HK6.out
        have HK7 := Lib.hid hk7
        have hB7 : Below w.heap.size w w7 := hB6.trans (B67.mono (by omega))
        have hz7 := B67.size
        clear X0 X1 V6 hk6 HK6
        simp only [Held, and_true] at hk7
        go_wp2_with (first | (at_builtin; refine wpList_append_own_at _ rfl _ _ 42 rfl (w.heap.size + 1 + 1) 23 i0 (.float .f32 0) 1 4 Try.underlying42 hi0 hz0 hz1 hz2 rfl (by decide) _ k (fl rs) rfl (by have h9 := V7.out; (repeat (first | (with_reducible refine World.ownsRow.alloc ?_ _) | (with_reducible refine ownsRow_drewN ?_ _) | ((with_reducible refine ownsRow_setCell_below ?_ ?_ _); rotate_left; focus (first | omega | (simp; done) | (simp; omega))))); exact h9) ⟨_, 0, none⟩ 1 1 [.float .f32 _] rfl rfl (cell_one_new _ _ _) (float_one _) (by simp only [maxLen]; omega) (by omega) (by first | omega | (simp; omega)) ?_))
        intro v8 w8 ho8 hg8 _ hat8
        have hk8 := Held_kept1 (Kept.of_grown hg8) (l := [(⟨w2.heap.size, 0, none⟩, .slice a0 k0 d0), (⟨w2.heap.size, 1, none⟩, .slice a1 k1 d1'), (⟨w.heap.size + 1, 0, none⟩, .slice none 0 0), (⟨w.heap.size + 1, 1, none⟩, .slice none 0 0)]) (by simp only [List.mem_cons, List.not_mem_nil, or_false, forall_eq_or_imp, forall_eq]; exact ⟨fun e => NV.out _ e rfl, fun e => NV.out _ e rfl, fun e => by have := LV.out _ e; omega, fun e => by have := LV.out _ e; omega⟩) (by simp [Held, go_sem, *] <;> omega)
        have Z0 : Hid (w8.ownsRow (w.heap.size + 1 + 1) 113 2 (.slice a0 k0 d0) n (fl (runS n l lk y (k + 1)))) := ownsRow_kept (by have h9 := Y0.out; (repeat (first | (with_reducible refine World.ownsRow.alloc ?_ _) | (with_reducible refine ownsRow_drewN ?_ _) | ((with_reducible refine ownsRow_setCell_below ?_ ?_ _); rotate_left; focus (first | omega | (simp; done) | (simp; omega))))); exact h9) (Kept.of_grown hg8) (fun j hj hm => ownsRow_ne Y0.out V7.out tc_ne j hj (List.mem_singleton.1 hm).symm)
        have Z1 : Hid (w8.ownsRow (w.heap.size + 1 + 1) 23 1 (.slice a1 k1 d1') m (fl lk)) := ownsRow_kept (by have h9 := Y1.out; (repeat (first | (with_reducible refine World.ownsRow.alloc ?_ _) | (with_reducible refine ownsRow_drewN ?_ _) | ((with_reducible refine ownsRow_setCell_below ?_ ?_ _); rotate_left; focus (first | omega | (simp; done) | (simp; omega))))); exact h9) (Kept.of_grown hg8) (fun j hj hm => by have h1 := L1.out j hj; have h2 := LV.out j (List.mem_singleton.1 hm).symm; omega)
        have Z2 : Hid (w8.ownsRow (w.heap.size + 1 + 1) 23 1 v8 (k + 1) (fl (rs ++ [r]))) := by
          show World.ownsRow _ _ _ _ _ _ _
          rw [fl_append]
          exact ho8
        have hB8 : Below w.heap.size w w8 := by
          refine Below.grown ?_ hg8 (by simp; omega) (fun j hj => by have := LV.out j hj; omega)
          (repeat (first | assumption | (with_reducible exact Below.refl _ _) | (with_reducible refine Below.drewN ?_ _) | (with_reducible refine Below.drew ?_) | (with_reducible refine Below.allocS ?_ _) | ((with_reducible refine Below.setCell ?_ ?_ _); rotate_left; focus (first | omega | (simp; done) | (simp; omega))) | (with_reducible refine Below.step ?_ (by assumption))))
        have HA := Lib.hid hat8
        have H8 := Lib.hid hk8
        clear hat8 hg8 ho8 hk8 Y0 Y1 V7 hk7
        go_wp2_with fail
        go_roundw
        case rel =>
          refine ⟨k + 1, rs ++ [r], _, _, hlt, (by first | go_num | (congr 1; omega)), (by rw [upto_succ, UP.out, e1]; rfl), ?_, H8.out, Z0.out, Z1.out, Z2.out, ?_, ?_, ?_, ?_, hB8⟩
          · show _ = _
            rw [List.map_append, range_snoc, HRS.out, List.map_cons, List.map_nil, HQ.out]
            rfl
          · intro j hj
            have := L0.out j hj
            omega
          · intro j hj
            have := L1.out j hj
            omega
          · intro j hj
            rcases HA.out with e | e
            · rw [e] at hj
              exact NV.out j hj
            · rw [e] at hj
              cases hj
              first | omega | (simp; omega)
          · intro j hj hj2
            have h1 := L1.out j hj
            rcases HA.out with e | e
            · rw [e] at hj2
              have h2 := LV.out j hj2
              omega
            · rw [e] at hj2
              cases hj2
              (try simp at h1)
              omega
        case measure => simp [intOf]; omega
    · obtain rfl : k = T := by omega
      have d1 : decide ((0 : Int) < (k : Int) - (k : Int)) = false := decide_eq_false (by omega)
      have HNE9 := Lib.hid (ownsRow_ne OU0.out OU1.out tc_ne)
      have HNE8 := Lib.hid (ownsRow_ne OU0.out OV.out tc_ne)
      go_wp2_with fail
      refine bodyPost_ret (v := ?_) (by first | (simp [results, Try.results42, go_sem, *]; rfl) | (simp [results, Try.results42, go_sem, *]; done)) rfl ?_
      rw [HB2.out, UP.out]
      refine ⟨_, _, _, rs, rfl, ?_, ?_, ?_, HNE9.out, HNE8.out, N1V.out, HRS.out, ?_⟩
      · refine ownsRow_base (base := w.heap.size + 1 + 1) (by omega) ?_
        have h9 := OU0.out
        (repeat (first | (with_reducible refine World.ownsRow.alloc ?_ _) | (with_reducible refine ownsRow_drewN ?_ _) | ((with_reducible refine ownsRow_setCell_below ?_ ?_ _); rotate_left; focus (first | omega | (simp; done) | (simp; omega)))))
        exact h9
      · refine ownsRow_base (base := w.heap.size + 1 + 1) (by omega) ?_
        have h9 := OU1.out
        (repeat (first | (with_reducible refine World.ownsRow.alloc ?_ _) | (with_reducible refine ownsRow_drewN ?_ _) | ((with_reducible refine ownsRow_setCell_below ?_ ?_ _); rotate_left; focus (first | omega | (simp; done) | (simp; omega)))))
        exact h9
      · refine ownsRow_base (base := w.heap.size + 1 + 1) (by omega) ?_
        have h9 := OV.out
        (repeat (first | (with_reducible refine World.ownsRow.alloc ?_ _) | (with_reducible refine ownsRow_drewN ?_ _) | ((with_reducible refine ownsRow_setCell_below ?_ ?_ _); rotate_left; focus (first | omega | (simp; done) | (simp; omega)))))
        exact h9
      · (repeat (first | assumption | (with_reducible exact Below.refl _ _) | (with_reducible refine Below.drewN ?_ _) | (with_reducible refine Below.drew ?_) | (with_reducible refine Below.allocS ?_ _) | ((with_reducible refine Below.setCell ?_ ?_ _); rotate_left; focus (first | omega | (simp; done) | (simp; omega))) | (with_reducible refine Below.step ?_ (by assumption))))

set_option maxRecDepth 100000 in
set_option maxHeartbeats 8000000 in
theorem implRunClocks_any (v v' : Value) (n m : Nat) (l lk : List Nat) (y : Nat) (i : Int) (w : World) (h : RowAt w v 2 n (fl l)) (h' : RowAt w v' 1 m (fl lk)) : Calls Try.prog 43 #[.agg #[v, v'], .float .f32 y, .int .i64 i] w (GiveCN (cN (runB n l m lk y i) n) (cL (runB n l m lk y i) (runS n l lk y i.toNat)) (cN (runB n l m lk y i) m) (cL (runB n l m lk y i) lk) (cN (runB n l m lk y i) i.toNat) (cL (runB n l m lk y i) ((List.range i.toNat).map (runR n l lk y))) (runB n l m lk y i) w) := by
  have H := Lib.hid h
  have H' := Lib.hid h'
  have hlen : l.length = n * 2 := by have := h.1; rwa [fl_length] at this
  clear h h'
  have HBB : Hid (runB n l m lk y i = (((clocksB n l m lk && levelB y) && inZ i 0 64) && upto (runOk n l lk y) i.toNat)) := rfl
  cases hc : clocksB n l m lk
  · have HF : Hid (runB n l m lk y i = false) := by show _ = _; rw [HBB.out]; simp [hc]
    go_enter Try.func43, Try.ntmps43
    go_wp2_with (first | (go_at_call 29; refine (implValidClocks_any v v' n m l lk _ ?_ ?_).mono ?_; (focus (refine RowAt.below H.out ?_; (repeat (first | assumption | (with_reducible exact Below.refl _ _) | (with_reducible refine Below.drewN ?_ _) | (with_reducible refine Below.drew ?_) | (with_reducible refine Below.allocS ?_ _) | ((with_reducible refine Below.setCell ?_ ?_ _); rotate_left; focus (first | omega | (simp; done) | (simp; omega))) | (with_reducible refine Below.step ?_ (by assumption)))); done)); (focus (refine RowAt.below H'.out ?_; (repeat (first | assumption | (with_reducible exact Below.refl _ _) | (with_reducible refine Below.drewN ?_ _) | (with_reducible refine Below.drew ?_) | (with_reducible refine Below.allocS ?_ _) | ((with_reducible refine Below.setCell ?_ ?_ _); rotate_left; focus (first | omega | (simp; done) | (simp; omega))) | (with_reducible refine Below.step ?_ (by assumption)))); done)); rintro e w1 ⟨rfl, hb⟩; rw [hc]; have hk := Held.below hb (l := [(⟨w.heap.size, 0, none⟩, v), (⟨w.heap.size, 1, none⟩, v'), (⟨w.heap.size + 1, 0, none⟩, .slice none 0 0), (⟨w.heap.size + 1, 1, none⟩, .slice none 0 0)]) (by simp [Held, go_sem]); simp only [Held, and_true] at hk))
    refine bodyPost_ret (v := ?_) (by first | (simp [results, Try.results43, go_sem, *]; rfl) | (simp [results, Try.results43, go_sem, *]; done)) rfl ?_
    rw [HF.out]
    refine ⟨_, _, _, [], rfl, ownsRow_nil', ownsRow_nil', ownsRow_nil', (fun i hi => by cases hi), (fun i hi => by cases hi), (fun i hi => by cases hi), rfl, ?_⟩
    (repeat (first | assumption | (with_reducible exact Below.refl _ _) | (with_reducible refine Below.drewN ?_ _) | (with_reducible refine Below.drew ?_) | (with_reducible refine Below.allocS ?_ _) | ((with_reducible refine Below.setCell ?_ ?_ _); rotate_left; focus (first | omega | (simp; done) | (simp; omega))) | (with_reducible refine Below.step ?_ (by assumption))))
  cases hl : levelB y
  · have HF : Hid (runB n l m lk y i = false) := by show _ = _; rw [HBB.out]; simp [hl]
    go_enter Try.func43, Try.ntmps43
    go_wp2_with (first | (go_at_call 29; refine (implValidClocks_any v v' n m l lk _ ?_ ?_).mono ?_; (focus (refine RowAt.below H.out ?_; (repeat (first | assumption | (with_reducible exact Below.refl _ _) | (with_reducible refine Below.drewN ?_ _) | (with_reducible refine Below.drew ?_) | (with_reducible refine Below.allocS ?_ _) | ((with_reducible refine Below.setCell ?_ ?_ _); rotate_left; focus (first | omega | (simp; done) | (simp; omega))) | (with_reducible refine Below.step ?_ (by assumption)))); done)); (focus (refine RowAt.below H'.out ?_; (repeat (first | assumption | (with_reducible exact Below.refl _ _) | (with_reducible refine Below.drewN ?_ _) | (with_reducible refine Below.drew ?_) | (with_reducible refine Below.allocS ?_ _) | ((with_reducible refine Below.setCell ?_ ?_ _); rotate_left; focus (first | omega | (simp; done) | (simp; omega))) | (with_reducible refine Below.step ?_ (by assumption)))); done)); rintro e w1 ⟨rfl, hb⟩; rw [hc]; have hk := Held.below hb (l := [(⟨w.heap.size, 0, none⟩, v), (⟨w.heap.size, 1, none⟩, v'), (⟨w.heap.size + 1, 0, none⟩, .slice none 0 0), (⟨w.heap.size + 1, 1, none⟩, .slice none 0 0)]) (by simp [Held, go_sem]); simp only [Held, and_true] at hk) | (go_at_call 105; refine (levelOkC_any _ _).mono ?_; rintro e w' ⟨n9, rfl, rfl⟩; rw [hl]))
    refine bodyPost_ret (v := ?_) (by first | (simp [results, Try.results43, go_sem, *]; rfl) | (simp [results, Try.results43, go_sem, *]; done)) rfl ?_
    rw [HF.out]
    refine ⟨_, _, _, [], rfl, ownsRow_nil', ownsRow_nil', ownsRow_nil', (fun i hi => by cases hi), (fun i hi => by cases hi), (fun i hi => by cases hi), rfl, ?_⟩
    (repeat (first | assumption | (with_reducible exact Below.refl _ _) | (with_reducible refine Below.drewN ?_ _) | (with_reducible refine Below.drew ?_) | (with_reducible refine Below.allocS ?_ _) | ((with_reducible refine Below.setCell ?_ ?_ _); rotate_left; focus (first | omega | (simp; done) | (simp; omega))) | (with_reducible refine Below.step ?_ (by assumption))))
  cases hz : inZ i 0 64
  · have HF : Hid (runB n l m lk y i = false) := by show _ = _; rw [HBB.out]; simp [hz]
    go_enter Try.func43, Try.ntmps43
    go_wp2_with (first | (go_at_call 29; refine (implValidClocks_any v v' n m l lk _ ?_ ?_).mono ?_; (focus (refine RowAt.below H.out ?_; (repeat (first | assumption | (with_reducible exact Below.refl _ _) | (with_reducible refine Below.drewN ?_ _) | (with_reducible refine Below.drew ?_) | (with_reducible refine Below.allocS ?_ _) | ((with_reducible refine Below.setCell ?_ ?_ _); rotate_left; focus (first | omega | (simp; done) | (simp; omega))) | (with_reducible refine Below.step ?_ (by assumption)))); done)); (focus (refine RowAt.below H'.out ?_; (repeat (first | assumption | (with_reducible exact Below.refl _ _) | (with_reducible refine Below.drewN ?_ _) | (with_reducible refine Below.drew ?_) | (with_reducible refine Below.allocS ?_ _) | ((with_reducible refine Below.setCell ?_ ?_ _); rotate_left; focus (first | omega | (simp; done) | (simp; omega))) | (with_reducible refine Below.step ?_ (by assumption)))); done)); rintro e w1 ⟨rfl, hb⟩; rw [hc]; have hk := Held.below hb (l := [(⟨w.heap.size, 0, none⟩, v), (⟨w.heap.size, 1, none⟩, v'), (⟨w.heap.size + 1, 0, none⟩, .slice none 0 0), (⟨w.heap.size + 1, 1, none⟩, .slice none 0 0)]) (by simp [Held, go_sem]); simp only [Held, and_true] at hk) | (go_at_call 105; refine (levelOkC_any _ _).mono ?_; rintro e w' ⟨n9, rfl, rfl⟩; rw [hl]) | (go_at_call 62; refine (inZ_any _ _ _ _).mono ?_; rintro e w' ⟨rfl, e9⟩; subst w'; rw [hz]))
    refine bodyPost_ret (v := ?_) (by first | (simp [results, Try.results43, go_sem, *]; rfl) | (simp [results, Try.results43, go_sem, *]; done)) rfl ?_
    rw [HF.out]
    refine ⟨_, _, _, [], rfl, ownsRow_nil', ownsRow_nil', ownsRow_nil', (fun i hi => by cases hi), (fun i hi => by cases hi), (fun i hi => by cases hi), rfl, ?_⟩
    (repeat (first | assumption | (with_reducible exact Below.refl _ _) | (with_reducible refine Below.drewN ?_ _) | (with_reducible refine Below.drew ?_) | (with_reducible refine Below.allocS ?_ _) | ((with_reducible refine Below.setCell ?_ ?_ _); rotate_left; focus (first | omega | (simp; done) | (simp; omega))) | (with_reducible refine Below.step ?_ (by assumption))))
  obtain ⟨T, rfl⟩ : ∃ T : Nat, i = (T : Int) := ⟨i.toNat, by unfold inZ at hz; simp at hz; omega⟩
  have hT : T ≤ 64 := by unfold inZ at hz; simp at hz; omega
  have HC := Lib.hid (runS_clocks y hc hlen)
  have HB2 : Hid (runB n l m lk y (T : Int) = upto (runOk n l lk y) T) := by show _ = _; rw [HBB.out, hc, hl, hz]; simp
  have c1 := (clocks_parts hc).1
  have c2 := (clocks_parts hc).2.1
  have hm0 : 0 < m := by have := (clocks_parts hc).2.2.2.1; have := Nat.mul_pos (by omega : 0 < n) (by omega : 0 < n); omega
  have hm9 : m ≤ 144 := by have := (clocks_parts hc).2.2.2.1; have := sq_small c2; omega
  obtain ⟨i0, hi0, hz0, hz1, hz2⟩ := info_parts info_Float32
  clear HBB hlen
  simp only [Int.toNat_natCast]
  go_enter Try.func43, Try.ntmps43
  go_wp2_with (first | (go_at_call 29; refine (implValidClocks_any v v' n m l lk _ ?_ ?_).mono ?_; (focus (refine RowAt.below H.out ?_; (repeat (first | assumption | (with_reducible exact Below.refl _ _) | (with_reducible refine Below.drewN ?_ _) | (with_reducible refine Below.drew ?_) | (with_reducible refine Below.allocS ?_ _) | ((with_reducible refine Below.setCell ?_ ?_ _); rotate_left; focus (first | omega | (simp; done) | (simp; omega))) | (with_reducible refine Below.step ?_ (by assumption)))); done)); (focus (refine RowAt.below H'.out ?_; (repeat (first | assumption | (with_reducible exact Below.refl _ _) | (with_reducible refine Below.drewN ?_ _) | (with_reducible refine Below.drew ?_) | (with_reducible refine Below.allocS ?_ _) | ((with_reducible refine Below.setCell ?_ ?_ _); rotate_left; focus (first | omega | (simp; done) | (simp; omega))) | (with_reducible refine Below.step ?_ (by assumption)))); done)); rintro e w1 ⟨rfl, hb⟩; rw [hc]; have hk := Held.below hb (l := [(⟨w.heap.size, 0, none⟩, v), (⟨w.heap.size, 1, none⟩, v'), (⟨w.heap.size + 1, 0, none⟩, .slice none 0 0), (⟨w.heap.size + 1, 1, none⟩, .slice none 0 0)]) (by simp [Held, go_sem]); simp only [Held, and_true] at hk) | (go_at_call 105; refine (levelOkC_any _ _).mono ?_; rintro e w' ⟨n9, rfl, rfl⟩; rw [hl]) | (go_at_call 62; refine (inZ_any _ _ _ _).mono ?_; rintro e w' ⟨rfl, e9⟩; subst w'; rw [hz]) | (go_at_call 106; refine (cloneClocks_any v v' n m l lk _ ?_ ?_ (by omega) hm0 (by omega) (by omega)).mono ?_; (focus (refine RowAt.below H.out ?_; (repeat (first | assumption | (with_reducible exact Below.refl _ _) | (with_reducible refine Below.drewN ?_ _) | (with_reducible refine Below.drew ?_) | (with_reducible refine Below.allocS ?_ _) | ((with_reducible refine Below.setCell ?_ ?_ _); rotate_left; focus (first | omega | (simp; done) | (simp; omega))) | (with_reducible refine Below.step ?_ (by assumption)))); done)); (focus (refine RowAt.below H'.out ?_; (repeat (first | assumption | (with_reducible exact Below.refl _ _) | (with_reducible refine Below.drewN ?_ _) | (with_reducible refine Below.drew ?_) | (with_reducible refine Below.allocS ?_ _) | ((with_reducible refine Below.setCell ?_ ?_ _); rotate_left; focus (first | omega | (simp; done) | (simp; omega))) | (with_reducible refine Below.step ?_ (by assumption)))); done))))
  rintro e w2 ⟨u0, u1, rfl, ou0, ou1, hb2⟩
  obtain ⟨ga, ca, rfl⟩ := ownsRow_own ou0 (by omega)
  obtain ⟨gb, cb, rfl⟩ := ownsRow_own ou1 (by omega)
  have hk2 := Held.below hb2 (l := [(⟨w.heap.size, 0, none⟩, v), (⟨w.heap.size, 1, none⟩, v'), (⟨w.heap.size + 1, 0, none⟩, .slice none 0 0), (⟨w.heap.size + 1, 1, none⟩, .slice none 0 0)]) (by simp [Held, go_sem, *])
  simp only [Held, and_true] at hk2
  have hg0 := ownsRow_lt ou0 ga rfl
  have hg1 := ownsRow_lt ou1 gb rfl
  have hB2 : Below w.heap.size w w2 := by (repeat (first | assumption | (with_reducible exact Below.refl _ _) | (with_reducible refine Below.drewN ?_ _) | (with_reducible refine Below.drew ?_) | (with_reducible refine Below.allocS ?_ _) | ((with_reducible refine Below.setCell ?_ ?_ _); rotate_left; focus (first | omega | (simp; done) | (simp; omega))) | (with_reducible refine Below.step ?_ (by assumption))))
  have hz2' := hb2.size
  simp at hg0 hg1 hz2'
  have ou0' := ownsRow_base (base' := w.heap.size + 1 + 1) (by simp; try omega) ou0
  have ou1' := ownsRow_base (base' := w.heap.size + 1 + 1) (by simp; try omega) ou1
  have OU0 := Lib.hid ou0'
  have OU1 := Lib.hid ou1'
  have HNE := Lib.hid (ownsRow_ne ou0' ou1' tc_ne)
  clear ou0 ou1 ou0' ou1'
  go_wp2_with fail
  have hp2 : w.heap.size + 1 < (w2.heap.size + 1) := by omega
  go_loopw [32, 10] (fun jv uv wr => ∃ (k : Nat) (rs : List Nat) (u0 u1 : Value), k ≤ T ∧ jv = .int .i64 ((k : Int)) ∧ upto (runOk n l lk y) k = true ∧ Hid (rs.map (cn .f32) = (List.range k).map (runR n l lk y)) ∧ Held [(⟨(w2.heap.size + 1), 0, none⟩, u0), (⟨(w2.heap.size + 1), 1, none⟩, u1), (⟨w.heap.size + 1, 0, none⟩, .slice none 0 0), (⟨w.heap.size + 1, 1, none⟩, .slice none 0 0)] wr ∧ wr.ownsRow (w.heap.size + 1 + 1) 113 2 u0 n (fl (runS n l lk y k)) ∧ wr.ownsRow (w.heap.size + 1 + 1) 23 1 u1 m (fl lk) ∧ wr.ownsRow (w.heap.size + 1 + 1) 23 1 uv k (fl rs) ∧ (∀ i, u0.ownBlock = some i → i ≠ (w2.heap.size + 1)) ∧ (∀ i, u1.ownBlock = some i → i ≠ (w2.heap.size + 1)) ∧ (∀ i, uv.ownBlock = some i → i ≠ (w2.heap.size + 1)) ∧ (∀ i, u1.ownBlock = some i → uv.ownBlock ≠ some i) ∧ Below w.heap.size w wr) (fun jv _ _ => T - (intOf jv).toNat)
  case atStart =>
    refine ⟨0, [], .slice (some ⟨ga, 0, none⟩) n ca, .slice (some ⟨gb, 0, none⟩) m cb, Nat.zero_le _, by rfl, rfl, rfl, ?_, ?_, ?_, ?_, ?_, ?_, ?_, ?_, ?_⟩
    · simp [Held, go_sem, *]
    · have h9 := OU0.out
      (repeat (first | (with_reducible refine World.ownsRow.alloc ?_ _) | (with_reducible refine ownsRow_drewN ?_ _) | ((with_reducible refine ownsRow_setCell_below ?_ ?_ _); rotate_left; focus (first | omega | (simp; done) | (simp; omega)))))
      exact h9
    · have h9 := OU1.out
      (repeat (first | (with_reducible refine World.ownsRow.alloc ?_ _) | (with_reducible refine ownsRow_drewN ?_ _) | ((with_reducible refine ownsRow_setCell_below ?_ ?_ _); rotate_left; focus (first | omega | (simp; done) | (simp; omega)))))
      exact h9
    · have h9 := World.ownsRow_made (base := w.heap.size + 1 + 1) (e := 23) (size := 1) (w2) #[] 0 (by first | omega | (simp; omega)) (Nat.zero_le _) (by simp)
      (try simp only [World.size_alloc] at h9)
      first | exact h9 | exact h9.alloc _
    · intro j hj
      have e1 := own_some hj
      omega
    · intro j hj
      have e1 := own_some hj
      omega
    · intro j hj
      have e1 := own_some hj
      omega
    · intro j hj hj2
      have e1 := own_some hj
      have e2 := own_some hj2
      omega
    · (repeat (first | assumption | (with_reducible exact Below.refl _ _) | (with_reducible refine Below.drewN ?_ _) | (with_reducible refine Below.drew ?_) | (with_reducible refine Below.allocS ?_ _) | ((with_reducible refine Below.setCell ?_ ?_ _); rotate_left; focus (first | omega | (simp; done) | (simp; omega))) | (with_reducible refine Below.step ?_ (by assumption))))
  case round =>
    obtain ⟨k, rs, u0, u1, hk, rfl, hup, hrs, hH, o0, o1, ov, n0, n1, nv, n1v, hBr⟩ := hrel
    obtain ⟨b0, s0, t0, rfl⟩ := ownsRow_shape o0
    obtain ⟨b1, s1, t1, rfl⟩ := ownsRow_shape o1
    have UP := Lib.hid hup
    have OU0 := Lib.hid o0
    have OU1 := Lib.hid o1
    have OV := Lib.hid ov
    have LV := Lib.hid (ownsRow_lt ov)
    have HH := Lib.hid hH
    have NV := Lib.hid nv
    have N1V := Lib.hid n1v
    have HRS := hrs
    simp only [Held, and_true] at hH
    have hzr := hBr.size
    have hpr : (w2.heap.size + 1) < wr.heap.size := by omega
    clear o0 o1 ov hup n0 n1 nv n1v
    by_cases hlt : k < T
    · have d1 : decide ((k : Int) < (T : Int)) = true := decide_eq_true (by omega)
      have e9 : ((clocksB n (runS n l lk y k) m lk && levelB y) && upto (fun j => finB .f32 (stepQ n (runS n l lk y k) lk y j)) n) = runOk n l lk y k := by rw [HC.out k, hl]; rfl
      cases e1 : runOk n l lk y k
      all_goals
        rw [e1] at e9
        have E9 := Lib.hid e9
        clear e9
        go_wp2_with (first | (go_at_call 107; refine (implStepClocks_lit E9.out _ _ _ (ownsRow_rowAt OU0.out) (ownsRow_rowAt OU1.out)).mono ?_))
        rintro e w5 ⟨x0, x1, rfl, ox0, ox1, xne, hb5⟩
        obtain ⟨a0, k0, d0, rfl⟩ := ownsRow_shape ox0
        obtain ⟨a1, k1, d1', rfl⟩ := ownsRow_shape ox1
        have hk5 := Held.below hb5 HH.out
        simp only [Held, and_true] at hk5
        have hB5 : Below w.heap.size w w5 := by (repeat (first | assumption | (with_reducible exact Below.refl _ _) | (with_reducible refine Below.drewN ?_ _) | (with_reducible refine Below.drew ?_) | (with_reducible refine Below.allocS ?_ _) | ((with_reducible refine Below.setCell ?_ ?_ _); rotate_left; focus (first | omega | (simp; done) | (simp; omega))) | (with_reducible refine Below.step ?_ (by assumption))))
        have hz5 := hb5.size
      · go_wp2_with fail
        refine bodyPost_ret (v := ?_) (by first | (simp [results, Try.results43, go_sem, *]; rfl) | (simp [results, Try.results43, go_sem, *]; done)) rfl ?_
        rw [HB2.out, upto_false hlt e1]
        refine ⟨_, _, _, [], rfl, ownsRow_nil', ownsRow_nil', ownsRow_nil', (fun i hi => by cases hi), (fun i hi => by cases hi), (fun i hi => by cases hi), rfl, ?_⟩
        (repeat (first | assumption | (with_reducible exact Below.refl _ _) | (with_reducible refine Below.drewN ?_ _) | (with_reducible refine Below.drew ?_) | (with_reducible refine Below.allocS ?_ _) | ((with_reducible refine Below.setCell ?_ ?_ _); rotate_left; focus (first | omega | (simp; done) | (simp; omega))) | (with_reducible refine Below.step ?_ (by assumption))))
      · have L0 := Lib.hid (ownsRow_lt ox0)
        have L1 := Lib.hid (ownsRow_lt ox1)
        have ox0' := ownsRow_base (base' := w.heap.size + 1 + 1) (by omega) ox0
        have ox1' := ownsRow_base (base' := w.heap.size + 1 + 1) (by omega) ox1
        obtain ⟨w6, hw6⟩ : ∃ w6, w6 = (w5.setCell ⟨(w2.heap.size + 1), 0, none⟩ (.slice a0 k0 d0)).setCell ⟨(w2.heap.size + 1), 1, none⟩ (.slice a1 k1 d1') := ⟨_, rfl⟩
        have K6 : Kept w5 w6 [some (w2.heap.size + 1)] := by rw [hw6]; exact kept_two _ _ _ _
        have X0 : Hid (w6.ownsRow (w.heap.size + 1 + 1) 113 2 (.slice a0 k0 d0) n (fl (runS n l lk y (k + 1)))) := ownsRow_kept ox0' K6 (fun j hj hm => by have h1 := L0.out j hj; have h2 := List.mem_singleton.1 hm; cases h2; omega)
        have X1 : Hid (w6.ownsRow (w.heap.size + 1 + 1) 23 1 (.slice a1 k1 d1') m (fl lk)) := ownsRow_kept ox1' K6 (fun j hj hm => by have h1 := L1.out j hj; have h2 := List.mem_singleton.1 hm; cases h2; omega)
        have V6 : Hid (w6.ownsRow (w.heap.size + 1 + 1) 23 1 u10 k (fl rs)) := ownsRow_kept (ownsRow_below OV.out hb5) K6 (fun j hj hm => by have h2 := List.mem_singleton.1 hm; cases h2; exact NV.out _ hj rfl)
        have hk6 : Held [(⟨(w2.heap.size + 1), 0, none⟩, .slice a0 k0 d0), (⟨(w2.heap.size + 1), 1, none⟩, .slice a1 k1 d1'), (⟨w.heap.size + 1, 0, none⟩, .slice none 0 0), (⟨w.heap.size + 1, 1, none⟩, .slice none 0 0)] w6 := by
          rw [hw6]
          simp [Held, go_sem, *]
          try omega
        have hB6 : Below w.heap.size w w6 := hB5.trans (K6.toBelow (by omega) (fun j hj => by have h2 := List.mem_singleton.1 hj; cases h2; omega))
        have hz6 : w6.heap.size = w5.heap.size := by rw [hw6]; simp
        have HK6 := Lib.hid hk6
        clear K6 ox0 ox1 ox0' ox1' OV OU0 OU1 HH hH
        go_wp2_with fail
        rw [← hw6]
        clear hw6
        refine (orderC_any (.slice a0 k0 d0) (.slice a1 k1 d1') n (runS n l lk y (k + 1)) (w2.heap.size + 1) _ ?_ ?_ (by omega) c2).mono ?_
        · refine RowAt.below (ownsRow_rowAt X0.out) ?_
          (repeat (first | (with_reducible exact Below.refl _ _) | (with_reducible refine Below.drewN ?_ _) | (with_reducible refine Below.drew ?_) | (with_reducible refine Below.allocS ?_ _) | ((with_reducible refine Below.setCell ?_ ?_ _); rotate_left; focus (first | omega | (simp; done) | (simp; omega)))))
        · simp only [Held, and_true] at hk6
          simp [Held, go_sem, *]
        rintro e w7 ⟨r, s9, rfl, hq, hq2, hb7⟩
        have HQ := Lib.hid hq
        clear hq hq2
        have B67 : Below w6.heap.size w6 w7 := by
          refine Below.step ?_ hb7
          (repeat (first | (with_reducible exact Below.refl _ _) | (with_reducible refine Below.drewN ?_ _) | (with_reducible refine Below.drew ?_) | (with_reducible refine Below.allocS ?_ _) | ((with_reducible refine Below.setCell ?_ ?_ _); rotate_left; focus (first | omega | (simp; done) | (simp; omega)))))
        have Y0 := Lib.hid (ownsRow_below X0.out B67)
        have Y1 := Lib.hid (ownsRow_below X1.out B67)
        have V7 := Lib.hid (ownsRow_below V6.out B67)
        have hk7 := Held.below B67 HK6.out
        have HK7 := Lib.hid hk7
        have hB7 : Below w.heap.size w w7 := hB6.trans (B67.mono (by omega))
        have hz7 := B67.size
        clear X0 X1 V6 hk6 HK6
        simp only [Held, and_true] at hk7
        go_wp2_with (first | (at_builtin; refine wpList_append_own_at _ rfl _ _ 42 rfl (w.heap.size + 1 + 1) 23 i0 (.float .f32 0) 1 4 Try.underlying42 hi0 hz0 hz1 hz2 rfl (by decide) _ k (fl rs) rfl (by have h9 := V7.out; (repeat (first | (with_reducible refine World.ownsRow.alloc ?_ _) | (with_reducible refine ownsRow_drewN ?_ _) | ((with_reducible refine ownsRow_setCell_below ?_ ?_ _); rotate_left; focus (first | omega | (simp; done) | (simp; omega))))); exact h9) ⟨_, 0, none⟩ 1 1 [.float .f32 _] rfl rfl (cell_one_new _ _ _) (float_one _) (by simp only [maxLen]; omega) (by omega) (by first | omega | (simp; omega)) ?_))
        intro v8 w8 ho8 hg8 _ hat8
        have hk8 := Held_kept1 (Kept.of_grown hg8) (l := [(⟨(w2.heap.size + 1), 0, none⟩, .slice a0 k0 d0), (⟨(w2.heap.size + 1), 1, none⟩, .slice a1 k1 d1'), (⟨w.heap.size + 1, 0, none⟩, .slice none 0 0), (⟨w.heap.size + 1, 1, none⟩, .slice none 0 0)]) (by simp only [List.mem_cons, List.not_mem_nil, or_false, forall_eq_or_imp, forall_eq]; exact ⟨fun e => NV.out _ e rfl, fun e => NV.out _ e rfl, fun e => by have := LV.out _ e; omega, fun e => by have := LV.out _ e; omega⟩) (by simp [Held, go_sem, *] <;> omega)
        have Z0 : Hid (w8.ownsRow (w.heap.size + 1 + 1) 113 2 (.slice a0 k0 d0) n (fl (runS n l lk y (k + 1)))) := ownsRow_kept (by have h9 := Y0.out; (repeat (first | (with_reducible refine World.ownsRow.alloc ?_ _) | (with_reducible refine ownsRow_drewN ?_ _) | ((with_reducible refine ownsRow_setCell_below ?_ ?_ _); rotate_left; focus (first | omega | (simp; done) | (simp; omega))))); exact h9) (Kept.of_grown hg8) (fun j hj hm => ownsRow_ne Y0.out V7.out tc_ne j hj (List.mem_singleton.1 hm).symm)
        have Z1 : Hid (w8.ownsRow (w.heap.size + 1 + 1) 23 1 (.slice a1 k1 d1') m (fl lk)) := ownsRow_kept (by have h9 := Y1.out; (repeat (first | (with_reducible refine World.ownsRow.alloc ?_ _) | (with_reducible refine ownsRow_drewN ?_ _) | ((with_reducible refine ownsRow_setCell_below ?_ ?_ _); rotate_left; focus (first | omega | (simp; done) | (simp; omega))))); exact h9) (Kept.of_grown hg8) (fun j hj hm => by have h1 := L1.out j hj; have h2 := LV.out j (List.mem_singleton.1 hm).symm; omega)
        have Z2 : Hid (w8.ownsRow (w.heap.size + 1 + 1) 23 1 v8 (k + 1) (fl (rs ++ [r]))) := by
          show World.ownsRow _ _ _ _ _ _ _
          rw [fl_append]
          exact ho8
        have hB8 : Below w.heap.size w w8 := by
          refine Below.grown ?_ hg8 (by simp; omega) (fun j hj => by have := LV.out j hj; omega)
          (repeat (first | assumption | (with_reducible exact Below.refl _ _) | (with_reducible refine Below.drewN ?_ _) | (with_reducible refine Below.drew ?_) | (with_reducible refine Below.allocS ?_ _) | ((with_reducible refine Below.setCell ?_ ?_ _); rotate_left; focus (first | omega | (simp; done) | (simp; omega))) | (with_reducible refine Below.step ?_ (by assumption))))
        have HA := Lib.hid hat8
        have H8 := Lib.hid hk8
        clear hat8 hg8 ho8 hk8 Y0 Y1 V7 hk7
        go_wp2_with fail
        go_roundw
        case rel =>
          refine ⟨k + 1, rs ++ [r], _, _, hlt, (by first | go_num | (congr 1; omega)), (by rw [upto_succ, UP.out, e1]; rfl), ?_, H8.out, Z0.out, Z1.out, Z2.out, ?_, ?_, ?_, ?_, hB8⟩
          · show _ = _
            rw [List.map_append, range_snoc, HRS.out, List.map_cons, List.map_nil, HQ.out]
            rfl
          · intro j hj
            have := L0.out j hj
            omega
          · intro j hj
            have := L1.out j hj
            omega
          · intro j hj
            rcases HA.out with e | e
            · rw [e] at hj
              exact NV.out j hj
            · rw [e] at hj
              cases hj
              first | omega | (simp; omega)
          · intro j hj hj2
            have h1 := L1.out j hj
            rcases HA.out with e | e
            · rw [e] at hj2
              have h2 := LV.out j hj2
              omega
            · rw [e] at hj2
              cases hj2
              (try simp at h1)
              omega
        case measure => simp [intOf]; omega
    · obtain rfl : k = T := by omega
      have d1 : decide ((k : Int) < (k : Int)) = false := decide_eq_false (by omega)
      have HNE9 := Lib.hid (ownsRow_ne OU0.out OU1.out tc_ne)
      have HNE8 := Lib.hid (ownsRow_ne OU0.out OV.out tc_ne)
      go_wp2_with fail
      refine bodyPost_ret (v := ?_) (by first | (simp [results, Try.results43, go_sem, *]; rfl) | (simp [results, Try.results43, go_sem, *]; done)) rfl ?_
      rw [HB2.out, UP.out]
      refine ⟨_, _, _, rs, rfl, ?_, ?_, ?_, HNE9.out, HNE8.out, N1V.out, HRS.out, ?_⟩
      · refine ownsRow_base (base := w.heap.size + 1 + 1) (by omega) ?_
        have h9 := OU0.out
        (repeat (first | (with_reducible refine World.ownsRow.alloc ?_ _) | (with_reducible refine ownsRow_drewN ?_ _) | ((with_reducible refine ownsRow_setCell_below ?_ ?_ _); rotate_left; focus (first | omega | (simp; done) | (simp; omega)))))
        exact h9
      · refine ownsRow_base (base := w.heap.size + 1 + 1) (by omega) ?_
        have h9 := OU1.out
        (repeat (first | (with_reducible refine World.ownsRow.alloc ?_ _) | (with_reducible refine ownsRow_drewN ?_ _) | ((with_reducible refine ownsRow_setCell_below ?_ ?_ _); rotate_left; focus (first | omega | (simp; done) | (simp; omega)))))
        exact h9
      · refine ownsRow_base (base := w.heap.size + 1 + 1) (by omega) ?_
        have h9 := OV.out
        (repeat (first | (with_reducible refine World.ownsRow.alloc ?_ _) | (with_reducible refine ownsRow_drewN ?_ _) | ((with_reducible refine ownsRow_setCell_below ?_ ?_ _); rotate_left; focus (first | omega | (simp; done) | (simp; omega)))))
        exact h9
      · (repeat (first | assumption | (with_reducible exact Below.refl _ _) | (with_reducible refine Below.drewN ?_ _) | (with_reducible refine Below.drew ?_) | (with_reducible refine Below.allocS ?_ _) | ((with_reducible refine Below.setCell ?_ ?_ _); rotate_left; focus (first | omega | (simp; done) | (simp; omega))) | (with_reducible refine Below.step ?_ (by assumption))))

end Go.Proofs.Ytbmabpnolheghaa
