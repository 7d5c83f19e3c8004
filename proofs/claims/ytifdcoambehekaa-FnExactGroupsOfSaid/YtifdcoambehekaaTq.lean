/-
  The walks of clocks of which one is dropped; the law DropClock.
-/
import Derived.Test.YtifdcoambehekaaTk
import Derived.Test.YtifdcoambehekaaTp
set_option linter.unusedVariables false
set_option linter.unusedSimpArgs false
namespace Go.Proofs.Ytifdcoambehekaa
open Go.RowKit

def dropN (i : Int) (n : Nat) : List Nat := (List.range n).filter fun k => !((k : Int) == i)
theorem dropN_eq {i : Int} {k : Nat} (h : ((k : Int) == i) = true) : dropN i (k + 1) = dropN i k := by
  unfold dropN
  rw [List.range_succ, List.filter_append]
  simp only [List.filter_cons, h, Bool.not_true, Bool.false_eq_true, if_false, List.filter_nil, List.append_nil]
theorem dropN_ne {i : Int} {k : Nat} (h : ((k : Int) == i) = false) : dropN i (k + 1) = dropN i k ++ [k] := by
  unfold dropN
  rw [List.range_succ, List.filter_append]
  simp only [List.filter_cons, h, Bool.not_false, if_true, List.filter_nil]
theorem dropN_lt {i : Int} {n : Nat} : ∀ k ∈ dropN i n, k < n := fun k hk => List.mem_range.1 (List.mem_filter.1 hk).1
theorem dropN_len (i : Int) (n : Nat) : (dropN i n).length ≤ n := Nat.le_trans (List.length_filter_le _ _) (by rw [List.length_range]; exact Nat.le_refl _)
theorem idx_snoc (ks : List Nat) (k : Nat) : idx (ks ++ [k]) = idx ks ++ [.int .i64 ((k : Nat) : Int)] := by
  unfold idx il
  rw [List.map_append, List.map_append]
  rfl
theorem int_one (x : Int) : ∀ u ∈ [Value.int .i64 x], u.oneCell' = true := by
  intro u hu
  rw [List.mem_singleton.1 hu]
  rfl
theorem own_empty (W : World) (g base : Nat) (e : TypeId) (hg : g = W.heap.size) (hb : base ≤ g) : (W.alloc (.cells #[] e)).ownsRow base e 1 (.slice (some ⟨g, 0, none⟩) 0 0) 0 [] := by
  subst hg
  exact World.ownsRow_made (base := base) (e := e) (size := 1) W #[] 0 hb (Nat.zero_le _) (by simp)

set_option maxRecDepth 100000 in
set_option maxHeartbeats 8000000 in
theorem specDropClock_any (v v' : Value) (n m : Nat) (l lk : List Nat) (i : Int) (w : World) (h : RowAt w v 2 n (fl l)) (h' : RowAt w v' 1 m (fl lk)) : Calls Try.prog 24 #[.agg #[v, v'], .int .i64 i] w (GiveC (cN ((clocksB n l m lk && inZ i 0 ((n : Int) - 1)) && clocksB (dropN i n).length (pickL l (dropN i n)) ((dropN i n).length * (dropN i n).length) (pickK lk n (dropN i n))) (dropN i n).length) (cL ((clocksB n l m lk && inZ i 0 ((n : Int) - 1)) && clocksB (dropN i n).length (pickL l (dropN i n)) ((dropN i n).length * (dropN i n).length) (pickK lk n (dropN i n))) (pickL l (dropN i n))) (cN ((clocksB n l m lk && inZ i 0 ((n : Int) - 1)) && clocksB (dropN i n).length (pickL l (dropN i n)) ((dropN i n).length * (dropN i n).length) (pickK lk n (dropN i n))) ((dropN i n).length * (dropN i n).length)) (cL ((clocksB n l m lk && inZ i 0 ((n : Int) - 1)) && clocksB (dropN i n).length (pickL l (dropN i n)) ((dropN i n).length * (dropN i n).length) (pickK lk n (dropN i n))) (pickK lk n (dropN i n))) ((clocksB n l m lk && inZ i 0 ((n : Int) - 1)) && clocksB (dropN i n).length (pickL l (dropN i n)) ((dropN i n).length * (dropN i n).length) (pickK lk n (dropN i n))) w) := by
  have H := Lib.hid h
  have H' := Lib.hid h'
  clear h h'
  cases hi : (clocksB n l m lk && inZ i 0 ((n : Int) - 1))
  · rw [Bool.false_and]
    go_enter Try.func24, Try.ntmps24
    go_wp2_with (first | (go_at_call 62; refine (l05Index_any v v' n m l lk _ i _ ?_ ?_ ?_).mono ?_; (focus (refine RowAt.below H.out ?_; (repeat (first | assumption | (with_reducible exact Below.refl _ _) | (with_reducible refine Below.drewN ?_ _) | (with_reducible refine Below.drew ?_) | (with_reducible refine Below.allocS ?_ _) | ((with_reducible refine Below.setCell ?_ ?_ _); rotate_left; focus (first | omega | (simp; done) | (simp; omega))) | (with_reducible refine Below.step ?_ (by assumption)))); done)); (focus (refine RowAt.below H'.out ?_; (repeat (first | assumption | (with_reducible exact Below.refl _ _) | (with_reducible refine Below.drewN ?_ _) | (with_reducible refine Below.drew ?_) | (with_reducible refine Below.allocS ?_ _) | ((with_reducible refine Below.setCell ?_ ?_ _); rotate_left; focus (first | omega | (simp; done) | (simp; omega))) | (with_reducible refine Below.step ?_ (by assumption)))); done)); (focus (simp [Held, go_sem]; done)); rintro e w' ⟨c9, rfl, rfl⟩; rw [hi]))
    refine bodyPost_ret (v := ?_) (by first | (simp [results, Try.results24, go_sem, *]; rfl) | (simp [results, Try.results24, go_sem, *]; done)) rfl ?_
    refine ⟨_, _, rfl, ownsRow_nil', ownsRow_nil', (fun i hi => by cases hi), ?_⟩
    (repeat (first | assumption | (with_reducible exact Below.refl _ _) | (with_reducible refine Below.drewN ?_ _) | (with_reducible refine Below.drew ?_) | (with_reducible refine Below.allocS ?_ _) | ((with_reducible refine Below.setCell ?_ ?_ _); rotate_left; focus (first | omega | (simp; done) | (simp; omega))) | (with_reducible refine Below.step ?_ (by assumption))))
  rw [Bool.true_and]
  have hc : clocksB n l m lk = true := by simp only [Bool.and_eq_true] at hi; exact hi.1
  obtain ⟨c1, c2, c3, c4, c5⟩ := clocks_parts hc
  have C4 := Lib.hid c4
  clear c3 c4 c5 hc
  obtain ⟨h1, h2, ao, cap, rfl, h3⟩ := H.out
  clear h3 h1
  obtain ⟨i0, hi0, hz0, hz1, hz2⟩ := info_parts info_Int64
  go_enter Try.func24, Try.ntmps24
  go_wp2_with (first | (go_at_call 62; refine (l05Index_any (.slice ao n cap) v' n m l lk _ i _ ?_ ?_ ?_).mono ?_; (focus (refine RowAt.below H.out ?_; (repeat (first | assumption | (with_reducible exact Below.refl _ _) | (with_reducible refine Below.drewN ?_ _) | (with_reducible refine Below.drew ?_) | (with_reducible refine Below.allocS ?_ _) | ((with_reducible refine Below.setCell ?_ ?_ _); rotate_left; focus (first | omega | (simp; done) | (simp; omega))) | (with_reducible refine Below.step ?_ (by assumption)))); done)); (focus (refine RowAt.below H'.out ?_; (repeat (first | assumption | (with_reducible exact Below.refl _ _) | (with_reducible refine Below.drewN ?_ _) | (with_reducible refine Below.drew ?_) | (with_reducible refine Below.allocS ?_ _) | ((with_reducible refine Below.setCell ?_ ?_ _); rotate_left; focus (first | omega | (simp; done) | (simp; omega))) | (with_reducible refine Below.step ?_ (by assumption)))); done)); (focus (simp [Held, go_sem]; done)); rintro e w' ⟨c9, rfl, rfl⟩; rw [hi]))
  go_loopw [16, 6] (fun jv uv wr => ∃ k : Nat, k ≤ n ∧ jv = .int .i64 (k : Int) ∧ wr.ownsRow (w.heap.size + 1 + 1) 2 1 uv (dropN i k).length (idx (dropN i k)) ∧ Below w.heap.size w wr ∧ Held [(⟨w.heap.size, 0, none⟩, .slice ao n cap), (⟨w.heap.size, 1, none⟩, v'), (⟨w.heap.size + 1, 0, none⟩, .slice none 0 0), (⟨w.heap.size + 1, 1, none⟩, .slice none 0 0)] wr) (fun jv _ _ => n - (intOf jv).toNat)
  case atStart =>
    refine ⟨0, Nat.zero_le _, rfl, ?_, by (repeat (first | assumption | (with_reducible exact Below.refl _ _) | (with_reducible refine Below.drewN ?_ _) | (with_reducible refine Below.drew ?_) | (with_reducible refine Below.allocS ?_ _) | ((with_reducible refine Below.setCell ?_ ?_ _); rotate_left; focus (first | omega | (simp; done) | (simp; omega))) | (with_reducible refine Below.step ?_ (by assumption)))), by simp [Held, go_sem]⟩
    repeat (with_reducible refine ownsRow_drewN ?_ _)
    exact own_empty _ _ _ _ (by simp) (by simp)
  case round =>
    obtain ⟨k, hk, rfl, ho, hBr, hH⟩ := hrel
    obtain ⟨c2v, s2v, t2v, rfl⟩ := ownsRow_shape ho
    have OI := Lib.hid ho
    have HR2 := Lib.hid hH
    have hzr := hBr.size
    have hkl := dropN_len i k
    simp only [Held, and_true] at hH
    clear ho
    by_cases hlt : k < n
    · have d1 : decide ((k : Int) < (n : Int)) = true := decide_eq_true (by omega)
      cases e9 : ((k : Int) == i)
      · have E9 := Lib.hid e9
        have e8 : ((k : Int) != i) = true := by simp only [bne, e9, Bool.not_false]
        go_wp2_with (first | (at_builtin; refine wpList_append_own_at _ rfl _ _ 45 rfl (w.heap.size + 1 + 1) 2 i0 (.int .i64 0) 1 8 Try.underlying45 hi0 hz0 hz1 hz2 rfl (by decide) _ (dropN i k).length (idx (dropN i k)) rfl (by have h9 := OI.out; (repeat (first | (with_reducible refine World.ownsRow.alloc ?_ _) | (with_reducible refine ownsRow_drewN ?_ _) | ((with_reducible refine ownsRow_setCell_below ?_ ?_ _); rotate_left; focus (first | omega | (simp; done) | (simp; omega))))); exact h9) ⟨_, 0, none⟩ 1 1 [.int .i64 (k : Int)] rfl rfl (cell_one_new _ _ _) (int_one _) (by simp only [maxLen]; omega) (by omega) (by first | omega | (simp; omega)) ?_))
        intro v8 w8 ho8 hg8 _ _
        have hk8 := grown_held hg8 (base := w.heap.size + 1 + 1) (e := 2) (c := 1) (n := (dropN i k).length) (xs := idx (dropN i k)) (by have h9 := OI.out; (repeat (first | (with_reducible refine World.ownsRow.alloc ?_ _) | (with_reducible refine ownsRow_drewN ?_ _) | ((with_reducible refine ownsRow_setCell_below ?_ ?_ _); rotate_left; focus (first | omega | (simp; done) | (simp; omega))))); exact h9) (l := [(⟨w.heap.size, 0, none⟩, .slice ao n cap), (⟨w.heap.size, 1, none⟩, v'), (⟨w.heap.size + 1, 0, none⟩, .slice none 0 0), (⟨w.heap.size + 1, 1, none⟩, .slice none 0 0)]) (by simp; try omega) (by simp [Held, go_sem, *]; try omega)
        have hb8 : Below w.heap.size w w8 := by
          refine grown_below (w := w) ?_ hg8 (base := w.heap.size + 1 + 1) (e := 2) (c := 1) (n := (dropN i k).length) (xs := idx (dropN i k)) (by have h9 := OI.out; (repeat (first | (with_reducible refine World.ownsRow.alloc ?_ _) | (with_reducible refine ownsRow_drewN ?_ _) | ((with_reducible refine ownsRow_setCell_below ?_ ?_ _); rotate_left; focus (first | omega | (simp; done) | (simp; omega))))); exact h9) (by omega) (by first | omega | (simp; omega))
          (repeat (first | assumption | (with_reducible exact Below.refl _ _) | (with_reducible refine Below.drewN ?_ _) | (with_reducible refine Below.drew ?_) | (with_reducible refine Below.allocS ?_ _) | ((with_reducible refine Below.setCell ?_ ?_ _); rotate_left; focus (first | omega | (simp; done) | (simp; omega))) | (with_reducible refine Below.step ?_ (by assumption))))
        have O8 : Hid (w8.ownsRow (w.heap.size + 1 + 1) 2 1 v8 (dropN i (k + 1)).length (idx (dropN i (k + 1)))) := by
          show World.ownsRow _ _ _ _ _ _ _
          rw [dropN_ne E9.out, idx_snoc, List.length_append]
          exact ho8
        clear ho8 hg8
        go_wp2_with fail
        go_roundw
        case rel => exact ⟨k + 1, hlt, by go_num, O8.out, hb8, hk8⟩
        case measure => simp [intOf]; omega
      · have E9 := Lib.hid e9
        have e8 : ((k : Int) != i) = false := by simp only [bne, e9, Bool.not_true]
        go_wp2_with fail
        go_roundw
        case rel => exact ⟨k + 1, hlt, by go_num, by rw [dropN_eq E9.out]; exact OI.out, hBr, HR2.out⟩
        case measure => simp [intOf]; omega
    · obtain rfl : k = n := by omega
      have d1 : decide ((k : Int) < (k : Int)) = false := decide_eq_false (by omega)
      go_wp2_with fail
      refine (l05Picked_any (.slice ao k cap) v' (.slice c2v s2v t2v) k m l lk (dropN i k) _ _ ?_ ?_ ?_ ?_ dropN_lt (by omega) (by omega) c2 C4.out).mono ?_
      · refine RowAt.below H.out ?_
        (repeat (first | assumption | (with_reducible exact Below.refl _ _) | (with_reducible refine Below.drewN ?_ _) | (with_reducible refine Below.drew ?_) | (with_reducible refine Below.allocS ?_ _) | ((with_reducible refine Below.setCell ?_ ?_ _); rotate_left; focus (first | omega | (simp; done) | (simp; omega))) | (with_reducible refine Below.step ?_ (by assumption))))
      · refine RowAt.below H'.out ?_
        (repeat (first | assumption | (with_reducible exact Below.refl _ _) | (with_reducible refine Below.drewN ?_ _) | (with_reducible refine Below.drew ?_) | (with_reducible refine Below.allocS ?_ _) | ((with_reducible refine Below.setCell ?_ ?_ _); rotate_left; focus (first | omega | (simp; done) | (simp; omega))) | (with_reducible refine Below.step ?_ (by assumption))))
      · exact ownsRow_rowAt OI.out
      · exact ⟨hH.1, hH.2.1, trivial⟩
      rintro e w6 ⟨v0, v1, rfl, ou0, ou1, hb6⟩
      have hk6 := Held.below hb6 (l := [(⟨w.heap.size + 1, 0, none⟩, .slice none 0 0), (⟨w.heap.size + 1, 1, none⟩, .slice none 0 0)]) ⟨hH.2.2.1, hH.2.2.2, trivial⟩
      simp only [Held, and_true] at hk6
      have hz6 := hb6.size
      have hbx : w.heap.size + 1 + 1 ≤ wr.heap.size := hH.2.2.2.1
      have X0 := Lib.hid (ownsRow_base (base' := w.heap.size + 1 + 1) hbx ou0)
      have X1 := Lib.hid (ownsRow_base (base' := w.heap.size + 1 + 1) hbx ou1)
      have hne := ownsRow_ne X0.out X1.out tc_ne
      obtain ⟨a0, k0, d0, rfl⟩ := ownsRow_shape ou0
      obtain ⟨a1, k1, d1', rfl⟩ := ownsRow_shape ou1
      have hB6 : Below w.heap.size w w6 := hBr.trans (hb6.mono (by omega))
      clear ou0 ou1 hH
      cases hv : clocksB (dropN i k).length (pickL l (dropN i k)) ((dropN i k).length * (dropN i k).length) (pickK lk k (dropN i k))
      · go_wp2_with (first | (go_at_call 53; refine (l05Give_any _ _ _ _ _ _ (dropN i k).length ((dropN i k).length * (dropN i k).length) _ _ _ (ownsRow_rowAt X0.out) (ownsRow_rowAt X1.out)).mono ?_; rintro e w7 ⟨rfl, hb7⟩; rw [hv]; have hk7 := Held.below hb7 (l := [(⟨w.heap.size + 1, 0, none⟩, .slice none 0 0), (⟨w.heap.size + 1, 1, none⟩, .slice none 0 0)]) (by simp [Held, *]); simp only [Held, and_true] at hk7; have Y0 := Lib.hid (ownsRow_below X0.out hb7); have Y1 := Lib.hid (ownsRow_below X1.out hb7)))
        refine bodyPost_ret (v := ?_) (by first | (simp [results, Try.results24, go_sem, *]; rfl) | (simp [results, Try.results24, go_sem, *]; done)) rfl ?_
        rw [hv]
        refine ⟨_, _, rfl, ownsRow_nil', ownsRow_nil', (fun i hi => by cases hi), ?_⟩
        (repeat (first | assumption | (with_reducible exact Below.refl _ _) | (with_reducible refine Below.drewN ?_ _) | (with_reducible refine Below.drew ?_) | (with_reducible refine Below.allocS ?_ _) | ((with_reducible refine Below.setCell ?_ ?_ _); rotate_left; focus (first | omega | (simp; done) | (simp; omega))) | (with_reducible refine Below.step ?_ (by assumption))))
      · go_wp2_with (first | (go_at_call 53; refine (l05Give_any _ _ _ _ _ _ (dropN i k).length ((dropN i k).length * (dropN i k).length) _ _ _ (ownsRow_rowAt X0.out) (ownsRow_rowAt X1.out)).mono ?_; rintro e w7 ⟨rfl, hb7⟩; rw [hv]; have hk7 := Held.below hb7 (l := [(⟨w.heap.size + 1, 0, none⟩, .slice none 0 0), (⟨w.heap.size + 1, 1, none⟩, .slice none 0 0)]) (by simp [Held, *]); simp only [Held, and_true] at hk7; have Y0 := Lib.hid (ownsRow_below X0.out hb7); have Y1 := Lib.hid (ownsRow_below X1.out hb7)))
        refine bodyPost_ret (v := ?_) (by first | (simp [results, Try.results24, go_sem, *]; rfl) | (simp [results, Try.results24, go_sem, *]; done)) rfl ?_
        rw [hv]
        refine ⟨_, _, rfl, ?_, ?_, hne, ?_⟩
        · refine ownsRow_base (base := w.heap.size + 1 + 1) (by omega) ?_
          have := Y0.out
          (repeat (first | (with_reducible refine World.ownsRow.alloc ?_ _) | (with_reducible refine ownsRow_drewN ?_ _) | ((with_reducible refine ownsRow_setCell_below ?_ ?_ _); rotate_left; focus (first | omega | (simp; done) | (simp; omega)))))
          exact this
        · refine ownsRow_base (base := w.heap.size + 1 + 1) (by omega) ?_
          have := Y1.out
          (repeat (first | (with_reducible refine World.ownsRow.alloc ?_ _) | (with_reducible refine ownsRow_drewN ?_ _) | ((with_reducible refine ownsRow_setCell_below ?_ ?_ _); rotate_left; focus (first | omega | (simp; done) | (simp; omega)))))
          exact this
        · (repeat (first | assumption | (with_reducible exact Below.refl _ _) | (with_reducible refine Below.drewN ?_ _) | (with_reducible refine Below.drew ?_) | (with_reducible refine Below.allocS ?_ _) | ((with_reducible refine Below.setCell ?_ ?_ _); rotate_left; focus (first | omega | (simp; done) | (simp; omega))) | (with_reducible refine Below.step ?_ (by assumption))))

set_option maxRecDepth 100000 in
set_option maxHeartbeats 8000000 in
theorem DropClock1_any (v0 v1 : Value) (n m : Nat) (l lk : List Nat) (B p q1 : Nat) (i : Int) (w : World) (h : w.ownsRow B 66 2 v0 n (fl l)) (h' : w.ownsRow B 22 1 v1 m (fl lk)) (hp : Held [(⟨p, 0, none⟩, v0), (⟨p, 1, none⟩, v1)] w) (hq : Held [(⟨q1, 0, none⟩, .int .i64 i)] w) (hn0 : 0 < n) (hn : n ≤ 12) (hm : m = n * n) (hBp : B ≤ p) :
    Calls Try.prog 71 #[.pointer (some ⟨p, 0, none⟩), .pointer (some ⟨q1, 0, none⟩)] w fun e w' => ∃ u0 u1, e = .returned (.bool (inZ i 0 ((n : Int) - 1))) ∧ Held [(⟨p, 0, none⟩, u0), (⟨p, 1, none⟩, u1)] w' ∧ w'.ownsRow B 66 2 u0 (dropN i n).length (fl (pickL l (dropN i n))) ∧ w'.ownsRow B 22 1 u1 ((dropN i n).length * (dropN i n).length) (fl (pickK lk n (dropN i n))) ∧ Kept w w' [some p] := by
  have H := Lib.hid (ownsRow_rowAt h)
  have H' := Lib.hid (ownsRow_rowAt h')
  have hpz : p < w.heap.size := hp.1.1
  have HM : Hid (m = n * n) := hm
  clear h h' hm
  obtain ⟨h1, h2, ao, cap, rfl, h3⟩ := H.out
  obtain ⟨g1, g2, ao', cap', rfl, g3⟩ := H'.out
  clear h3 g3 h1 g1
  have HP := Lib.hid hp
  have HQ := Lib.hid hq
  simp only [Held, and_true] at hp hq
  obtain ⟨i0, hi0, hz0, hz1, hz2⟩ := info_parts info_Int64
  have h63 : n ≤ 9223372036854775807 := by omega
  go_enter Try.func71, Try.ntmps71
  go_wp2_with (first | (go_at_call 69; refine (many_any (.slice ao n cap) (.slice ao' m cap') n m _ p _ (H.out.below ?_) ?_).mono ?_; (focus ((repeat (first | (with_reducible exact Below.refl _ _) | (with_reducible refine Below.drewN ?_ _) | (with_reducible refine Below.drew ?_) | (with_reducible refine Below.allocS ?_ _) | ((with_reducible refine Below.setCell ?_ ?_ _); rotate_left; focus (first | omega | (simp; done) | (simp; omega))))); done)); (focus (simp [Held, go_sem, *]; done)); rintro e w' ⟨rfl, e9⟩; subst w'))
  go_loopw [10, 4] (fun jv uv wr => ∃ k : Nat, k ≤ n ∧ jv = .int .i64 (k : Int) ∧ wr.ownsRow (w.heap.size) 2 1 uv (dropN i k).length (idx (dropN i k)) ∧ Below w.heap.size w wr ∧ Held [(⟨p, 0, none⟩, .slice ao n cap), (⟨p, 1, none⟩, .slice ao' m cap'), (⟨q1, 0, none⟩, .int .i64 i)] wr) (fun jv _ _ => n - (intOf jv).toNat)
  case atStart =>
    refine ⟨0, Nat.zero_le _, rfl, ?_, by (repeat (first | assumption | (with_reducible exact Below.refl _ _) | (with_reducible refine Below.drewN ?_ _) | (with_reducible refine Below.drew ?_) | (with_reducible refine Below.allocS ?_ _) | ((with_reducible refine Below.setCell ?_ ?_ _); rotate_left; focus (first | omega | (simp; done) | (simp; omega))) | (with_reducible refine Below.step ?_ (by assumption)))), by simp [Held, go_sem, *]⟩
    repeat (with_reducible refine ownsRow_drewN ?_ _)
    exact own_empty _ _ _ _ (by simp) (by simp)
  case round =>
    obtain ⟨k, hk, rfl, ho, hBr, hH⟩ := hrel
    obtain ⟨c2v, s2v, t2v, rfl⟩ := ownsRow_shape ho
    have OI := Lib.hid ho
    have HR2 := Lib.hid hH
    have hzr := hBr.size
    have hkl := dropN_len i k
    simp only [Held, and_true] at hH
    clear ho
    by_cases hlt : k < n
    · have d1 : decide ((k : Int) < (n : Int)) = true := decide_eq_true (by omega)
      cases e9 : ((k : Int) == i)
      · have E9 := Lib.hid e9
        have e8 : ((k : Int) != i) = true := by simp only [bne, e9, Bool.not_false]
        go_wp2_with (first | (at_builtin; refine wpList_append_own_at _ rfl _ _ 45 rfl (w.heap.size) 2 i0 (.int .i64 0) 1 8 Try.underlying45 hi0 hz0 hz1 hz2 rfl (by decide) _ (dropN i k).length (idx (dropN i k)) rfl (by have h9 := OI.out; (repeat (first | (with_reducible refine World.ownsRow.alloc ?_ _) | (with_reducible refine ownsRow_drewN ?_ _) | ((with_reducible refine ownsRow_setCell_below ?_ ?_ _); rotate_left; focus (first | omega | (simp; done) | (simp; omega))))); exact h9) ⟨_, 0, none⟩ 1 1 [.int .i64 (k : Int)] rfl rfl (cell_one_new _ _ _) (int_one _) (by simp only [maxLen]; omega) (by omega) (by first | omega | (simp; omega)) ?_))
        intro v8 w8 ho8 hg8 _ _
        have hk8 := grown_held hg8 (base := w.heap.size) (e := 2) (c := 1) (n := (dropN i k).length) (xs := idx (dropN i k)) (by have h9 := OI.out; (repeat (first | (with_reducible refine World.ownsRow.alloc ?_ _) | (with_reducible refine ownsRow_drewN ?_ _) | ((with_reducible refine ownsRow_setCell_below ?_ ?_ _); rotate_left; focus (first | omega | (simp; done) | (simp; omega))))); exact h9) (l := [(⟨p, 0, none⟩, .slice ao n cap), (⟨p, 1, none⟩, .slice ao' m cap'), (⟨q1, 0, none⟩, .int .i64 i)]) (by simp; try omega) (by simp [Held, go_sem, *]; try omega)
        have hb8 : Below w.heap.size w w8 := by
          refine grown_below (w := w) ?_ hg8 (base := w.heap.size) (e := 2) (c := 1) (n := (dropN i k).length) (xs := idx (dropN i k)) (by have h9 := OI.out; (repeat (first | (with_reducible refine World.ownsRow.alloc ?_ _) | (with_reducible refine ownsRow_drewN ?_ _) | ((with_reducible refine ownsRow_setCell_below ?_ ?_ _); rotate_left; focus (first | omega | (simp; done) | (simp; omega))))); exact h9) (by omega) (by first | omega | (simp; omega))
          (repeat (first | assumption | (with_reducible exact Below.refl _ _) | (with_reducible refine Below.drewN ?_ _) | (with_reducible refine Below.drew ?_) | (with_reducible refine Below.allocS ?_ _) | ((with_reducible refine Below.setCell ?_ ?_ _); rotate_left; focus (first | omega | (simp; done) | (simp; omega))) | (with_reducible refine Below.step ?_ (by assumption))))
        have O8 : Hid (w8.ownsRow (w.heap.size) 2 1 v8 (dropN i (k + 1)).length (idx (dropN i (k + 1)))) := by
          show World.ownsRow _ _ _ _ _ _ _
          rw [dropN_ne E9.out, idx_snoc, List.length_append]
          exact ho8
        clear ho8 hg8
        go_wp2_with fail
        go_roundw
        case rel => exact ⟨k + 1, hlt, by go_num, O8.out, hb8, hk8⟩
        case measure => simp [intOf]; omega
      · have E9 := Lib.hid e9
        have e8 : ((k : Int) != i) = false := by simp only [bne, e9, Bool.not_true]
        go_wp2_with fail
        go_roundw
        case rel => exact ⟨k + 1, hlt, by go_num, by rw [dropN_eq E9.out]; exact OI.out, hBr, HR2.out⟩
        case measure => simp [intOf]; omega
    · obtain rfl : k = n := by omega
      have d1 : decide ((k : Int) < (k : Int)) = false := decide_eq_false (by omega)
      go_wp2_with (first | (go_at_call 68; refine (has_any (.slice ao k cap) (.slice ao' m cap') k m _ p i _ hn (H.out.below ?_) ?_).mono ?_; (focus ((repeat (first | assumption | (with_reducible exact Below.refl _ _) | (with_reducible refine Below.drewN ?_ _) | (with_reducible refine Below.drew ?_) | (with_reducible refine Below.allocS ?_ _) | ((with_reducible refine Below.setCell ?_ ?_ _); rotate_left; focus (first | omega | (simp; done) | (simp; omega))) | (with_reducible refine Below.step ?_ (by assumption)))); done)); (focus (exact ⟨hH.1, hH.2.1, trivial⟩)); rintro e w' ⟨rfl, e9⟩; subst w'))
      refine (ordered_any (.slice ao k cap) (.slice ao' m cap') (.slice c2v s2v t2v) k m l lk (dropN i k) p _ ?_ ?_ ?_ ?_ dropN_lt (by omega) hn0 hn HM.out).mono ?_
      · refine RowAt.below H.out ?_
        (repeat (first | assumption | (with_reducible exact Below.refl _ _) | (with_reducible refine Below.drewN ?_ _) | (with_reducible refine Below.drew ?_) | (with_reducible refine Below.allocS ?_ _) | ((with_reducible refine Below.setCell ?_ ?_ _); rotate_left; focus (first | omega | (simp; done) | (simp; omega))) | (with_reducible refine Below.step ?_ (by assumption))))
      · refine RowAt.below H'.out ?_
        (repeat (first | assumption | (with_reducible exact Below.refl _ _) | (with_reducible refine Below.drewN ?_ _) | (with_reducible refine Below.drew ?_) | (with_reducible refine Below.allocS ?_ _) | ((with_reducible refine Below.setCell ?_ ?_ _); rotate_left; focus (first | omega | (simp; done) | (simp; omega))) | (with_reducible refine Below.step ?_ (by assumption))))
      · exact ownsRow_rowAt OI.out
      · exact ⟨hH.1, hH.2.1, trivial⟩
      rintro e w6 ⟨v0, v1, rfl, ou0, ou1, hb6⟩
      have hk6 := Held.below hb6 (l := [(⟨p, 0, none⟩, .slice ao k cap), (⟨p, 1, none⟩, .slice ao' m cap')]) ⟨hH.1, hH.2.1, trivial⟩
      simp only [Held, and_true] at hk6
      have hz6 := hb6.size
      have hB6 : Below w.heap.size w w6 := hBr.trans (hb6.mono (by omega))
      have hl0 := ownsRow_lt ou0
      have hl1 := ownsRow_lt ou1
      have X0 := Lib.hid (ownsRow_base (base' := B) (by omega) ou0)
      have X1 := Lib.hid (ownsRow_base (base' := B) (by omega) ou1)
      obtain ⟨a0, k0, d0, rfl⟩ := ownsRow_shape ou0
      obtain ⟨a1, k1, d1', rfl⟩ := ownsRow_shape ou1
      obtain ⟨w7, hw7⟩ : ∃ w7, w7 = (w6.setCell ⟨p, 0, none⟩ (.slice a0 k0 d0)).setCell ⟨p, 1, none⟩ (.slice a1 k1 d1') := ⟨_, rfl⟩
      have K7 : Kept w6 w7 [some p] := by rw [hw7]; exact (kept_one _ _ _ _).trans1 (kept_one _ _ _ _)
      have Y0 := Lib.hid (ownsRow_kept X0.out K7 (fun j hj hm => by have h4 := (hl0 j hj).1; have h5 := List.mem_singleton.1 hm; cases h5; omega))
      have Y1 := Lib.hid (ownsRow_kept X1.out K7 (fun j hj hm => by have h4 := (hl1 j hj).1; have h5 := List.mem_singleton.1 hm; cases h5; omega))
      have hk7 : Hid (Held [(⟨p, 0, none⟩, .slice a0 k0 d0), (⟨p, 1, none⟩, .slice a1 k1 d1')] w7) := by
        show Held _ _
        rw [hw7]
        simp [Held, go_sem, *]
      have KW : Hid (Kept w w7 [some p]) := (Kept.of_below hB6).trans K7
      clear ou0 ou1 hl0 hl1 hH K7
      go_wp2_with fail
      refine bodyPost_ret (v := ?_) (by first | (simp [results, Try.results71, go_sem, *]; rfl) | (simp [results, Try.results71, go_sem, *]; done)) rfl ?_
      rw [← hw7]
      exact ⟨_, _, rfl, hk7.out, Y0.out, Y1.out, KW.out⟩

set_option maxRecDepth 100000 in
set_option maxHeartbeats 8000000 in
theorem implDropClock_any (v v' : Value) (n m : Nat) (l lk : List Nat) (i : Int) (w : World) (h : RowAt w v 2 n (fl l)) (h' : RowAt w v' 1 m (fl lk)) : Calls Try.prog 25 #[.agg #[v, v'], .int .i64 i] w (GiveC (cN ((clocksB n l m lk && inZ i 0 ((n : Int) - 1)) && clocksB (dropN i n).length (pickL l (dropN i n)) ((dropN i n).length * (dropN i n).length) (pickK lk n (dropN i n))) (dropN i n).length) (cL ((clocksB n l m lk && inZ i 0 ((n : Int) - 1)) && clocksB (dropN i n).length (pickL l (dropN i n)) ((dropN i n).length * (dropN i n).length) (pickK lk n (dropN i n))) (pickL l (dropN i n))) (cN ((clocksB n l m lk && inZ i 0 ((n : Int) - 1)) && clocksB (dropN i n).length (pickL l (dropN i n)) ((dropN i n).length * (dropN i n).length) (pickK lk n (dropN i n))) ((dropN i n).length * (dropN i n).length)) (cL ((clocksB n l m lk && inZ i 0 ((n : Int) - 1)) && clocksB (dropN i n).length (pickL l (dropN i n)) ((dropN i n).length * (dropN i n).length) (pickK lk n (dropN i n))) (pickK lk n (dropN i n))) ((clocksB n l m lk && inZ i 0 ((n : Int) - 1)) && clocksB (dropN i n).length (pickL l (dropN i n)) ((dropN i n).length * (dropN i n).length) (pickK lk n (dropN i n))) w) := by
  have H := Lib.hid h
  have H' := Lib.hid h'
  clear h h'
  go_enter Try.func25, Try.ntmps25
  go_wp2_with fail
  refine (changedClocks_any v v' n m l lk 71 #[.pointer (some ⟨w.heap.size + 1, 0, none⟩)] (inZ i 0 ((n : Int) - 1)) (dropN i n).length (pickL l (dropN i n)) ((dropN i n).length * (dropN i n).length) (pickK lk n (dropN i n)) _ ?_ ?_ ?_ ?_).mono ?_
  · refine RowAt.below H.out ?_
    (repeat (first | assumption | (with_reducible exact Below.refl _ _) | (with_reducible refine Below.drewN ?_ _) | (with_reducible refine Below.drew ?_) | (with_reducible refine Below.allocS ?_ _) | ((with_reducible refine Below.setCell ?_ ?_ _); rotate_left; focus (first | omega | (simp; done) | (simp; omega))) | (with_reducible refine Below.step ?_ (by assumption))))
  · refine RowAt.below H'.out ?_
    (repeat (first | assumption | (with_reducible exact Below.refl _ _) | (with_reducible refine Below.drewN ?_ _) | (with_reducible refine Below.drew ?_) | (with_reducible refine Below.allocS ?_ _) | ((with_reducible refine Below.setCell ?_ ?_ _); rotate_left; focus (first | omega | (simp; done) | (simp; omega))) | (with_reducible refine Below.step ?_ (by assumption))))
  · intro w1 x
    simp [go_sem]
  · intro hc B w1 p v0 v1 hB hp HP o0 o1 l0 l1 hb
    have c1 := (clocks_parts hc).1
    have c2 := (clocks_parts hc).2.1
    have c4 := (clocks_parts hc).2.2.2.1
    simp at hB
    refine (DropClock1_any v0 v1 n m l lk B p _ i w1 o0 o1 HP (Held.below hb (by simp [Held, go_sem])) (by omega) c2 c4 hp).mono ?_
    rintro e w2 ⟨u0, u1, rfl, h0, x0, x1, hk⟩
    exact ⟨u0, u1, rfl, h0, x0, x1, ⟨hk.os, hk.tape, hk.output, hk.size, fun j hj hne => hk.block j hj (fun hm => hne (by simp at hm ⊢; simp [hm]))⟩⟩
  rintro e w4 ⟨u0, u1, rfl, ou0, ou1, une, hb4⟩
  obtain ⟨a0, k0, d0, rfl⟩ := ownsRow_shape ou0
  obtain ⟨a1, k1, d1, rfl⟩ := ownsRow_shape ou1
  have hk4 := Held.below hb4 (l := [(⟨w.heap.size + 1 + 1, 0, none⟩, .slice none 0 0), (⟨w.heap.size + 1 + 1, 1, none⟩, .slice none 0 0)]) (by simp [Held, go_sem])
  simp only [Held, and_true] at hk4
  have OU0 := Lib.hid (ownsRow_base (base' := w.heap.size + 1 + 1 + 1) (by simp) ou0)
  have OU1 := Lib.hid (ownsRow_base (base' := w.heap.size + 1 + 1 + 1) (by simp) ou1)
  clear ou0 ou1
  go_wp2_with fail
  refine bodyPost_ret (v := ?_) (by first | (simp [results, Try.results25, go_sem, *]; rfl) | (simp [results, Try.results25, go_sem, *]; done)) rfl ?_
  refine ⟨_, _, rfl, ?_, ?_, une, ?_⟩
  · refine ownsRow_base (base := w.heap.size + 1 + 1 + 1) (by omega) ?_
    have := OU0.out
    (repeat (first | (with_reducible refine World.ownsRow.alloc ?_ _) | (with_reducible refine ownsRow_drewN ?_ _) | ((with_reducible refine ownsRow_setCell_below ?_ ?_ _); rotate_left; focus (first | omega | (simp; done) | (simp; omega)))))
    exact this
  · refine ownsRow_base (base := w.heap.size + 1 + 1 + 1) (by omega) ?_
    have := OU1.out
    (repeat (first | (with_reducible refine World.ownsRow.alloc ?_ _) | (with_reducible refine ownsRow_drewN ?_ _) | ((with_reducible refine ownsRow_setCell_below ?_ ?_ _); rotate_left; focus (first | omega | (simp; done) | (simp; omega)))))
    exact this
  · (repeat (first | assumption | (with_reducible exact Below.refl _ _) | (with_reducible refine Below.drewN ?_ _) | (with_reducible refine Below.drew ?_) | (with_reducible refine Below.allocS ?_ _) | ((with_reducible refine Below.setCell ?_ ?_ _); rotate_left; focus (first | omega | (simp; done) | (simp; omega))) | (with_reducible refine Below.step ?_ (by assumption))))

theorem specDropClock_lit {n m : Nat} {l lk : List Nat} {i2 : Int} {B : Bool} (hB : ((clocksB n l m lk && inZ i2 0 ((n : Int) - 1)) && clocksB (dropN i2 n).length (pickL l (dropN i2 n)) ((dropN i2 n).length * (dropN i2 n).length) (pickK lk n (dropN i2 n))) = B) (v v' : Value) (w : World) (h : RowAt w v 2 n (fl l)) (h' : RowAt w v' 1 m (fl lk)) : Calls Try.prog 24 #[.agg #[v, v'], .int .i64 i2] w (GiveC (cN B ((dropN i2 n).length)) (cL B (pickL l (dropN i2 n))) (cN B (((dropN i2 n).length * (dropN i2 n).length))) (cL B (pickK lk n (dropN i2 n))) B w) := hB ▸ specDropClock_any v v' n m l lk i2 w h h'

theorem implDropClock_lit {n m : Nat} {l lk : List Nat} {i2 : Int} {B : Bool} (hB : ((clocksB n l m lk && inZ i2 0 ((n : Int) - 1)) && clocksB (dropN i2 n).length (pickL l (dropN i2 n)) ((dropN i2 n).length * (dropN i2 n).length) (pickK lk n (dropN i2 n))) = B) (v v' : Value) (w : World) (h : RowAt w v 2 n (fl l)) (h' : RowAt w v' 1 m (fl lk)) : Calls Try.prog 25 #[.agg #[v, v'], .int .i64 i2] w (GiveC (cN B ((dropN i2 n).length)) (cL B (pickL l (dropN i2 n))) (cN B (((dropN i2 n).length * (dropN i2 n).length))) (cL B (pickK lk n (dropN i2 n))) B w) := hB ▸ implDropClock_any v v' n m l lk i2 w h h'

set_option maxRecDepth 100000 in
set_option maxHeartbeats 8000000 in
theorem lawDropClock_walk (v0 : Value) (n0 : Nat) (l0 : List Nat) (v1 : Value) (n1 : Nat) (l1 : List Nat) (i2 : Int) (w : World) (h0 : RowAt w v0 2 n0 (fl l0)) (h1 : RowAt w v1 1 n1 (fl l1)) (hb0 : ∀ x ∈ l0, x < 4294967296) (hb1 : ∀ x ∈ l1, x < 4294967296) (hb_i2 : (Lit.int .i64 i2).wf = true) : Calls Try.prog 5 #[.agg #[v0, v1], .int .i64 i2] w fun e w' => e = .returned (.bool true) ∧ Below w.heap.size w w' := by
  have H0 := Lib.hid h0
  have H1 := Lib.hid h1
  have HB0 := Lib.hid hb0
  clear hb0
  have HB1 := Lib.hid hb1
  clear hb1
  clear h0 h1
  go_enter Try.func5, Try.ntmps5
  obtain ⟨B, hB⟩ : ∃ B, ((clocksB n0 l0 n1 l1 && inZ i2 0 ((n0 : Int) - 1)) && clocksB (dropN i2 n0).length (pickL l0 (dropN i2 n0)) ((dropN i2 n0).length * (dropN i2 n0).length) (pickK l1 n0 (dropN i2 n0))) = B := ⟨_, rfl⟩
  have hN9 : cN B ((dropN i2 n0).length) ≤ 12 ∧ cN B (((dropN i2 n0).length * (dropN i2 n0).length)) ≤ 144 := by
    cases B
    · exact ⟨Nat.zero_le _, Nat.zero_le _⟩
    · simp only [Bool.and_eq_true] at hB; obtain ⟨c1, c2, c3, c4, c5⟩ := clocks_parts hB.1.1; have hd := Nat.le_trans (dropN_len i2 n0) c2; exact ⟨hd, sq_small hd⟩
  have HBB := Lib.hid hB
  clear hB
  go_wp2_with fail
  refine (szClocks_any v0 n0 (fl l0) v1 n1 (fl l1) (1048576) _ ?_ ?_ (by omega)).mono ?_
  · refine RowAt.below H0.out ?_
    (repeat (first | assumption | (with_reducible exact Below.refl _ _) | (with_reducible refine Below.drewN ?_ _) | (with_reducible refine Below.drew ?_) | (with_reducible refine Below.allocS ?_ _) | ((with_reducible refine Below.setCell ?_ ?_ _); rotate_left; focus (first | omega | (simp; done) | (simp; omega))) | (with_reducible refine Below.step ?_ (by assumption))))
  · refine RowAt.below H1.out ?_
    (repeat (first | assumption | (with_reducible exact Below.refl _ _) | (with_reducible refine Below.drewN ?_ _) | (with_reducible refine Below.drew ?_) | (with_reducible refine Below.allocS ?_ _) | ((with_reducible refine Below.setCell ?_ ?_ _); rotate_left; focus (first | omega | (simp; done) | (simp; omega))) | (with_reducible refine Below.step ?_ (by assumption))))
  rintro e ws0 ⟨rfl, hcs0⟩
  have hk := Held.below hcs0 (l := [(⟨w.heap.size, 0, none⟩, v0), (⟨w.heap.size, 1, none⟩, v1)]) (by simp [Held, go_sem, *])
  simp only [Held, and_true] at hk
  have hBs0 : Below w.heap.size w ws0 := by (repeat (first | assumption | (with_reducible exact Below.refl _ _) | (with_reducible refine Below.drewN ?_ _) | (with_reducible refine Below.drew ?_) | (with_reducible refine Below.allocS ?_ _) | ((with_reducible refine Below.setCell ?_ ?_ _); rotate_left; focus (first | omega | (simp; done) | (simp; omega))) | (with_reducible refine Below.step ?_ (by assumption))))
  clear hcs0
  by_cases hs0 : n0 + n1 ≤ 1048576
  case neg =>
    rw [if_neg hs0]
    go_wp2_with fail
    go_ret
    refine ⟨rfl, ?_⟩
    (repeat (first | assumption | (with_reducible exact Below.refl _ _) | (with_reducible refine Below.drewN ?_ _) | (with_reducible refine Below.drew ?_) | (with_reducible refine Below.allocS ?_ _) | ((with_reducible refine Below.setCell ?_ ?_ _); rotate_left; focus (first | omega | (simp; done) | (simp; omega))) | (with_reducible refine Below.step ?_ (by assumption))))
  rw [if_pos hs0]
  go_wp2_with fail
  refine (toClocks_any v0 n0 v1 n1 l0 l1 _ ?_ ?_ (by omega) (by omega)).mono ?_
  · refine RowAt.below H0.out ?_
    (repeat (first | assumption | (with_reducible exact Below.refl _ _) | (with_reducible refine Below.drewN ?_ _) | (with_reducible refine Below.drew ?_) | (with_reducible refine Below.allocS ?_ _) | ((with_reducible refine Below.setCell ?_ ?_ _); rotate_left; focus (first | omega | (simp; done) | (simp; omega))) | (with_reducible refine Below.step ?_ (by assumption))))
  · refine RowAt.below H1.out ?_
    (repeat (first | assumption | (with_reducible exact Below.refl _ _) | (with_reducible refine Below.drewN ?_ _) | (with_reducible refine Below.drew ?_) | (with_reducible refine Below.allocS ?_ _) | ((with_reducible refine Below.setCell ?_ ?_ _); rotate_left; focus (first | omega | (simp; done) | (simp; omega))) | (with_reducible refine Below.step ?_ (by assumption))))
  rintro e w1 ⟨ga0, ga1, rfl, oa0, oa1, oane0, c1⟩
  have hkN := Held.below c1 (l := [(⟨w.heap.size, 0, none⟩, v0), (⟨w.heap.size, 1, none⟩, v1)]) (by simp [Held, go_sem, *])
  (try clear hk)
  have hk := hkN
  clear hkN
  simp only [Held, and_true] at hk
  have hBw1 : Below w.heap.size w w1 := by (repeat (first | assumption | (with_reducible exact Below.refl _ _) | (with_reducible refine Below.drewN ?_ _) | (with_reducible refine Below.drew ?_) | (with_reducible refine Below.allocS ?_ _) | ((with_reducible refine Below.setCell ?_ ?_ _); rotate_left; focus (first | omega | (simp; done) | (simp; omega))) | (with_reducible refine Below.step ?_ (by assumption))))
  have hzw1_0 : w.heap.size < w1.heap.size := by omega
  go_wp2_with fail
  refine (specDropClock_lit HBB.out _ _ _ (ownsRow_rowAt oa0) (ownsRow_rowAt oa1)).mono ?_
  rintro e w2 ⟨u00, u01, rfl, ow_u00, ow_u01, ne_u00_u01, c2⟩
  obtain ⟨a_u00, k_u00, d_u00, rfl⟩ := ownsRow_shape ow_u00
  obtain ⟨a_u01, k_u01, d_u01, rfl⟩ := ownsRow_shape ow_u01
  have hkN := Held.below c2 (l := [(⟨w.heap.size, 0, none⟩, v0), (⟨w.heap.size, 1, none⟩, v1)]) (by simp [Held, go_sem, *])
  (try clear hk)
  have hk := hkN
  clear hkN
  simp only [Held, and_true] at hk
  have hBw2 : Below w.heap.size w w2 := by (repeat (first | assumption | (with_reducible exact Below.refl _ _) | (with_reducible refine Below.drewN ?_ _) | (with_reducible refine Below.drew ?_) | (with_reducible refine Below.allocS ?_ _) | ((with_reducible refine Below.setCell ?_ ?_ _); rotate_left; focus (first | omega | (simp; done) | (simp; omega))) | (with_reducible refine Below.step ?_ (by assumption))))
  have hzw2_0 : w.heap.size < w2.heap.size := by omega
  have Lu00 := Lib.hid (ownsRow_lt ow_u00)
  (try simp only [World.size_alloc, World.size_setCell, World.heap_drewN] at Lu00)
  have Ou00 := Lib.hid ow_u00
  have Ru00 := Lib.hid (ownsRow_rowAt ow_u00)
  clear ow_u00
  have Lu01 := Lib.hid (ownsRow_lt ow_u01)
  (try simp only [World.size_alloc, World.size_setCell, World.heap_drewN] at Lu01)
  have Ou01 := Lib.hid ow_u01
  have Ru01 := Lib.hid (ownsRow_rowAt ow_u01)
  clear ow_u01
  have : ¬ w.heap.size = w2.heap.size := by omega
  clear oa0 oa1
  go_wp2_with fail
  refine (toClocks_any v0 n0 v1 n1 l0 l1 _ ?_ ?_ (by omega) (by omega)).mono ?_
  · refine RowAt.below H0.out ?_
    (repeat (first | assumption | (with_reducible exact Below.refl _ _) | (with_reducible refine Below.drewN ?_ _) | (with_reducible refine Below.drew ?_) | (with_reducible refine Below.allocS ?_ _) | ((with_reducible refine Below.setCell ?_ ?_ _); rotate_left; focus (first | omega | (simp; done) | (simp; omega))) | (with_reducible refine Below.step ?_ (by assumption))))
  · refine RowAt.below H1.out ?_
    (repeat (first | assumption | (with_reducible exact Below.refl _ _) | (with_reducible refine Below.drewN ?_ _) | (with_reducible refine Below.drew ?_) | (with_reducible refine Below.allocS ?_ _) | ((with_reducible refine Below.setCell ?_ ?_ _); rotate_left; focus (first | omega | (simp; done) | (simp; omega))) | (with_reducible refine Below.step ?_ (by assumption))))
  rintro e w3 ⟨g0, g1, rfl, o0, o1, one0, c3⟩
  have hkN := Held.below c3 (l := [(⟨w.heap.size, 0, none⟩, v0), (⟨w.heap.size, 1, none⟩, v1), (⟨w2.heap.size, 0, none⟩, .slice a_u00 k_u00 d_u00), (⟨w2.heap.size, 1, none⟩, .slice a_u01 k_u01 d_u01)]) (by simp [Held, go_sem, *])
  (try clear hk)
  have hk := hkN
  clear hkN
  simp only [Held, and_true] at hk
  have hBw3 : Below w.heap.size w w3 := by (repeat (first | assumption | (with_reducible exact Below.refl _ _) | (with_reducible refine Below.drewN ?_ _) | (with_reducible refine Below.drew ?_) | (with_reducible refine Below.allocS ?_ _) | ((with_reducible refine Below.setCell ?_ ?_ _); rotate_left; focus (first | omega | (simp; done) | (simp; omega))) | (with_reducible refine Below.step ?_ (by assumption))))
  have hzw3_0 : w.heap.size < w3.heap.size := by omega
  have hzw3_1 : w2.heap.size < w3.heap.size := by omega
  have B3 : Below w2.heap.size w2 w3 := by
    refine Below.step ?_ c3
    (repeat (first | (with_reducible exact Below.refl _ _) | (with_reducible refine Below.drewN ?_ _) | (with_reducible refine Below.drew ?_) | (with_reducible refine Below.allocS ?_ _) | ((with_reducible refine Below.setCell ?_ ?_ _); rotate_left; focus (first | omega | (simp; done) | (simp; omega)))))
  replace Ru00 := Lib.hid (Ru00.out.below B3)
  replace Ru01 := Lib.hid (Ru01.out.below B3)
  have : ¬ w.heap.size = w3.heap.size := by omega
  have : ¬ w2.heap.size = w3.heap.size := by omega
  have X0 := ownsRow_lt o0 _ rfl
  have X1 := ownsRow_lt o1 _ rfl
  simp only [World.size_alloc, World.size_setCell] at X0 X1
  have P0 := Lib.hid o0
  have P1 := Lib.hid o1
  go_wp2_with fail
  refine (implDropClock_lit HBB.out _ _ _ ((ownsRow_rowAt o0).below (by (repeat (first | (with_reducible exact Below.refl _ _) | (with_reducible refine Below.drewN ?_ _) | (with_reducible refine Below.drew ?_) | (with_reducible refine Below.allocS ?_ _) | ((with_reducible refine Below.setCell ?_ ?_ _); rotate_left; focus (first | omega | (simp; done) | (simp; omega))))))) ((ownsRow_rowAt o1).below (by (repeat (first | (with_reducible exact Below.refl _ _) | (with_reducible refine Below.drewN ?_ _) | (with_reducible refine Below.drew ?_) | (with_reducible refine Below.allocS ?_ _) | ((with_reducible refine Below.setCell ?_ ?_ _); rotate_left; focus (first | omega | (simp; done) | (simp; omega)))))))).mono ?_
  rintro e w4 ⟨vv00, vv01, rfl, ow_vv00, ow_vv01, ne_vv00_vv01, c4⟩
  obtain ⟨a_vv00, k_vv00, d_vv00, rfl⟩ := ownsRow_shape ow_vv00
  obtain ⟨a_vv01, k_vv01, d_vv01, rfl⟩ := ownsRow_shape ow_vv01
  have hkN := Held.below c4 (l := [(⟨w.heap.size, 0, none⟩, v0), (⟨w.heap.size, 1, none⟩, v1), (⟨w2.heap.size, 0, none⟩, .slice a_u00 k_u00 d_u00), (⟨w2.heap.size, 1, none⟩, .slice a_u01 k_u01 d_u01), (⟨w3.heap.size, 0, none⟩, .slice (some ⟨g0, 0, none⟩) n0 n0), (⟨w3.heap.size, 1, none⟩, .slice (some ⟨g1, 0, none⟩) n1 n1)]) (by simp [Held, go_sem, *])
  (try clear hk)
  have hk := hkN
  clear hkN
  simp only [Held, and_true] at hk
  have hBw4 : Below w.heap.size w w4 := by (repeat (first | assumption | (with_reducible exact Below.refl _ _) | (with_reducible refine Below.drewN ?_ _) | (with_reducible refine Below.drew ?_) | (with_reducible refine Below.allocS ?_ _) | ((with_reducible refine Below.setCell ?_ ?_ _); rotate_left; focus (first | omega | (simp; done) | (simp; omega))) | (with_reducible refine Below.step ?_ (by assumption))))
  have hzw4_0 : w.heap.size < w4.heap.size := by omega
  have hzw4_1 : w2.heap.size < w4.heap.size := by omega
  have hzw4_2 : w3.heap.size < w4.heap.size := by omega
  have Lvv00 := Lib.hid (ownsRow_lt ow_vv00)
  (try simp only [World.size_alloc, World.size_setCell, World.heap_drewN] at Lvv00)
  have Ovv00 := Lib.hid ow_vv00
  have Rvv00 := Lib.hid (ownsRow_rowAt ow_vv00)
  clear ow_vv00
  have Lvv01 := Lib.hid (ownsRow_lt ow_vv01)
  (try simp only [World.size_alloc, World.size_setCell, World.heap_drewN] at Lvv01)
  have Ovv01 := Lib.hid ow_vv01
  have Rvv01 := Lib.hid (ownsRow_rowAt ow_vv01)
  clear ow_vv01
  have : ¬ w.heap.size = w4.heap.size := by omega
  have : ¬ w2.heap.size = w4.heap.size := by omega
  have : ¬ w3.heap.size = w4.heap.size := by omega
  clear o0 o1
  have B4 : Below w3.heap.size w3 w4 := by
    refine Below.step ?_ c4
    (repeat (first | (with_reducible exact Below.refl _ _) | (with_reducible refine Below.drewN ?_ _) | (with_reducible refine Below.drew ?_) | (with_reducible refine Below.allocS ?_ _) | ((with_reducible refine Below.setCell ?_ ?_ _); rotate_left; focus (first | omega | (simp; done) | (simp; omega)))))
  replace Ru00 := Lib.hid (Ru00.out.below B4)
  replace Ru01 := Lib.hid (Ru01.out.below B4)
  replace P0 := Lib.hid (ownsRow_below P0.out B4)
  replace P1 := Lib.hid (ownsRow_below P1.out B4)
  go_wp2_with fail
  refine (eqClocks_any _ _ (cN B ((dropN i2 n0).length)) _ _ (cN B (((dropN i2 n0).length * (dropN i2 n0).length))) (cL B (pickL l0 (dropN i2 n0))) (cL B (pickL l0 (dropN i2 n0))) (cL B (pickK l1 n0 (dropN i2 n0))) (cL B (pickK l1 n0 (dropN i2 n0))) _ ?_ ?_ rfl ?_ ?_ rfl).mono ?_
  · refine RowAt.below Rvv00.out ?_
    (repeat (first | (with_reducible exact Below.refl _ _) | (with_reducible refine Below.drewN ?_ _) | (with_reducible refine Below.drew ?_) | (with_reducible refine Below.allocS ?_ _) | ((with_reducible refine Below.setCell ?_ ?_ _); rotate_left; focus (first | omega | (simp; done) | (simp; omega)))))
  · refine RowAt.below Ru00.out ?_
    (repeat (first | (with_reducible exact Below.refl _ _) | (with_reducible refine Below.drewN ?_ _) | (with_reducible refine Below.drew ?_) | (with_reducible refine Below.allocS ?_ _) | ((with_reducible refine Below.setCell ?_ ?_ _); rotate_left; focus (first | omega | (simp; done) | (simp; omega)))))
  · refine RowAt.below Rvv01.out ?_
    (repeat (first | (with_reducible exact Below.refl _ _) | (with_reducible refine Below.drewN ?_ _) | (with_reducible refine Below.drew ?_) | (with_reducible refine Below.allocS ?_ _) | ((with_reducible refine Below.setCell ?_ ?_ _); rotate_left; focus (first | omega | (simp; done) | (simp; omega)))))
  · refine RowAt.below Ru01.out ?_
    (repeat (first | (with_reducible exact Below.refl _ _) | (with_reducible refine Below.drewN ?_ _) | (with_reducible refine Below.drew ?_) | (with_reducible refine Below.allocS ?_ _) | ((with_reducible refine Below.setCell ?_ ?_ _); rotate_left; focus (first | omega | (simp; done) | (simp; omega)))))
  rintro e w5 ⟨rfl, c5x0⟩
  have hkN := Held.below c5x0 (l := [(⟨w.heap.size, 0, none⟩, v0), (⟨w.heap.size, 1, none⟩, v1), (⟨w2.heap.size, 0, none⟩, .slice a_u00 k_u00 d_u00), (⟨w2.heap.size, 1, none⟩, .slice a_u01 k_u01 d_u01), (⟨w3.heap.size, 0, none⟩, .slice (some ⟨g0, 0, none⟩) n0 n0), (⟨w3.heap.size, 1, none⟩, .slice (some ⟨g1, 0, none⟩) n1 n1), (⟨w4.heap.size, 0, none⟩, .slice a_vv00 k_vv00 d_vv00), (⟨w4.heap.size, 1, none⟩, .slice a_vv01 k_vv01 d_vv01)]) (by simp [Held, go_sem, *])
  (try clear hk)
  have hk := hkN
  clear hkN
  simp only [Held, and_true] at hk
  have hBw5 : Below w.heap.size w w5 := by (repeat (first | assumption | (with_reducible exact Below.refl _ _) | (with_reducible refine Below.drewN ?_ _) | (with_reducible refine Below.drew ?_) | (with_reducible refine Below.allocS ?_ _) | ((with_reducible refine Below.setCell ?_ ?_ _); rotate_left; focus (first | omega | (simp; done) | (simp; omega))) | (with_reducible refine Below.step ?_ (by assumption))))
  have hzw5_0 : w.heap.size < w5.heap.size := by omega
  have hzw5_1 : w2.heap.size < w5.heap.size := by omega
  have hzw5_2 : w3.heap.size < w5.heap.size := by omega
  have hzw5_3 : w4.heap.size < w5.heap.size := by omega
  have B5 : Below w4.heap.size w4 w5 := by
    refine Below.step ?_ c5x0
    (repeat (first | (with_reducible exact Below.refl _ _) | (with_reducible refine Below.drewN ?_ _) | (with_reducible refine Below.drew ?_) | (with_reducible refine Below.allocS ?_ _) | ((with_reducible refine Below.setCell ?_ ?_ _); rotate_left; focus (first | omega | (simp; done) | (simp; omega)))))
  replace Ru00 := Lib.hid (Ru00.out.below B5)
  replace Ru01 := Lib.hid (Ru01.out.below B5)
  replace Rvv00 := Lib.hid (Rvv00.out.below B5)
  replace Rvv01 := Lib.hid (Rvv01.out.below B5)
  replace Ovv00 := Lib.hid (ownsRow_below Ovv00.out B5)
  replace Ovv01 := Lib.hid (ownsRow_below Ovv01.out B5)
  replace P0 := Lib.hid (ownsRow_below P0.out B5)
  replace P1 := Lib.hid (ownsRow_below P1.out B5)
  go_wp2_with fail
  have R0 := Lib.hid (ownsRow_rowAt P0.out)
  have R1 := Lib.hid (ownsRow_rowAt P1.out)
  have hst : stableV [(2, 47, (fun v w => ∃ s0 s1, v = .agg #[s0, s1] ∧ RowAt w s0 2 n0 (fl l0) ∧ RowAt w s1 1 n1 (fl l1)))] := by
    intro q hq
    obtain rfl := List.mem_singleton.1 hq
    intro v w w' hb hh
    obtain ⟨s0, s1, rfl, r0, r1⟩ := hh; exact ⟨s0, s1, rfl, r0.below hb, r1.below hb⟩
  refine region_calmV w5 [(⟨w.heap.size, 0, none⟩, v0), (⟨w.heap.size, 1, none⟩, v1), (⟨w2.heap.size, 0, none⟩, .slice a_u00 k_u00 d_u00), (⟨w2.heap.size, 1, none⟩, .slice a_u01 k_u01 d_u01), (⟨w3.heap.size, 0, none⟩, .slice (some ⟨g0, 0, none⟩) n0 n0), (⟨w3.heap.size, 1, none⟩, .slice (some ⟨g1, 0, none⟩) n1 n1), (⟨w4.heap.size, 0, none⟩, .slice a_vv00 k_vv00 d_vv00), (⟨w4.heap.size, 1, none⟩, .slice a_vv01 k_vv01 d_vv01)] (fun f _ v => (f = 22 ∧ ∃ s0 s1, v = .agg #[s0, s1]) ∨ (f = 17 ∧ v = .bool true)) [(2, 47, (fun v w => ∃ s0 s1, v = .agg #[s0, s1] ∧ RowAt w s0 2 n0 (fl l0) ∧ RowAt w s1 1 n1 (fl l1)))] (by kernel_rfl) (by kernel_rfl) (by kernel_rfl) ⟨by simp [Held, go_sem, *], by (repeat (first | assumption | (with_reducible exact Below.refl _ _) | (with_reducible refine Below.drewN ?_ _) | (with_reducible refine Below.drew ?_) | (with_reducible refine Below.allocS ?_ _) | ((with_reducible refine Below.setCell ?_ ?_ _); rotate_left; focus (first | omega | (simp; done) | (simp; omega))) | (with_reducible refine Below.step ?_ (by assumption))))⟩ ?_
  repeat (first | (first | (refine calmV_plain hst rfl rfl ?_ (fun K hK w1 hC => ?_); (focus (intro _ _; simp [RVF]; done)); have hC' := hC.1; simp only [Held, and_true] at hC'; go_wp2_with (first | (refine wpList_fbin rfl rfl rfl rfl rfl (fun r n hr => ?_)) | (refine wpList_widen rfl rfl Try.underlying44 Try.underlying22 rfl (fun r n hr => ?_))); refine ⟨rfl, (by first | exact Below.refl _ _ | exact below_drewN _), hK _ ?_⟩; clear hC hC' hK K w1) | (refine calmV_check rfl rfl rfl ?_ ?_; (focus (intro _ _; simp [RVF]; done))) | (refine calmV_skip rfl ?_ ?_; (focus (intro _ _; simp [RVF]; done)); simp [Act.put])) | (refine calmV_call (f := 22) (args := _) hst rfl (by (intro w1; simp [execOp, resolve, invoke, go_sem]; with_reducible rfl)) (fun w1 hC hD => ?_) ?_; (focus (refine (toClocks_any v0 n0 v1 n1 l0 l1 _ ?_ ?_ (by omega) (by omega)).mono ?_; (focus (refine RowAt.below H0.out ?_; have hB9 := hC.2; (repeat (first | assumption | (with_reducible exact Below.refl _ _) | (with_reducible refine Below.drewN ?_ _) | (with_reducible refine Below.drew ?_) | (with_reducible refine Below.allocS ?_ _) | ((with_reducible refine Below.setCell ?_ ?_ _); rotate_left; focus (first | omega | (simp; done) | (simp; omega))) | (with_reducible refine Below.step ?_ (by assumption)))); done)); (focus (refine RowAt.below H1.out ?_; have hB9 := hC.2; (repeat (first | assumption | (with_reducible exact Below.refl _ _) | (with_reducible refine Below.drewN ?_ _) | (with_reducible refine Below.drew ?_) | (with_reducible refine Below.allocS ?_ _) | ((with_reducible refine Below.setCell ?_ ?_ _); rotate_left; focus (first | omega | (simp; done) | (simp; omega))) | (with_reducible refine Below.step ?_ (by assumption)))); done)); rintro e w2 ⟨g'0, g'1, rfl, o'0, o'1, o'ne0, hb2⟩; exact ⟨_, rfl, .inl ⟨rfl, _, _, rfl⟩, (by simp [RVF, Act.put, Act.eval]; exact ⟨_, _, ⟨rfl, rfl⟩, ownsRow_rowAt o'0, ownsRow_rowAt o'1⟩), hb2⟩)); (intro v hv; simp at hv; obtain ⟨s0, s1, rfl⟩ := hv)) | (refine calmV_call (f := 17) (args := _) hst rfl (by (intro w1; simp [execOp, resolve, invoke, go_sem]; with_reducible rfl)) (fun w1 hC hD => ?_) ?_; (focus (have hf := RVF_get (depV hD (ia := 2) (by kernel_rfl)) (List.mem_singleton.2 rfl); simp [Act.put, Act.eval] at hf; obtain ⟨t0, t1, ⟨rfl, rfl⟩, hf0, hf1⟩ := hf; refine (eqClocks_any _ _ n0 _ _ n1 l0 l0 l1 l1 _ ?_ ?_ rfl ?_ ?_ rfl).mono ?_; (focus (exact R0.out.below hC.2)); (focus (exact hf0)); (focus (exact R1.out.below hC.2)); (focus (exact hf1)); rintro e w2 ⟨rfl, hb2⟩; exact ⟨_, rfl, .inr ⟨rfl, rfl⟩, (by simp [RVF]), hb2⟩)); (intro v hv; simp at hv; subst hv)))
  refine calmV_nil ?_
  intro w6 hC hF
  have c6 := hC.2
  (try clear hk)
  have hk := hC.1
  simp only [Held, and_true] at hk
  have hBw6 : Below w.heap.size w w6 := by (repeat (first | assumption | (with_reducible exact Below.refl _ _) | (with_reducible refine Below.drewN ?_ _) | (with_reducible refine Below.drew ?_) | (with_reducible refine Below.allocS ?_ _) | ((with_reducible refine Below.setCell ?_ ?_ _); rotate_left; focus (first | omega | (simp; done) | (simp; omega))) | (with_reducible refine Below.step ?_ (by assumption))))
  clear hC hF hst R0 R1
  replace Ru00 := Lib.hid (Ru00.out.below c6)
  replace Ru01 := Lib.hid (Ru01.out.below c6)
  replace Rvv00 := Lib.hid (Rvv00.out.below c6)
  replace Rvv01 := Lib.hid (Rvv01.out.below c6)
  replace Ovv00 := Lib.hid (ownsRow_below Ovv00.out c6)
  replace Ovv01 := Lib.hid (ownsRow_below Ovv01.out c6)
  replace P0 := Lib.hid (ownsRow_below P0.out c6)
  replace P1 := Lib.hid (ownsRow_below P1.out c6)
  go_wp2_with fail
  refine (markClocks_any _ n0 _ _ _ n1 _ _ 1 _ P0.out (by omega) P1.out (by omega) ?_ (by omega)).mono ?_
  · intro i hi hj
    have e1 := own_some hi
    have e2 := own_some hj
    omega
  rintro e w7 ⟨rfl, _, _, K7⟩
  have r7 : ∀ i, some i ∈ [(Value.slice (some ⟨g0, 0, none⟩) n0 n0).ownBlock, (Value.slice (some ⟨g1, 0, none⟩) n1 n1).ownBlock] → w2.heap.size + 1 ≤ i ∧ i < w3.heap.size := range_two (fun i hi => by have e1 := own_some hi; omega) (fun i hi => by have e1 := own_some hi; omega)
  have hkN := Held_range K7 r7 (l := [(⟨w.heap.size, 0, none⟩, v0), (⟨w.heap.size, 1, none⟩, v1), (⟨w2.heap.size, 0, none⟩, .slice a_u00 k_u00 d_u00), (⟨w2.heap.size, 1, none⟩, .slice a_u01 k_u01 d_u01), (⟨w3.heap.size, 0, none⟩, .slice (some ⟨g0, 0, none⟩) n0 n0), (⟨w3.heap.size, 1, none⟩, .slice (some ⟨g1, 0, none⟩) n1 n1), (⟨w4.heap.size, 0, none⟩, .slice a_vv00 k_vv00 d_vv00), (⟨w4.heap.size, 1, none⟩, .slice a_vv01 k_vv01 d_vv01)]) (by simp only [List.mem_cons, List.not_mem_nil, or_false, forall_eq_or_imp, forall_eq]; omega) (by simp [Held, go_sem, *])
  (try clear hk)
  have hk := hkN
  clear hkN
  simp only [Held, and_true] at hk
  have C7 : Below w.heap.size w6 w7 := Below_range K7 r7 (by omega) hBw6.size
  have hBw7 : Below w.heap.size w w7 := hBw6.trans C7
  replace Ru00 := Lib.hid (RowAt_range K7 r7 (fun i hi => by have := Lu00.out i hi; omega) Ru00.out)
  replace Ru01 := Lib.hid (RowAt_range K7 r7 (fun i hi => by have := Lu01.out i hi; omega) Ru01.out)
  replace Rvv00 := Lib.hid (RowAt_range K7 r7 (fun i hi => by have := Lvv00.out i hi; omega) Rvv00.out)
  replace Ovv00 := Lib.hid (ownsRow_range K7 r7 (fun i hi => by have := Lvv00.out i hi; omega) Ovv00.out)
  replace Rvv01 := Lib.hid (RowAt_range K7 r7 (fun i hi => by have := Lvv01.out i hi; omega) Rvv01.out)
  replace Ovv01 := Lib.hid (ownsRow_range K7 r7 (fun i hi => by have := Lvv01.out i hi; omega) Ovv01.out)
  go_wp2_with fail
  refine (eqClocks_any _ _ (cN B ((dropN i2 n0).length)) _ _ (cN B (((dropN i2 n0).length * (dropN i2 n0).length))) (cL B (pickL l0 (dropN i2 n0))) (cL B (pickL l0 (dropN i2 n0))) (cL B (pickK l1 n0 (dropN i2 n0))) (cL B (pickK l1 n0 (dropN i2 n0))) _ ?_ ?_ rfl ?_ ?_ rfl).mono ?_
  · refine RowAt.below Rvv00.out ?_
    (repeat (first | (with_reducible exact Below.refl _ _) | (with_reducible refine Below.drewN ?_ _) | (with_reducible refine Below.drew ?_) | (with_reducible refine Below.allocS ?_ _) | ((with_reducible refine Below.setCell ?_ ?_ _); rotate_left; focus (first | omega | (simp; done) | (simp; omega)))))
  · refine RowAt.below Ru00.out ?_
    (repeat (first | (with_reducible exact Below.refl _ _) | (with_reducible refine Below.drewN ?_ _) | (with_reducible refine Below.drew ?_) | (with_reducible refine Below.allocS ?_ _) | ((with_reducible refine Below.setCell ?_ ?_ _); rotate_left; focus (first | omega | (simp; done) | (simp; omega)))))
  · refine RowAt.below Rvv01.out ?_
    (repeat (first | (with_reducible exact Below.refl _ _) | (with_reducible refine Below.drewN ?_ _) | (with_reducible refine Below.drew ?_) | (with_reducible refine Below.allocS ?_ _) | ((with_reducible refine Below.setCell ?_ ?_ _); rotate_left; focus (first | omega | (simp; done) | (simp; omega)))))
  · refine RowAt.below Ru01.out ?_
    (repeat (first | (with_reducible exact Below.refl _ _) | (with_reducible refine Below.drewN ?_ _) | (with_reducible refine Below.drew ?_) | (with_reducible refine Below.allocS ?_ _) | ((with_reducible refine Below.setCell ?_ ?_ _); rotate_left; focus (first | omega | (simp; done) | (simp; omega)))))
  rintro e w8 ⟨rfl, c8x0⟩
  have hkN := Held.below c8x0 (l := [(⟨w.heap.size, 0, none⟩, v0), (⟨w.heap.size, 1, none⟩, v1), (⟨w2.heap.size, 0, none⟩, .slice a_u00 k_u00 d_u00), (⟨w2.heap.size, 1, none⟩, .slice a_u01 k_u01 d_u01), (⟨w3.heap.size, 0, none⟩, .slice (some ⟨g0, 0, none⟩) n0 n0), (⟨w3.heap.size, 1, none⟩, .slice (some ⟨g1, 0, none⟩) n1 n1), (⟨w4.heap.size, 0, none⟩, .slice a_vv00 k_vv00 d_vv00), (⟨w4.heap.size, 1, none⟩, .slice a_vv01 k_vv01 d_vv01)]) (by simp [Held, go_sem, *])
  (try clear hk)
  have hk := hkN
  clear hkN
  simp only [Held, and_true] at hk
  have hBw8 : Below w.heap.size w w8 := by (repeat (first | assumption | (with_reducible exact Below.refl _ _) | (with_reducible refine Below.drewN ?_ _) | (with_reducible refine Below.drew ?_) | (with_reducible refine Below.allocS ?_ _) | ((with_reducible refine Below.setCell ?_ ?_ _); rotate_left; focus (first | omega | (simp; done) | (simp; omega))) | (with_reducible refine Below.step ?_ (by assumption))))
  have hzw8_0 : w.heap.size < w8.heap.size := by omega
  have hzw8_1 : w2.heap.size < w8.heap.size := by omega
  have hzw8_2 : w3.heap.size < w8.heap.size := by omega
  have hzw8_3 : w4.heap.size < w8.heap.size := by omega
  have B8 : Below w7.heap.size w7 w8 := by
    refine Below.step ?_ c8x0
    (repeat (first | (with_reducible exact Below.refl _ _) | (with_reducible refine Below.drewN ?_ _) | (with_reducible refine Below.drew ?_) | (with_reducible refine Below.allocS ?_ _) | ((with_reducible refine Below.setCell ?_ ?_ _); rotate_left; focus (first | omega | (simp; done) | (simp; omega)))))
  replace Ru00 := Lib.hid (Ru00.out.below B8)
  replace Ru01 := Lib.hid (Ru01.out.below B8)
  replace Rvv00 := Lib.hid (Rvv00.out.below B8)
  replace Rvv01 := Lib.hid (Rvv01.out.below B8)
  replace Ovv00 := Lib.hid (ownsRow_below Ovv00.out B8)
  replace Ovv01 := Lib.hid (ownsRow_below Ovv01.out B8)
  go_wp2_with fail
  go_wp2_with fail
  refine (markClocks_any _ _ _ _ _ _ _ _ (1) _ Ovv00.out (by omega) Ovv01.out (by omega) ne_vv00_vv01 (by omega)).mono ?_
  rintro e w9x0 ⟨rfl, ow0, ow1, K9⟩
  have r9 := range_two Lvv00.out Lvv01.out
  have hkN := Held_range K9 r9 (l := [(⟨w.heap.size, 0, none⟩, v0), (⟨w.heap.size, 1, none⟩, v1), (⟨w2.heap.size, 0, none⟩, .slice a_u00 k_u00 d_u00), (⟨w2.heap.size, 1, none⟩, .slice a_u01 k_u01 d_u01), (⟨w3.heap.size, 0, none⟩, .slice (some ⟨g0, 0, none⟩) n0 n0), (⟨w3.heap.size, 1, none⟩, .slice (some ⟨g1, 0, none⟩) n1 n1), (⟨w4.heap.size, 0, none⟩, .slice a_vv00 k_vv00 d_vv00), (⟨w4.heap.size, 1, none⟩, .slice a_vv01 k_vv01 d_vv01)]) (by simp only [List.mem_cons, List.not_mem_nil, or_false, forall_eq_or_imp, forall_eq]; omega) (by simp [Held, go_sem, *])
  (try clear hk)
  have hk := hkN
  clear hkN
  simp only [Held, and_true] at hk
  have C9 : Below w.heap.size w8 w9x0 := Below_range K9 r9 (by omega) (by have := hBw8.size; omega)
  have hBw9x0 : Below w.heap.size w w9x0 := hBw8.trans C9
  replace Ru00 := Lib.hid (RowAt_range K9 r9 (fun i hi => by have := Lu00.out i hi; omega) Ru00.out)
  replace Ru01 := Lib.hid (RowAt_range K9 r9 (fun i hi => by have := Lu01.out i hi; omega) Ru01.out)
  have Mvv00 := Lib.hid (ownsRow_rowAt ow0)
  clear Rvv00 ow0
  have Mvv01 := Lib.hid (ownsRow_rowAt ow1)
  clear Rvv01 ow1
  clear K9 r9 C9
  go_wp2_with fail
  refine (heldClocks_any _ _ (cN B ((dropN i2 n0).length)) (cN B (((dropN i2 n0).length * (dropN i2 n0).length))) (1) _ ?_ ?_ (by omega) (by omega) (by omega)).mono ?_
  · refine RowAt.below Mvv00.out ?_
    (repeat (first | assumption | (with_reducible exact Below.refl _ _) | (with_reducible refine Below.drewN ?_ _) | (with_reducible refine Below.drew ?_) | (with_reducible refine Below.allocS ?_ _) | ((with_reducible refine Below.setCell ?_ ?_ _); rotate_left; focus (first | omega | (simp; done) | (simp; omega))) | (with_reducible refine Below.step ?_ (by assumption))))
  · refine RowAt.below Mvv01.out ?_
    (repeat (first | assumption | (with_reducible exact Below.refl _ _) | (with_reducible refine Below.drewN ?_ _) | (with_reducible refine Below.drew ?_) | (with_reducible refine Below.allocS ?_ _) | ((with_reducible refine Below.setCell ?_ ?_ _); rotate_left; focus (first | omega | (simp; done) | (simp; omega))) | (with_reducible refine Below.step ?_ (by assumption))))
  rintro e w10x0 ⟨rfl, cw10x0⟩
  have hkN := Held.below cw10x0 (l := [(⟨w.heap.size, 0, none⟩, v0), (⟨w.heap.size, 1, none⟩, v1), (⟨w2.heap.size, 0, none⟩, .slice a_u00 k_u00 d_u00), (⟨w2.heap.size, 1, none⟩, .slice a_u01 k_u01 d_u01), (⟨w3.heap.size, 0, none⟩, .slice (some ⟨g0, 0, none⟩) n0 n0), (⟨w3.heap.size, 1, none⟩, .slice (some ⟨g1, 0, none⟩) n1 n1), (⟨w4.heap.size, 0, none⟩, .slice a_vv00 k_vv00 d_vv00), (⟨w4.heap.size, 1, none⟩, .slice a_vv01 k_vv01 d_vv01)]) (by simp [Held, go_sem, *])
  (try clear hk)
  have hk := hkN
  clear hkN
  simp only [Held, and_true] at hk
  have hBw10x0 : Below w.heap.size w w10x0 := by (repeat (first | assumption | (with_reducible exact Below.refl _ _) | (with_reducible refine Below.drewN ?_ _) | (with_reducible refine Below.drew ?_) | (with_reducible refine Below.allocS ?_ _) | ((with_reducible refine Below.setCell ?_ ?_ _); rotate_left; focus (first | omega | (simp; done) | (simp; omega))) | (with_reducible refine Below.step ?_ (by assumption))))
  have hzw10x0_0 : w.heap.size < w10x0.heap.size := by omega
  have hzw10x0_1 : w2.heap.size < w10x0.heap.size := by omega
  have hzw10x0_2 : w3.heap.size < w10x0.heap.size := by omega
  have hzw10x0_3 : w4.heap.size < w10x0.heap.size := by omega
  have B9 : Below w9x0.heap.size w9x0 w10x0 := by
    refine Below.step ?_ cw10x0
    (repeat (first | (with_reducible exact Below.refl _ _) | (with_reducible refine Below.drewN ?_ _) | (with_reducible refine Below.drew ?_) | (with_reducible refine Below.allocS ?_ _) | ((with_reducible refine Below.setCell ?_ ?_ _); rotate_left; focus (first | omega | (simp; done) | (simp; omega)))))
  replace Ru00 := Lib.hid (Ru00.out.below B9)
  replace Ru01 := Lib.hid (Ru01.out.below B9)
  replace Mvv00 := Lib.hid (Mvv00.out.below B9)
  replace Mvv01 := Lib.hid (Mvv01.out.below B9)
  clear B9
  go_wp2_with fail
  refine (toClocks_any v0 n0 v1 n1 l0 l1 _ ?_ ?_ (by omega) (by omega)).mono ?_
  · refine RowAt.below H0.out ?_
    (repeat (first | assumption | (with_reducible exact Below.refl _ _) | (with_reducible refine Below.drewN ?_ _) | (with_reducible refine Below.drew ?_) | (with_reducible refine Below.allocS ?_ _) | ((with_reducible refine Below.setCell ?_ ?_ _); rotate_left; focus (first | omega | (simp; done) | (simp; omega))) | (with_reducible refine Below.step ?_ (by assumption))))
  · refine RowAt.below H1.out ?_
    (repeat (first | assumption | (with_reducible exact Below.refl _ _) | (with_reducible refine Below.drewN ?_ _) | (with_reducible refine Below.drew ?_) | (with_reducible refine Below.allocS ?_ _) | ((with_reducible refine Below.setCell ?_ ?_ _); rotate_left; focus (first | omega | (simp; done) | (simp; omega))) | (with_reducible refine Below.step ?_ (by assumption))))
  rintro e w11 ⟨gz0, gz1, rfl, oz0, oz1, ozne0, c11⟩
  have hkN := Held.below c11 (l := [(⟨w.heap.size, 0, none⟩, v0), (⟨w.heap.size, 1, none⟩, v1), (⟨w2.heap.size, 0, none⟩, .slice a_u00 k_u00 d_u00), (⟨w2.heap.size, 1, none⟩, .slice a_u01 k_u01 d_u01), (⟨w3.heap.size, 0, none⟩, .slice (some ⟨g0, 0, none⟩) n0 n0), (⟨w3.heap.size, 1, none⟩, .slice (some ⟨g1, 0, none⟩) n1 n1), (⟨w4.heap.size, 0, none⟩, .slice a_vv00 k_vv00 d_vv00), (⟨w4.heap.size, 1, none⟩, .slice a_vv01 k_vv01 d_vv01)]) (by simp [Held, go_sem, *])
  (try clear hk)
  have hk := hkN
  clear hkN
  simp only [Held, and_true] at hk
  have hBw11 : Below w.heap.size w w11 := by (repeat (first | assumption | (with_reducible exact Below.refl _ _) | (with_reducible refine Below.drewN ?_ _) | (with_reducible refine Below.drew ?_) | (with_reducible refine Below.allocS ?_ _) | ((with_reducible refine Below.setCell ?_ ?_ _); rotate_left; focus (first | omega | (simp; done) | (simp; omega))) | (with_reducible refine Below.step ?_ (by assumption))))
  have hzw11_0 : w.heap.size < w11.heap.size := by omega
  have hzw11_1 : w2.heap.size < w11.heap.size := by omega
  have hzw11_2 : w3.heap.size < w11.heap.size := by omega
  have hzw11_3 : w4.heap.size < w11.heap.size := by omega
  have B11 : Below w10x0.heap.size w10x0 w11 := by
    refine Below.step ?_ c11
    (repeat (first | (with_reducible exact Below.refl _ _) | (with_reducible refine Below.drewN ?_ _) | (with_reducible refine Below.drew ?_) | (with_reducible refine Below.allocS ?_ _) | ((with_reducible refine Below.setCell ?_ ?_ _); rotate_left; focus (first | omega | (simp; done) | (simp; omega)))))
  replace Ru00 := Lib.hid (Ru00.out.below B11)
  replace Ru01 := Lib.hid (Ru01.out.below B11)
  replace Mvv00 := Lib.hid (Mvv00.out.below B11)
  replace Mvv01 := Lib.hid (Mvv01.out.below B11)
  go_wp2_with fail
  refine (implDropClock_lit HBB.out _ _ _ (ownsRow_rowAt oz0) (ownsRow_rowAt oz1)).mono ?_
  rintro e w12 ⟨h00, h01, rfl, ow_h00, ow_h01, ne_h00_h01, c12⟩
  obtain ⟨a_h00, k_h00, d_h00, rfl⟩ := ownsRow_shape ow_h00
  obtain ⟨a_h01, k_h01, d_h01, rfl⟩ := ownsRow_shape ow_h01
  have hkN := Held.below c12 (l := [(⟨w.heap.size, 0, none⟩, v0), (⟨w.heap.size, 1, none⟩, v1), (⟨w2.heap.size, 0, none⟩, .slice a_u00 k_u00 d_u00), (⟨w2.heap.size, 1, none⟩, .slice a_u01 k_u01 d_u01), (⟨w3.heap.size, 0, none⟩, .slice (some ⟨g0, 0, none⟩) n0 n0), (⟨w3.heap.size, 1, none⟩, .slice (some ⟨g1, 0, none⟩) n1 n1), (⟨w4.heap.size, 0, none⟩, .slice a_vv00 k_vv00 d_vv00), (⟨w4.heap.size, 1, none⟩, .slice a_vv01 k_vv01 d_vv01)]) (by simp [Held, go_sem, *])
  (try clear hk)
  have hk := hkN
  clear hkN
  simp only [Held, and_true] at hk
  have hBw12 : Below w.heap.size w w12 := by (repeat (first | assumption | (with_reducible exact Below.refl _ _) | (with_reducible refine Below.drewN ?_ _) | (with_reducible refine Below.drew ?_) | (with_reducible refine Below.allocS ?_ _) | ((with_reducible refine Below.setCell ?_ ?_ _); rotate_left; focus (first | omega | (simp; done) | (simp; omega))) | (with_reducible refine Below.step ?_ (by assumption))))
  have hzw12_0 : w.heap.size < w12.heap.size := by omega
  have hzw12_1 : w2.heap.size < w12.heap.size := by omega
  have hzw12_2 : w3.heap.size < w12.heap.size := by omega
  have hzw12_3 : w4.heap.size < w12.heap.size := by omega
  have Lh00 := Lib.hid (ownsRow_lt ow_h00)
  (try simp only [World.size_alloc, World.size_setCell, World.heap_drewN] at Lh00)
  have Oh00 := Lib.hid ow_h00
  have Rh00 := Lib.hid (ownsRow_rowAt ow_h00)
  clear ow_h00
  have Lh01 := Lib.hid (ownsRow_lt ow_h01)
  (try simp only [World.size_alloc, World.size_setCell, World.heap_drewN] at Lh01)
  have Oh01 := Lib.hid ow_h01
  have Rh01 := Lib.hid (ownsRow_rowAt ow_h01)
  clear ow_h01
  have : ¬ w.heap.size = w12.heap.size := by omega
  have : ¬ w2.heap.size = w12.heap.size := by omega
  have : ¬ w3.heap.size = w12.heap.size := by omega
  have : ¬ w4.heap.size = w12.heap.size := by omega
  have B12 : Below w11.heap.size w11 w12 := by
    refine Below.step ?_ c12
    (repeat (first | (with_reducible exact Below.refl _ _) | (with_reducible refine Below.drewN ?_ _) | (with_reducible refine Below.drew ?_) | (with_reducible refine Below.allocS ?_ _) | ((with_reducible refine Below.setCell ?_ ?_ _); rotate_left; focus (first | omega | (simp; done) | (simp; omega)))))
  replace Ru00 := Lib.hid (Ru00.out.below B12)
  replace Ru01 := Lib.hid (Ru01.out.below B12)
  replace Mvv00 := Lib.hid (Mvv00.out.below B12)
  replace Mvv01 := Lib.hid (Mvv01.out.below B12)
  go_wp2_with fail
  refine (eqClocks_any _ _ (cN B ((dropN i2 n0).length)) _ _ (cN B (((dropN i2 n0).length * (dropN i2 n0).length))) (cL B (pickL l0 (dropN i2 n0))) (cL B (pickL l0 (dropN i2 n0))) (cL B (pickK l1 n0 (dropN i2 n0))) (cL B (pickK l1 n0 (dropN i2 n0))) _ ?_ ?_ rfl ?_ ?_ rfl).mono ?_
  · refine RowAt.below Rh00.out ?_
    (repeat (first | (with_reducible exact Below.refl _ _) | (with_reducible refine Below.drewN ?_ _) | (with_reducible refine Below.drew ?_) | (with_reducible refine Below.allocS ?_ _) | ((with_reducible refine Below.setCell ?_ ?_ _); rotate_left; focus (first | omega | (simp; done) | (simp; omega)))))
  · refine RowAt.below Ru00.out ?_
    (repeat (first | (with_reducible exact Below.refl _ _) | (with_reducible refine Below.drewN ?_ _) | (with_reducible refine Below.drew ?_) | (with_reducible refine Below.allocS ?_ _) | ((with_reducible refine Below.setCell ?_ ?_ _); rotate_left; focus (first | omega | (simp; done) | (simp; omega)))))
  · refine RowAt.below Rh01.out ?_
    (repeat (first | (with_reducible exact Below.refl _ _) | (with_reducible refine Below.drewN ?_ _) | (with_reducible refine Below.drew ?_) | (with_reducible refine Below.allocS ?_ _) | ((with_reducible refine Below.setCell ?_ ?_ _); rotate_left; focus (first | omega | (simp; done) | (simp; omega)))))
  · refine RowAt.below Ru01.out ?_
    (repeat (first | (with_reducible exact Below.refl _ _) | (with_reducible refine Below.drewN ?_ _) | (with_reducible refine Below.drew ?_) | (with_reducible refine Below.allocS ?_ _) | ((with_reducible refine Below.setCell ?_ ?_ _); rotate_left; focus (first | omega | (simp; done) | (simp; omega)))))
  rintro e w13 ⟨rfl, c13x0⟩
  have hkN := Held.below c13x0 (l := [(⟨w.heap.size, 0, none⟩, v0), (⟨w.heap.size, 1, none⟩, v1), (⟨w2.heap.size, 0, none⟩, .slice a_u00 k_u00 d_u00), (⟨w2.heap.size, 1, none⟩, .slice a_u01 k_u01 d_u01), (⟨w3.heap.size, 0, none⟩, .slice (some ⟨g0, 0, none⟩) n0 n0), (⟨w3.heap.size, 1, none⟩, .slice (some ⟨g1, 0, none⟩) n1 n1), (⟨w4.heap.size, 0, none⟩, .slice a_vv00 k_vv00 d_vv00), (⟨w4.heap.size, 1, none⟩, .slice a_vv01 k_vv01 d_vv01), (⟨w12.heap.size, 0, none⟩, .slice a_h00 k_h00 d_h00), (⟨w12.heap.size, 1, none⟩, .slice a_h01 k_h01 d_h01)]) (by simp [Held, go_sem, *])
  (try clear hk)
  have hk := hkN
  clear hkN
  simp only [Held, and_true] at hk
  have hBw13 : Below w.heap.size w w13 := by (repeat (first | assumption | (with_reducible exact Below.refl _ _) | (with_reducible refine Below.drewN ?_ _) | (with_reducible refine Below.drew ?_) | (with_reducible refine Below.allocS ?_ _) | ((with_reducible refine Below.setCell ?_ ?_ _); rotate_left; focus (first | omega | (simp; done) | (simp; omega))) | (with_reducible refine Below.step ?_ (by assumption))))
  have hzw13_0 : w.heap.size < w13.heap.size := by omega
  have hzw13_1 : w2.heap.size < w13.heap.size := by omega
  have hzw13_2 : w3.heap.size < w13.heap.size := by omega
  have hzw13_3 : w4.heap.size < w13.heap.size := by omega
  have hzw13_4 : w12.heap.size < w13.heap.size := by omega
  have B13 : Below w12.heap.size w12 w13 := by
    refine Below.step ?_ c13x0
    (repeat (first | (with_reducible exact Below.refl _ _) | (with_reducible refine Below.drewN ?_ _) | (with_reducible refine Below.drew ?_) | (with_reducible refine Below.allocS ?_ _) | ((with_reducible refine Below.setCell ?_ ?_ _); rotate_left; focus (first | omega | (simp; done) | (simp; omega)))))
  replace Ru00 := Lib.hid (Ru00.out.below B13)
  replace Ru01 := Lib.hid (Ru01.out.below B13)
  replace Mvv00 := Lib.hid (Mvv00.out.below B13)
  replace Mvv01 := Lib.hid (Mvv01.out.below B13)
  go_wp2_with fail
  go_wp2_with fail
  refine (heldClocks_any _ _ (cN B ((dropN i2 n0).length)) (cN B (((dropN i2 n0).length * (dropN i2 n0).length))) (1) _ ?_ ?_ (by omega) (by omega) (by omega)).mono ?_
  · refine RowAt.below Mvv00.out ?_
    (repeat (first | assumption | (with_reducible exact Below.refl _ _) | (with_reducible refine Below.drewN ?_ _) | (with_reducible refine Below.drew ?_) | (with_reducible refine Below.allocS ?_ _) | ((with_reducible refine Below.setCell ?_ ?_ _); rotate_left; focus (first | omega | (simp; done) | (simp; omega))) | (with_reducible refine Below.step ?_ (by assumption))))
  · refine RowAt.below Mvv01.out ?_
    (repeat (first | assumption | (with_reducible exact Below.refl _ _) | (with_reducible refine Below.drewN ?_ _) | (with_reducible refine Below.drew ?_) | (with_reducible refine Below.allocS ?_ _) | ((with_reducible refine Below.setCell ?_ ?_ _); rotate_left; focus (first | omega | (simp; done) | (simp; omega))) | (with_reducible refine Below.step ?_ (by assumption))))
  rintro e w14x0 ⟨rfl, cw14x0⟩
  have hkN := Held.below cw14x0 (l := [(⟨w.heap.size, 0, none⟩, v0), (⟨w.heap.size, 1, none⟩, v1), (⟨w2.heap.size, 0, none⟩, .slice a_u00 k_u00 d_u00), (⟨w2.heap.size, 1, none⟩, .slice a_u01 k_u01 d_u01), (⟨w3.heap.size, 0, none⟩, .slice (some ⟨g0, 0, none⟩) n0 n0), (⟨w3.heap.size, 1, none⟩, .slice (some ⟨g1, 0, none⟩) n1 n1), (⟨w4.heap.size, 0, none⟩, .slice a_vv00 k_vv00 d_vv00), (⟨w4.heap.size, 1, none⟩, .slice a_vv01 k_vv01 d_vv01), (⟨w12.heap.size, 0, none⟩, .slice a_h00 k_h00 d_h00), (⟨w12.heap.size, 1, none⟩, .slice a_h01 k_h01 d_h01)]) (by simp [Held, go_sem, *])
  (try clear hk)
  have hk := hkN
  clear hkN
  simp only [Held, and_true] at hk
  have hBw14x0 : Below w.heap.size w w14x0 := by (repeat (first | assumption | (with_reducible exact Below.refl _ _) | (with_reducible refine Below.drewN ?_ _) | (with_reducible refine Below.drew ?_) | (with_reducible refine Below.allocS ?_ _) | ((with_reducible refine Below.setCell ?_ ?_ _); rotate_left; focus (first | omega | (simp; done) | (simp; omega))) | (with_reducible refine Below.step ?_ (by assumption))))
  have hzw14x0_0 : w.heap.size < w14x0.heap.size := by omega
  have hzw14x0_1 : w2.heap.size < w14x0.heap.size := by omega
  have hzw14x0_2 : w3.heap.size < w14x0.heap.size := by omega
  have hzw14x0_3 : w4.heap.size < w14x0.heap.size := by omega
  have hzw14x0_4 : w12.heap.size < w14x0.heap.size := by omega
  have B9 : Below w13.heap.size w13 w14x0 := by
    refine Below.step ?_ cw14x0
    (repeat (first | (with_reducible exact Below.refl _ _) | (with_reducible refine Below.drewN ?_ _) | (with_reducible refine Below.drew ?_) | (with_reducible refine Below.allocS ?_ _) | ((with_reducible refine Below.setCell ?_ ?_ _); rotate_left; focus (first | omega | (simp; done) | (simp; omega)))))
  replace Ru00 := Lib.hid (Ru00.out.below B9)
  replace Ru01 := Lib.hid (Ru01.out.below B9)
  replace Mvv00 := Lib.hid (Mvv00.out.below B9)
  replace Mvv01 := Lib.hid (Mvv01.out.below B9)
  clear B9
  go_wp2_with fail
  go_ret
  refine ⟨rfl, ?_⟩
  (repeat (first | assumption | (with_reducible exact Below.refl _ _) | (with_reducible refine Below.drewN ?_ _) | (with_reducible refine Below.drew ?_) | (with_reducible refine Below.allocS ?_ _) | ((with_reducible refine Below.setCell ?_ ?_ _); rotate_left; focus (first | omega | (simp; done) | (simp; omega))) | (with_reducible refine Below.step ?_ (by assumption))))

end Go.Proofs.Ytifdcoambehekaa
