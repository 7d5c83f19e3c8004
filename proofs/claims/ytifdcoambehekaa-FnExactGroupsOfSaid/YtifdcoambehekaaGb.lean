/-
  The walk of the reference's GroupsOf.
-/
import Derived.Test.YtifdcoambehekaaGa
set_option linter.unusedVariables false
set_option linter.unusedSimpArgs false
namespace Go.Proofs.Ytifdcoambehekaa
open Go.RowKit

set_option maxRecDepth 100000 in
set_option maxHeartbeats 8000000 in
theorem specGroups_any (v v' : Value) (n m : Nat) (l lk : List Nat) (y : Nat) (w : World) (h : RowAt w v 2 n (fl l)) (h' : RowAt w v' 1 m (fl lk)) : Calls Try.prog 43 #[.agg #[v, v'], .float .f32 y] w (GiveI (cN (clocksB n l m lk) n) (cZ (clocksB n l m lk) (groupsOf l y n).1) (if clocksB n l m lk then ((groupsOf l y n).2 : Int) else 0) (clocksB n l m lk) w) := by
  have H := Lib.hid h
  have H' := Lib.hid h'
  clear h h'
  cases hc : clocksB n l m lk
  · go_enter Try.func43, Try.ntmps43
    go_wp2_with (first | (go_at_call 77; refine (l05Is_any v v' n m l lk _ _ ?_ ?_ ?_).mono ?_; (focus (refine RowAt.below H.out ?_; (repeat (first | assumption | (with_reducible exact Below.refl _ _) | (with_reducible refine Below.drewN ?_ _) | (with_reducible refine Below.drew ?_) | (with_reducible refine Below.allocS ?_ _) | ((with_reducible refine Below.setCell ?_ ?_ _); rotate_left; focus (first | omega | (simp; done) | (simp; omega))) | (with_reducible refine Below.step ?_ (by assumption)))); done)); (focus (refine RowAt.below H'.out ?_; (repeat (first | assumption | (with_reducible exact Below.refl _ _) | (with_reducible refine Below.drewN ?_ _) | (with_reducible refine Below.drew ?_) | (with_reducible refine Below.allocS ?_ _) | ((with_reducible refine Below.setCell ?_ ?_ _); rotate_left; focus (first | omega | (simp; done) | (simp; omega))) | (with_reducible refine Below.step ?_ (by assumption)))); done)); (focus (simp [Held, go_sem]; done)); rintro e w' ⟨c9, rfl, rfl⟩; rw [hc]))
    refine bodyPost_ret (v := ?_) (by first | (simp [results, Try.results43, go_sem, *]; rfl) | (simp [results, Try.results43, go_sem, *]; done)) rfl ?_
    exact ⟨_, rfl, ownsRow_nil', by (repeat (first | assumption | (with_reducible exact Below.refl _ _) | (with_reducible refine Below.drewN ?_ _) | (with_reducible refine Below.drew ?_) | (with_reducible refine Below.allocS ?_ _) | ((with_reducible refine Below.setCell ?_ ?_ _); rotate_left; focus (first | omega | (simp; done) | (simp; omega))) | (with_reducible refine Below.step ?_ (by assumption))))⟩
  obtain ⟨c1, c2, c3, c4, c5⟩ := clocks_parts hc
  have HF : Hid (∀ k, k < n → finB .f32 (l.getD (k * 2) 0) = true) := fun k hk => okClock_fin hc hk
  clear c3 c4 c5
  obtain ⟨h1, h2, ao, cap, rfl, h3⟩ := H.out
  obtain ⟨b, o, rfl, hbl, hcell⟩ := h3.resolve_left (by omega)
  rw [fl_length] at h1
  have HL : Hid (l.length = n * 2) := h1
  have HC := Lib.hid hcell
  clear h3 h1 hcell
  obtain ⟨i0, hi0, hz0, hz1, hz2⟩ := info_parts info_Int64
  have h63 : n ≤ 9223372036854775807 := by omega
  go_enter Try.func43, Try.ntmps43
  go_wp2_with (first | (go_at_call 77; refine (l05Is_any (.slice (some ⟨b, o, none⟩) n cap) v' n m l lk _ _ ?_ ?_ ?_).mono ?_; (focus (refine RowAt.below H.out ?_; (repeat (first | assumption | (with_reducible exact Below.refl _ _) | (with_reducible refine Below.drewN ?_ _) | (with_reducible refine Below.drew ?_) | (with_reducible refine Below.allocS ?_ _) | ((with_reducible refine Below.setCell ?_ ?_ _); rotate_left; focus (first | omega | (simp; done) | (simp; omega))) | (with_reducible refine Below.step ?_ (by assumption)))); done)); (focus (refine RowAt.below H'.out ?_; (repeat (first | assumption | (with_reducible exact Below.refl _ _) | (with_reducible refine Below.drewN ?_ _) | (with_reducible refine Below.drew ?_) | (with_reducible refine Below.allocS ?_ _) | ((with_reducible refine Below.setCell ?_ ?_ _); rotate_left; focus (first | omega | (simp; done) | (simp; omega))) | (with_reducible refine Below.step ?_ (by assumption)))); done)); (focus (simp [Held, go_sem]; done)); rintro e w' ⟨c9, rfl, rfl⟩; rw [hc]))
  go_loopw [20, 7] (fun jv uv wr => ∃ k : Nat, k ≤ n ∧ jv = .int .i64 (k : Int) ∧ wr.ownsRow (w.heap.size + 1) 2 1 uv k (il (List.replicate k (-1))) ∧ Below w.heap.size w wr ∧ Held [(⟨w.heap.size, 0, none⟩, .slice (some ⟨b, o, none⟩) n cap), (⟨w.heap.size, 1, none⟩, v')] wr) (fun jv _ _ => n - (intOf jv).toNat)
  case atStart =>
    refine ⟨0, Nat.zero_le _, rfl, ?_, by (repeat (first | assumption | (with_reducible exact Below.refl _ _) | (with_reducible refine Below.drewN ?_ _) | (with_reducible refine Below.drew ?_) | (with_reducible refine Below.allocS ?_ _) | ((with_reducible refine Below.setCell ?_ ?_ _); rotate_left; focus (first | omega | (simp; done) | (simp; omega))) | (with_reducible refine Below.step ?_ (by assumption)))), by simp [Held, go_sem]⟩
    repeat (with_reducible refine ownsRow_drewN ?_ _)
    exact own_empty _ _ _ _ (by simp) (by simp)
  case round =>
    obtain ⟨k, hk, rfl, ho, hBr, hH⟩ := hrel
    obtain ⟨c2v, t2v, rfl⟩ := ownsRow_len ho
    have OI := Lib.hid ho
    have HR2 := Lib.hid hH
    have hzr := hBr.size
    simp only [Held, and_true] at hH
    clear ho
    by_cases hlt : k < n
    · have d1 : decide ((k : Int) < (n : Int)) = true := decide_eq_true (by omega)
      go_wp2_with (first | (at_builtin; refine wpList_append_own_at _ rfl _ _ 45 rfl (w.heap.size + 1) 2 i0 (.int .i64 0) 1 8 Try.underlying45 hi0 hz0 hz1 hz2 rfl (by decide) _ k (il (List.replicate k (-1))) rfl (by have h9 := OI.out; (repeat (first | (with_reducible refine World.ownsRow.alloc ?_ _) | (with_reducible refine ownsRow_drewN ?_ _) | ((with_reducible refine ownsRow_setCell_below ?_ ?_ _); rotate_left; focus (first | omega | (simp; done) | (simp; omega))))); exact h9) ⟨_, 0, none⟩ 1 1 [.int .i64 (-1)] rfl rfl (cell_one_at _ _ (by simp)) (int_one _) (by simp only [maxLen]; omega) (by omega) (by first | omega | (simp; omega)) ?_))
      intro v8 w8 ho8 hg8 _ _
      have hk8 := grown_held hg8 (base := (w.heap.size + 1)) (e := 2) (c := 1) (n := k) (xs := il (List.replicate k (-1))) (by have h9 := OI.out; (repeat (first | (with_reducible refine World.ownsRow.alloc ?_ _) | (with_reducible refine ownsRow_drewN ?_ _) | ((with_reducible refine ownsRow_setCell_below ?_ ?_ _); rotate_left; focus (first | omega | (simp; done) | (simp; omega))))); exact h9) (l := [(⟨w.heap.size, 0, none⟩, .slice (some ⟨b, o, none⟩) n cap), (⟨w.heap.size, 1, none⟩, v')]) (by simp; try omega) (by simp [Held, go_sem, *]; try omega)
      have hb8 : Below w.heap.size w w8 := by
        refine grown_below (w := w) ?_ hg8 (base := (w.heap.size + 1)) (e := 2) (c := 1) (n := k) (xs := il (List.replicate k (-1))) (by have h9 := OI.out; (repeat (first | (with_reducible refine World.ownsRow.alloc ?_ _) | (with_reducible refine ownsRow_drewN ?_ _) | ((with_reducible refine ownsRow_setCell_below ?_ ?_ _); rotate_left; focus (first | omega | (simp; done) | (simp; omega))))); exact h9) (by omega) (by first | omega | (simp; omega))
        (repeat (first | assumption | (with_reducible exact Below.refl _ _) | (with_reducible refine Below.drewN ?_ _) | (with_reducible refine Below.drew ?_) | (with_reducible refine Below.allocS ?_ _) | ((with_reducible refine Below.setCell ?_ ?_ _); rotate_left; focus (first | omega | (simp; done) | (simp; omega))) | (with_reducible refine Below.step ?_ (by assumption))))
      have O8 : Hid (w8.ownsRow (w.heap.size + 1) 2 1 v8 (k + 1) (il (List.replicate (k + 1) (-1)))) := by
        show World.ownsRow _ _ _ _ _ _ _
        rw [il_rep_snoc]
        exact ho8
      clear ho8 hg8
      go_wp2_with fail
      go_roundw
      case rel => exact ⟨k + 1, hlt, by go_num, O8.out, hb8, hk8⟩
      case measure => simp [intOf]; omega
    · obtain rfl : n = k := by omega
      have d1 : decide ((n : Int) < (n : Int)) = false := decide_eq_false (by omega)
      have o9 := OI.out
      obtain ⟨go, co, e9⟩ := ownsRow_own o9 (by omega)
      cases e9
      have hgo := ownsRow_lt o9 go rfl
      have hgz := hgo.2
      have hgn : ¬ w.heap.size = go := by omega
      have hgn' : ¬ go = w.heap.size := by omega
      have hgb := hgo.1
      clear o9 hgo
      go_wp2_with fail
      go_loopw [28, 8] (fun iv cv w2 => ∃ i : Nat, i ≤ n ∧ iv = .int .i64 (i : Int) ∧ cv = .int .i64 ((grps (nearQ l y) n i).2 : Int) ∧ w2.ownsRow (w.heap.size + 1) 2 1 (.slice (some ⟨go, 0, none⟩) n t2v) n (il (grps (nearQ l y) n i).1) ∧ Below w.heap.size w w2 ∧ Held [(⟨w.heap.size, 0, none⟩, .slice (some ⟨b, o, none⟩) n cap), (⟨w.heap.size, 1, none⟩, v')] w2 ∧ go < w2.heap.size) (fun iv _ _ => n - (intOf iv).toNat)
      case atStart => exact ⟨0, Nat.zero_le _, rfl, rfl, OI.out, hBr, HR2.out, hgz⟩
      case round =>
        obtain ⟨i, hi, rfl, rfl, o2, hBr2, hH2, hg2⟩ := hrel
        have HH2 := Lib.hid hH2
        have hzr2 := hBr2.size
        obtain ⟨hL2, hT2⟩ := grps_fits (P := (nearQ l y)) (n := n) i hi
        obtain ⟨ts, hts⟩ : ∃ ts, (grps (nearQ l y) n i).1 = ts := ⟨_, rfl⟩
        obtain ⟨tc, htc⟩ : ∃ tc, (grps (nearQ l y) n i).2 = tc := ⟨_, rfl⟩
        rw [hts] at o2 hL2
        rw [htc] at hT2 ⊢
        have HT : Hid (grps (nearQ l y) n i = (ts, tc)) := Prod.ext hts htc
        clear hts htc
        have O2 := Lib.hid o2
        clear o2 hH
        simp only [Held, and_true] at hH2
        by_cases hlt : i < n
        · have d2 : decide ((i : Int) < (n : Int)) = true := decide_eq_true (by omega)
          obtain ⟨x, hx⟩ : ∃ x, ts.getD i 0 = x := ⟨_, rfl⟩
          have f0 := (O2.out.cellAt i (by omega)).trans (il_get (l := ts) (by omega))
          rw [hx] at f0
          have z0 := O2.out.frozenAt i
          have HX := Lib.hid hx
          clear hx
          by_cases hx0 : x < 0
          · have d3 : decide (0 ≤ x) = false := decide_eq_false (by omega)
            have HX0 := Lib.hid hx0
            obtain ⟨w5, hw5⟩ : ∃ w5, w5 = (wr.setCell ⟨go, i, none⟩ (.int .i64 (tc : Int))).alloc (.cells #[.int .i64 (i : Int)] 2) := ⟨_, rfl⟩
            have S5 := O2.out.stored i (.int .i64 (tc : Int))
            rw [il_set] at S5
            have Y0 : Hid (w5.ownsRow (w.heap.size + 1) 2 1 (.slice (some ⟨go, 0, none⟩) n t2v) n (il (ts.set i (tc : Int)))) := by show World.ownsRow _ _ _ _ _ _ _; rw [hw5]; exact S5.1.alloc _
            have Y1 : Hid (w5.ownsRow (w.heap.size + 1) 2 1 (.slice (some ⟨wr.heap.size, 0, none⟩) 1 1) 1 (idx [i])) := by show World.ownsRow _ _ _ _ _ _ _; rw [hw5]; exact own_new (by simp) (by omega)
            have hk5 : Hid (Held [(⟨w.heap.size, 0, none⟩, .slice (some ⟨b, o, none⟩) n cap), (⟨w.heap.size, 1, none⟩, v')] w5) := by
              show Held _ _
              rw [hw5]
              simp [Held, go_sem, *]
            have hB5 : Below w.heap.size w w5 := by
              rw [hw5]
              (repeat (first | assumption | (with_reducible exact Below.refl _ _) | (with_reducible refine Below.drewN ?_ _) | (with_reducible refine Below.drew ?_) | (with_reducible refine Below.allocS ?_ _) | ((with_reducible refine Below.setCell ?_ ?_ _); rotate_left; focus (first | omega | (simp; done) | (simp; omega))) | (with_reducible refine Below.step ?_ (by assumption))))
            have hg5 : go < w5.heap.size := by rw [hw5]; simp; omega
            have hF5 := start_fits (g := (tc : Int)) hL2 hlt (by rw [HX.out]; exact hx0) (by omega)
            have HF5 := Lib.hid hF5
            clear S5 hF5
            go_wp2_with fail
            rw [← hw5]
            clear hw5 f0 z0
            obtain ⟨S, hS⟩ : ∃ S, bfs (nearQ l y) (tc : Int) n n 0 (ts.set i (tc : Int), [i]) = S := ⟨_, rfl⟩
            have HS := Lib.hid hS
            clear hS
            go_loopw [11, 10] (fun kv lv w3 => ∃ (k : Nat) (s1 : List Int) (s2 : List Nat), kv = .int .i64 (k : Int) ∧ k ≤ n ∧ Fits n (s1, s2) ∧ bfs (nearQ l y) (tc : Int) n (n - k) k (s1, s2) = S ∧ w3.ownsRow (w.heap.size + 1) 2 1 (.slice (some ⟨go, 0, none⟩) n t2v) n (il s1) ∧ w3.ownsRow (w.heap.size + 1) 2 1 lv s2.length (idx s2) ∧ lv.ownBlock ≠ some go ∧ Below w.heap.size w w3 ∧ Held [(⟨w.heap.size, 0, none⟩, .slice (some ⟨b, o, none⟩) n cap), (⟨w.heap.size, 1, none⟩, v')] w3 ∧ go < w3.heap.size) (fun kv _ _ => n + 1 - (intOf kv).toNat)
            case atStart => exact ⟨0, _, _, rfl, Nat.zero_le _, HF5.out, HS.out, Y0.out, Y1.out, (fun e9 => by have h9 := own_some e9; omega), hB5, hk5.out, hg5⟩
            case round =>
              obtain ⟨k, s1, s2, rfl, hkn, hs, hbf, o3, o4, hne, hBr3, hH3, hg3⟩ := hrel
              have HBF := Lib.hid hbf
              have HFS := Lib.hid hs
              have hsl := hs.len
              dsimp only at hsl
              have HH3 := Lib.hid hH3
              have hzr3 := hBr3.size
              obtain ⟨la, lc, rfl⟩ := ownsRow_len o4
              have O3 := Lib.hid o3
              obtain ⟨K, hK⟩ : ∃ K, K = s2.length := ⟨_, rfl⟩
              rw [← hK] at o4 hsl hne ⊢
              have O4 := Lib.hid o4
              have HKE := Lib.hid hK
              have HNE := Lib.hid hne
              simp only [Held, and_true] at hH3
              clear hbf hs o3 o4 hK hne hH2
              by_cases hlt2 : k < K
              · have d4 : decide ((k : Int) < (K : Int)) = true := decide_eq_true (by omega)
                have hk2 : Hid (k < s2.length) := by show _ < _; rw [← HKE.out]; exact hlt2
                obtain ⟨a, ha⟩ : ∃ a, Hid (s2.getD k 0 = a) := ⟨_, rfl⟩
                have han : a < n := by rw [← ha.out]; exact HFS.out.2.2 _ (getD_mem s2 hk2.out)
                go_wp2_with fail
                go_loopw [50, 10] (fun jv lv w4 => ∃ j : Nat, j ≤ n ∧ jv = .int .i64 (j : Int) ∧ w4.ownsRow (w.heap.size + 1) 2 1 (.slice (some ⟨go, 0, none⟩) n t2v) n (il (scan ((nearQ l y) a) (tc : Int) (s1, s2) j).1) ∧ w4.ownsRow (w.heap.size + 1) 2 1 lv (scan ((nearQ l y) a) (tc : Int) (s1, s2) j).2.length (idx (scan ((nearQ l y) a) (tc : Int) (s1, s2) j).2) ∧ lv.ownBlock ≠ some go ∧ Below w.heap.size w w4 ∧ Held [(⟨w.heap.size, 0, none⟩, .slice (some ⟨b, o, none⟩) n cap), (⟨w.heap.size, 1, none⟩, v')] w4 ∧ go < w4.heap.size) (fun jv _ _ => n - (intOf jv).toNat)
                case atStart => exact ⟨0, Nat.zero_le _, rfl, O3.out, by have h9 := O4.out; rw [HKE.out] at h9 ⊢; exact h9, HNE.out, hBr3, HH3.out, hg3⟩
                case round =>
                  obtain ⟨j, hj, rfl, o5, o6, hne5, hBr5, hH5, hg5⟩ := hrel
                  have hf5 := scan_fits (P := (nearQ l y) a) (g := (tc : Int)) HFS.out (by omega) j hj
                  have HF5' := Lib.hid hf5
                  obtain ⟨hp1, hp2⟩ := scan_pre (P := (nearQ l y) a) (g := (tc : Int)) (s := (s1, s2)) hk2.out j
                  have hq1 := hf5.1
                  have hq2 := hf5.len
                  dsimp only at hp2
                  rw [ha.out] at hp2
                  obtain ⟨r1, hr1⟩ : ∃ r1, (scan ((nearQ l y) a) (tc : Int) (s1, s2) j).1 = r1 := ⟨_, rfl⟩
                  obtain ⟨r2, hr2⟩ : ∃ r2, (scan ((nearQ l y) a) (tc : Int) (s1, s2) j).2 = r2 := ⟨_, rfl⟩
                  rw [hr1] at o5 hq1
                  rw [hr2] at o6 hp1 hp2 hq2
                  have HR1 := Lib.hid hr1
                  have HR2' := Lib.hid hr2
                  have HP2 := Lib.hid hp2
                  have O5 := Lib.hid o5
                  have O6 := Lib.hid o6
                  have HH5 := Lib.hid hH5
                  have HNE5 := Lib.hid hne5
                  have hzr5 := hBr5.size
                  simp only [Held, and_true] at hH5
                  obtain ⟨gl, lc', e9⟩ := ownsRow_own o6 (by omega)
                  cases e9
                  clear hf5 o5 o6 hr1 hr2 hp2 hne5 hH3
                  by_cases hlt3 : j < n
                  · have d5 : decide ((j : Int) < (n : Int)) = true := decide_eq_true (by omega)
                    obtain ⟨x0, hx0'⟩ : ∃ x, Hid (l.getD (a * 2) 0 = x) := ⟨_, rfl⟩
                    obtain ⟨x1, hx1⟩ : ∃ x, Hid (l.getD (j * 2) 0 = x) := ⟨_, rfl⟩
                    have HF0 : Hid (finB .f32 x0 = true) := by show finB _ _ = true; rw [← hx0'.out]; exact HF.out a han
                    have HF1 : Hid (finB .f32 x1 = true) := by show finB _ _ = true; rw [← hx1.out]; exact HF.out j hlt3
                    have f0' := HC.out (a * 2) (.float .f32 x0) (by rw [← hx0'.out]; exact fl_get (by rw [HL.out]; omega))
                    have f1 := HC.out (j * 2) (.float .f32 x1) (by rw [← hx1.out]; exact fl_get (by rw [HL.out]; omega))
                    have hc3 := Held.below hBr5 (l := [(⟨b, o + a * 2, none⟩, .float .f32 x0), (⟨b, o + j * 2, none⟩, .float .f32 x1)]) ⟨⟨hbl, f0'⟩, ⟨hbl, f1⟩, trivial⟩
                    simp only [Held, and_true] at hc3
                    have g0 := (O6.out.cellAt k (by omega)).trans (idx_get r2 hp1)
                    rw [HP2.out] at g0
                    have g1 := O6.out.frozenAt k
                    have hgl := (ownsRow_lt O6.out gl rfl).2
                    clear f0' f1
                    go_wp2_with fail
                    refine region_calmA wr wr.heap.size [(⟨w.heap.size, 0, none⟩, .slice (some ⟨b, o, none⟩) n cap), (⟨w.heap.size, 1, none⟩, v'), (⟨gl, k, none⟩, .int .i64 (a : Int)), (⟨b, o + a * 2, none⟩, .float .f32 x0), (⟨b, o + j * 2, none⟩, .float .f32 x1)] (fun _ _ v => v = .float .f32 (apartQ x0 x1)) [] (by kernel_rfl) (by kernel_rfl) (by kernel_rfl) ⟨⟨by simp [Held, go_sem, *], by (repeat (first | (with_reducible exact Below.refl _ _) | (with_reducible refine Below.drewN ?_ _) | (with_reducible refine Below.drew ?_) | (with_reducible refine Below.allocS ?_ _) | ((with_reducible refine Below.setCell ?_ ?_ _); rotate_left; focus (first | omega | (simp; done) | (simp; omega))) | (with_reducible refine Below.step ?_ (by assumption))))⟩, by (first | (simp; done) | (simp; omega) | omega)⟩ ?_
                    repeat (first | (first | (refine calmA_plain rfl rfl ?_ (fun K hK w1 hC => ?_); (focus (intro _ _; simp [RA]; done)); have hC' := hC.1.1; simp only [Held, and_true] at hC'; go_wp2_with (first | (refine wpList_fbin rfl rfl rfl rfl rfl (fun r n9 hr => ?_)) | (refine wpList_widen rfl rfl Try.underlying44 Try.underlying22 rfl (fun r n9 hr => ?_))); refine ⟨rfl, (by first | exact Below.refl _ _ | exact below_drewN _), hK _ ?_⟩; clear hC hC' hK K w1) | (refine calmA_check rfl rfl rfl ?_ ?_; (focus (intro _ _; simp [RA]; done)))) | (refine calmA_call (f := 88) (args := _) rfl ?_ (by (intro w1; simp [execOp, resolve, invoke, go_sem]; with_reducible rfl)) (fun w1 hC => ?_) ?_; (focus (intro _ _; simp [RA]; done)); (focus (refine (l05Apart_any x0 x1 _ HF0.out HF1.out).mono ?_; rintro e w2 ⟨r, n9, rfl, hq, rfl⟩; exact ⟨_, rfl, by rw [apart_eq hq HF0.out HF1.out], below_drewN _⟩)); rintro v9 rfl))
                    refine calmA_nil ?_
                    intro w6 hC9 hF9
                    have hB6' : Below wr.heap.size wr w6 := hC9.1.2
                    have hk6 := hC9.1.1
                    clear hC9 hF9 hc3 g0 g1 hH5
                    have Y0 := Lib.hid (ownsRow_below O5.out hB6')
                    have Y1 := Lib.hid (ownsRow_below O6.out hB6')
                    have hB6 : Below w.heap.size w w6 := hBr5.trans (hB6'.mono (by omega))
                    have HK6 := Lib.hid (Held.below hB6' HH5.out)
                    have hz6 : go < w6.heap.size := Nat.lt_of_lt_of_le hg5 hB6'.size
                    have hzw6 := hB6.size
                    obtain ⟨z, hz⟩ : ∃ z, r1.getD j 0 = z := ⟨_, rfl⟩
                    have e0 := (Y0.out.cellAt j (by omega)).trans (il_get (l := r1) (by omega))
                    rw [hz] at e0
                    have e1 := Y0.out.frozenAt j
                    have HZ := Lib.hid hz
                    have HNQ : Hid (nearQ l y a j = (leF .f32 (apartQ x0 x1) y && leF .f32 (Op.negFloat .f32 (apartQ x0 x1)) y)) := by show nearQ _ _ _ _ = _; unfold nearQ; rw [hx0'.out, hx1.out]
                    simp only [Held, and_true] at hk6
                    clear hz
                    by_cases hzn : z < 0
                    · have d6 : decide (z < 0) = true := decide_eq_true hzn
                      have HZ0 := Lib.hid hzn
                      cases e2 : leF .f32 (apartQ x0 x1) y
                      · have HP9 : Hid (nearQ l y a j = false) := by show _ = _; rw [HNQ.out, e2]; rfl
                        go_wp2_with fail
                        go_roundw
                        case rel => exact ⟨j + 1, hlt3, by go_num, by rw [scan_far HP9.out, HR1.out]; exact Y0.out, by rw [scan_far HP9.out, HR2'.out]; exact Y1.out, HNE5.out, hB6, HK6.out, hz6⟩
                        case measure => simp [intOf]; omega
                      cases e3 : leF .f32 (Op.negFloat .f32 (apartQ x0 x1)) y
                      · have HP9 : Hid (nearQ l y a j = false) := by show _ = _; rw [HNQ.out, e2, e3]; rfl
                        go_wp2_with fail
                        go_roundw
                        case rel => exact ⟨j + 1, hlt3, by go_num, by rw [scan_far HP9.out, HR1.out]; exact Y0.out, by rw [scan_far HP9.out, HR2'.out]; exact Y1.out, HNE5.out, hB6, HK6.out, hz6⟩
                        case measure => simp [intOf]; omega
                      · have HP9 : Hid (nearQ l y a j = true) := by show _ = _; rw [HNQ.out, e2, e3]; rfl
                        have hsc := scan_set (P := (nearQ l y) a) (g := (tc : Int)) (s := (s1, s2)) (j := j) (by rw [HR1.out, HZ.out]; exact HZ0.out) HP9.out
                        rw [HR1.out, HR2'.out] at hsc
                        have HSC := Lib.hid hsc
                        have S7 := Y0.out.stored j (.int .i64 (tc : Int))
                        rw [il_set] at S7
                        have K7 : Kept w6 (w6.setCell ⟨go, j, none⟩ (.int .i64 (tc : Int))) [some go] := Kept.of_grown S7.2
                        have L7 : Hid ((w6.setCell ⟨go, j, none⟩ (.int .i64 (tc : Int))).ownsRow (w.heap.size + 1) 2 1 (.slice (some ⟨gl, 0, none⟩) r2.length lc') r2.length (idx r2)) := ownsRow_kept Y1.out K7 (fun r hr hm => HNE5.out (by have h9 := List.mem_singleton.1 hm; rw [h9] at hr; exact hr))
                        have M7 := Lib.hid S7.1
                        clear S7 K7 hsc
                        go_wp2_with (first | (at_builtin; refine wpList_append_own_at _ rfl _ _ 45 rfl (w.heap.size + 1) 2 i0 (.int .i64 0) 1 8 Try.underlying45 hi0 hz0 hz1 hz2 rfl (by decide) _ r2.length (idx r2) rfl (by have h9 := L7.out; (repeat (first | (with_reducible refine World.ownsRow.alloc ?_ _) | (with_reducible refine ownsRow_drewN ?_ _) | ((with_reducible refine ownsRow_setCell_below ?_ ?_ _); rotate_left; focus (first | omega | (simp; done) | (simp; omega))))); exact h9) ⟨_, 0, none⟩ 1 1 [.int .i64 (j : Int)] rfl rfl (cell_one_at _ _ (by simp)) (int_one _) (by simp only [maxLen]; omega) (by omega) (by first | omega | (simp; omega)) ?_))
                        intro v8 w8 ho8 hg8 _ hown8
                        have hk8 := grown_held hg8 (base := (w.heap.size + 1)) (e := 2) (c := 1) (n := r2.length) (xs := idx r2) (by have h9 := L7.out; (repeat (first | (with_reducible refine World.ownsRow.alloc ?_ _) | (with_reducible refine ownsRow_drewN ?_ _) | ((with_reducible refine ownsRow_setCell_below ?_ ?_ _); rotate_left; focus (first | omega | (simp; done) | (simp; omega))))); exact h9) (l := [(⟨w.heap.size, 0, none⟩, .slice (some ⟨b, o, none⟩) n cap), (⟨w.heap.size, 1, none⟩, v')]) (by simp; try omega) (by simp [Held, go_sem, *]; try omega)
                        have hb8 : Below w.heap.size w w8 := by
                          refine grown_below (w := w) ?_ hg8 (base := (w.heap.size + 1)) (e := 2) (c := 1) (n := r2.length) (xs := idx r2) (by have h9 := L7.out; (repeat (first | (with_reducible refine World.ownsRow.alloc ?_ _) | (with_reducible refine ownsRow_drewN ?_ _) | ((with_reducible refine ownsRow_setCell_below ?_ ?_ _); rotate_left; focus (first | omega | (simp; done) | (simp; omega))))); exact h9) (by omega) (by first | omega | (simp; omega))
                          (repeat (first | assumption | (with_reducible exact Below.refl _ _) | (with_reducible refine Below.drewN ?_ _) | (with_reducible refine Below.drew ?_) | (with_reducible refine Below.allocS ?_ _) | ((with_reducible refine Below.setCell ?_ ?_ _); rotate_left; focus (first | omega | (simp; done) | (simp; omega))) | (with_reducible refine Below.step ?_ (by assumption))))
                        have T8 : Hid (w8.ownsRow (w.heap.size + 1) 2 1 (.slice (some ⟨go, 0, none⟩) n t2v) n (il (r1.set j (tc : Int)))) := ownsRow_kept (by have h9 := M7.out; (repeat (first | (with_reducible refine World.ownsRow.alloc ?_ _) | (with_reducible refine ownsRow_drewN ?_ _) | ((with_reducible refine ownsRow_setCell_below ?_ ?_ _); rotate_left; focus (first | omega | (simp; done) | (simp; omega))))); exact h9) (Kept.of_grown hg8) (fun r hr hm => by
                          have h9 := List.mem_singleton.1 hm
                          rw [own_some hr] at h9
                          exact HNE5.out h9.symm)
                        have O8 : Hid (w8.ownsRow (w.heap.size + 1) 2 1 v8 (r2 ++ [j]).length (idx (r2 ++ [j]))) := by
                          show World.ownsRow _ _ _ _ _ _ _
                          rw [idx_snoc, List.length_append]
                          exact ho8
                        have N8 : Hid (v8.ownBlock ≠ some go) := by
                          show v8.ownBlock ≠ some go
                          intro h9
                          rcases hown8 with h8 | h8
                          · exact HNE5.out (h8.symm.trans h9)
                          · have h7 := Option.some.inj (h9.symm.trans h8)
                            (try simp at h7)
                            omega
                        have hg8' : go < w8.heap.size := by have h9 := hg8.size; simp at h9; omega
                        clear ho8 hg8 hown8
                        go_wp2_with fail
                        go_roundw
                        case rel => exact ⟨j + 1, hlt3, by go_num, by rw [HSC.out]; exact T8.out, by rw [HSC.out]; exact O8.out, N8.out, hb8, hk8, hg8'⟩
                        case measure => simp [intOf]; omega
                    · have d6 : decide (z < 0) = false := decide_eq_false hzn
                      have hsc := scan_had (P := (nearQ l y) a) (g := (tc : Int)) (s := (s1, s2)) (j := j) (by rw [HR1.out, HZ.out]; exact hzn)
                      have HSC := Lib.hid hsc
                      clear hsc
                      go_wp2_with fail
                      go_roundw
                      case rel => exact ⟨j + 1, hlt3, by go_num, by rw [HSC.out, HR1.out]; exact Y0.out, by rw [HSC.out, HR2'.out]; exact Y1.out, HNE5.out, hB6, HK6.out, hz6⟩
                      case measure => simp [intOf]; omega
                  · obtain rfl : n = j := by omega
                    have d5 : decide ((n : Int) < (n : Int)) = false := decide_eq_false (by omega)
                    have hst := bfs_step (P := (nearQ l y)) (g := (tc : Int)) hk2.out HFS.out.len
                    dsimp only at hst
                    rw [HBF.out, ha.out] at hst
                    have HST := Lib.hid hst
                    clear hst
                    go_wp2_with fail
                    go_roundw
                    case rel => exact ⟨k + 1, r1, r2, by go_num, by omega, by have h9 := HF5'.out; rw [← HR1.out, ← HR2'.out]; exact h9, by rw [← HR1.out, ← HR2'.out]; exact HST.out.symm, O5.out, O6.out, HNE5.out, hBr5, HH5.out, hg5⟩
                    case measure => simp [intOf]; omega
              · have d4 : decide ((k : Int) < (K : Int)) = false := decide_eq_false (by omega)
                have hE : (s1, s2) = S := by rw [← HBF.out]; exact (bfs_done (by dsimp only; rw [← HKE.out]; exact hlt2)).symm
                have hG := grps_new HT.out (show (ts, tc).1.getD i 0 < 0 by dsimp only; rw [HX.out]; exact HX0.out)
                dsimp only at hG
                rw [HS.out, ← hE] at hG
                have HG := Lib.hid hG
                clear hG hE
                go_wp2_with fail
                go_roundw
                case rel => exact ⟨i + 1, hlt, by go_num, by rw [HG.out]; go_num, by rw [HG.out]; exact O3.out, hBr3, HH3.out, hg3⟩
                case measure => simp [intOf]; omega
          · have d3 : decide (0 ≤ x) = true := decide_eq_true (by omega)
            have hG := grps_had (P := (nearQ l y)) (n := n) (i := i) (by rw [HT.out]; dsimp only; rw [HX.out]; exact hx0)
            rw [HT.out] at hG
            have HG := Lib.hid hG
            clear hG
            go_wp2_with fail
            go_roundw
            case rel => exact ⟨i + 1, hlt, by go_num, by rw [HG.out], by rw [HG.out]; exact O2.out, hBr2, HH2.out, hg2⟩
            case measure => simp [intOf]; omega
        · obtain rfl : n = i := by omega
          have d2 : decide ((n : Int) < (n : Int)) = false := decide_eq_false (by omega)
          go_wp2_with fail
          refine bodyPost_ret (v := ?_) (by first | (simp [results, Try.results43, go_sem, *]; rfl) | (simp [results, Try.results43, go_sem, *]; done)) rfl ?_
          rw [show groupsOf l y n = (ts, tc) from HT.out]
          exact ⟨_, rfl, ownsRow_base (base := w.heap.size + 1) (by omega) O2.out, hBr2⟩

end Go.Proofs.Ytifdcoambehekaa
