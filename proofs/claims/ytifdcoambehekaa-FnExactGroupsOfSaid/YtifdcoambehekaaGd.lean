/-
  The walk of the program's GroupsOf.
-/
import Derived.Test.YtifdcoambehekaaGc
import Derived.Deep.LoopGhost
set_option linter.unusedVariables false
set_option linter.unusedSimpArgs false
namespace Go.Proofs.Ytifdcoambehekaa
open Go.RowKit

theorem drop_cons {ks : List Nat} {k : Nat} (h : k < ks.length) : ks.drop k = ks.getD k 0 :: ks.drop (k + 1) := by
  rw [List.drop_eq_getElem_cons h, List.getD_eq_getElem?_getD, List.getElem?_eq_getElem h]
  rfl
theorem drop_snoc {ks : List Nat} {k j : Nat} (h : k < ks.length) : (ks ++ [j]).drop k = ks.drop k ++ [j] := List.drop_append_of_le_length (Nat.le_of_lt h)
theorem idx_cons (a : Nat) (ks : List Nat) : idx (a :: ks) = .int .i64 (a : Int) :: idx ks := rfl
theorem idx_len (ks : List Nat) : (idx ks).length = ks.length := by unfold idx; rw [il_length, List.length_map]
theorem info_Int : (Try.prog.info? 3).map (fun i => (i.zero, i.size, i.bytes)) = some (some (.int .i64 0), 1, 8) := by kernel_rfl
set_option maxRecDepth 100000 in
set_option maxHeartbeats 8000000 in
theorem implGroups_any (v v' : Value) (n m : Nat) (l lk : List Nat) (y : Nat) (w : World) (h : RowAt w v 2 n (fl l)) (h' : RowAt w v' 1 m (fl lk)) : Calls Try.prog 44 #[.agg #[v, v'], .float .f32 y] w (GiveI (cN (clocksB n l m lk) n) (cZ (clocksB n l m lk) (groupsOf l y n).1) (if clocksB n l m lk then ((groupsOf l y n).2 : Int) else 0) (clocksB n l m lk) w) := by
  have H := Lib.hid h
  have H' := Lib.hid h'
  clear h h'
  cases hc : clocksB n l m lk
  · go_enter Try.func44, Try.ntmps44
    go_wp2_with (first | (go_at_call 56; refine (implValidClocks_any v v' n m l lk _ ?_ ?_).mono ?_; (focus (refine RowAt.below H.out ?_; (repeat (first | assumption | (with_reducible exact Below.refl _ _) | (with_reducible refine Below.drewN ?_ _) | (with_reducible refine Below.drew ?_) | (with_reducible refine Below.allocS ?_ _) | ((with_reducible refine Below.setCell ?_ ?_ _); rotate_left; focus (first | omega | (simp; done) | (simp; omega))) | (with_reducible refine Below.step ?_ (by assumption)))); done)); (focus (refine RowAt.below H'.out ?_; (repeat (first | assumption | (with_reducible exact Below.refl _ _) | (with_reducible refine Below.drewN ?_ _) | (with_reducible refine Below.drew ?_) | (with_reducible refine Below.allocS ?_ _) | ((with_reducible refine Below.setCell ?_ ?_ _); rotate_left; focus (first | omega | (simp; done) | (simp; omega))) | (with_reducible refine Below.step ?_ (by assumption)))); done)); rintro e w1 ⟨rfl, hb⟩; rw [hc]; have hk := Held.below hb (l := [(⟨w.heap.size, 0, none⟩, v), (⟨w.heap.size, 1, none⟩, v')]) (by simp [Held, go_sem]); simp only [Held, and_true] at hk))
    refine bodyPost_ret (v := ?_) (by first | (simp [results, Try.results44, go_sem, *]; rfl) | (simp [results, Try.results44, go_sem, *]; done)) rfl ?_
    exact ⟨_, rfl, ownsRow_nil', by (repeat (first | assumption | (with_reducible exact Below.refl _ _) | (with_reducible refine Below.drewN ?_ _) | (with_reducible refine Below.drew ?_) | (with_reducible refine Below.allocS ?_ _) | ((with_reducible refine Below.setCell ?_ ?_ _); rotate_left; focus (first | omega | (simp; done) | (simp; omega))) | (with_reducible refine Below.step ?_ (by assumption))))⟩
  obtain ⟨c1, c2, c3, c4, c5⟩ := clocks_parts hc
  have HF : Hid (∀ k, k < n → finB .f32 (l.getD (k * 2) 0) = true) := fun k hk => okClock_fin hc hk
  clear c3 c4 c5
  obtain ⟨h1, h2, ao, cap, rfl, h3⟩ := H.out
  obtain ⟨b, o, rfl, hbl, hcell⟩ := h3.resolve_left (by omega)
  rw [fl_length] at h1
  have HL : Hid (l.length = n * 2) := h1
  have HC := Lib.hid hcell
  clear h3 h1 hcell
  obtain ⟨i0, hi0, hz0, hz1, hz2⟩ := info_parts info_Int64
  obtain ⟨n0, hn0, hy0, hy1, hy2⟩ := info_parts info_Int
  have h63 : n ≤ 9223372036854775807 := by omega
  go_enter Try.func44, Try.ntmps44
  go_wp2_with (first | (go_at_call 56; refine (implValidClocks_any (.slice (some ⟨b, o, none⟩) n cap) v' n m l lk _ ?_ ?_).mono ?_; (focus (refine RowAt.below H.out ?_; (repeat (first | assumption | (with_reducible exact Below.refl _ _) | (with_reducible refine Below.drewN ?_ _) | (with_reducible refine Below.drew ?_) | (with_reducible refine Below.allocS ?_ _) | ((with_reducible refine Below.setCell ?_ ?_ _); rotate_left; focus (first | omega | (simp; done) | (simp; omega))) | (with_reducible refine Below.step ?_ (by assumption)))); done)); (focus (refine RowAt.below H'.out ?_; (repeat (first | assumption | (with_reducible exact Below.refl _ _) | (with_reducible refine Below.drewN ?_ _) | (with_reducible refine Below.drew ?_) | (with_reducible refine Below.allocS ?_ _) | ((with_reducible refine Below.setCell ?_ ?_ _); rotate_left; focus (first | omega | (simp; done) | (simp; omega))) | (with_reducible refine Below.step ?_ (by assumption)))); done)); rintro e w1 ⟨rfl, hb⟩; rw [hc]; have hk := Held.below hb (l := [(⟨w.heap.size, 0, none⟩, .slice (some ⟨b, o, none⟩) n cap), (⟨w.heap.size, 1, none⟩, v')]) (by simp [Held, go_sem]); simp only [Held, and_true] at hk) | (go_at_call 89; refine (repeatI_any (-1) n _ _ (rowAt_new _ _ _ _ (by simp)) (by omega) (by omega)).mono ?_; rintro e w3 ⟨go, rfl, ou, hb3⟩; have hk3 := Held.below hb3 (l := [(⟨w.heap.size, 0, none⟩, .slice (some ⟨b, o, none⟩) n cap), (⟨w.heap.size, 1, none⟩, v')]) (by simp [Held, go_sem, *]); have HR2 := Lib.hid hk3; simp only [Held, and_true] at hk3))
  have hzb := hb.size
  have hzb3 := hb3.size
  simp only [World.size_alloc] at hzb hzb3
  have ou' := ownsRow_base (base' := (w.heap.size + 1)) (by simp; omega) ou
  rw [il_replicate] at ou'
  have hgo := ownsRow_lt ou' go rfl
  have hgz := hgo.2
  have hgb := hgo.1
  have hgn : ¬ w.heap.size = go := by omega
  have hgn' : ¬ go = w.heap.size := by omega
  have OI := Lib.hid ou'
  have hB3 : Below w.heap.size w w3 := by (repeat (first | assumption | (with_reducible exact Below.refl _ _) | (with_reducible refine Below.drewN ?_ _) | (with_reducible refine Below.drew ?_) | (with_reducible refine Below.allocS ?_ _) | ((with_reducible refine Below.setCell ?_ ?_ _); rotate_left; focus (first | omega | (simp; done) | (simp; omega))) | (with_reducible refine Below.step ?_ (by assumption))))
  clear ou ou' hgo hk3 hk hzb hzb3
  go_loopw [23, 8] (fun iv cv w2 => ∃ i : Nat, i ≤ n ∧ iv = .int .i64 (i : Int) ∧ cv = .int .i64 ((grps (nearQ l y) n i).2 : Int) ∧ w2.ownsRow (w.heap.size + 1) 2 1 (.slice (some ⟨go, 0, none⟩) n n) n (il (grps (nearQ l y) n i).1) ∧ Below w.heap.size w w2 ∧ Held [(⟨w.heap.size, 0, none⟩, .slice (some ⟨b, o, none⟩) n cap), (⟨w.heap.size, 1, none⟩, v')] w2 ∧ go < w2.heap.size) (fun iv _ _ => n - (intOf iv).toNat)
  case atStart => exact ⟨0, Nat.zero_le _, rfl, rfl, OI.out, hB3, HR2.out, hgz⟩
  case round =>
    obtain ⟨i, hi, rfl, rfl, o2, hBr2, hH2, hg2⟩ := hrel
    have HH2 := Lib.hid hH2
    have hzr2 := hBr2.size
    obtain ⟨hL2, hT2⟩ := grps_fits (P := (nearQ l y)) (n := n) i hi
    obtain ⟨ts, hts⟩ : ∃ ts, (grps (nearQ l y) n i).1 = ts := ⟨_, rfl⟩
    obtain ⟨tc, htc⟩ : ∃ tc, (grps (nearQ l y) n i).2 = tc := ⟨_, rfl⟩
    rw [hts] at o2 hL2
    rw [htc] at hT2 ⊢
    have HT : Hid (grps (nearQ l y) n i = (ts, tc)) := Prod.ext hts htc
    clear hts htc
    have O2 := Lib.hid o2
    clear o2
    simp only [Held, and_true] at hH2
    by_cases hlt : i < n
    · have d2 : decide ((i : Int) < (n : Int)) = true := decide_eq_true (by omega)
      obtain ⟨x, hx⟩ : ∃ x, ts.getD i 0 = x := ⟨_, rfl⟩
      have f0 := (O2.out.cellAt i (by omega)).trans (il_get (l := ts) (by omega))
      rw [hx] at f0
      have z0 := O2.out.frozenAt i
      have HX := Lib.hid hx
      clear hx
      by_cases hx0 : x < 0
      · have d3 : decide (0 ≤ x) = false := decide_eq_false (by omega)
        have HX0 := Lib.hid hx0
        obtain ⟨w5, hw5⟩ : ∃ w5, w5 = (wr.setCell ⟨go, i, none⟩ (.int .i64 (tc : Int))).alloc (.cells #[.int .i64 (i : Int)] 3) := ⟨_, rfl⟩
        have S5 := O2.out.stored i (.int .i64 (tc : Int))
        rw [il_set] at S5
        have Y0 : Hid (w5.ownsRow (w.heap.size + 1) 2 1 (.slice (some ⟨go, 0, none⟩) n n) n (il (ts.set i (tc : Int)))) := by show World.ownsRow _ _ _ _ _ _ _; rw [hw5]; exact S5.1.alloc _
        have Y1 : Hid (Que w5 (w.heap.size + 1) 3 (.slice (some ⟨wr.heap.size, 0, none⟩) 1 1) (idx [i])) := by show Que _ _ _ _ _; rw [hw5]; exact Que.own (own_new (by simp) (by omega))
        have hk5 : Hid (Held [(⟨w.heap.size, 0, none⟩, .slice (some ⟨b, o, none⟩) n cap), (⟨w.heap.size, 1, none⟩, v')] w5) := by
          show Held _ _
          rw [hw5]
          simp [Held, go_sem, *]
        have hB5 : Below w.heap.size w w5 := by
          rw [hw5]
          (repeat (first | assumption | (with_reducible exact Below.refl _ _) | (with_reducible refine Below.drewN ?_ _) | (with_reducible refine Below.drew ?_) | (with_reducible refine Below.allocS ?_ _) | ((with_reducible refine Below.setCell ?_ ?_ _); rotate_left; focus (first | omega | (simp; done) | (simp; omega))) | (with_reducible refine Below.step ?_ (by assumption))))
        have hg5 : go < w5.heap.size := by rw [hw5]; simp; omega
        have hF5 := start_fits (g := (tc : Int)) hL2 hlt (by rw [HX.out]; exact hx0) (by omega)
        have HF5 := Lib.hid hF5
        clear S5 hF5
        go_wp2_with fail
        rw [← hw5]
        clear hw5 f0 z0
        obtain ⟨S, hS⟩ : ∃ S, bfs (nearQ l y) (tc : Int) n n 0 (ts.set i (tc : Int), [i]) = S := ⟨_, rfl⟩
        have HS := Lib.hid hS
        clear hS
        go_loopg [10] (n + 1) (fun gk lv w3 => ∃ (k : Nat) (s1 : List Int) (s2 : List Nat), gk + k = n + 1 ∧ k ≤ n ∧ Fits n (s1, s2) ∧ bfs (nearQ l y) (tc : Int) n (n - k) k (s1, s2) = S ∧ w3.ownsRow (w.heap.size + 1) 2 1 (.slice (some ⟨go, 0, none⟩) n n) n (il s1) ∧ Que w3 (w.heap.size + 1) 3 lv (idx (s2.drop k)) ∧ lv.ownBlock ≠ some go ∧ Below w.heap.size w w3 ∧ Held [(⟨w.heap.size, 0, none⟩, .slice (some ⟨b, o, none⟩) n cap), (⟨w.heap.size, 1, none⟩, v')] w3 ∧ go < w3.heap.size)
        case atStart => exact ⟨0, _, _, rfl, Nat.zero_le _, HF5.out, HS.out, Y0.out, Y1.out, (fun e9 => by have h9 := own_some e9; omega), hB5, hk5.out, hg5⟩
        case round =>
          obtain ⟨k, s1, s2, hgk, hkn, hs, hbf, o3, o4, hne, hBr3, hH3, hg3⟩ := hrel
          have HBF := Lib.hid hbf
          have HFS := Lib.hid hs
          have hsl := hs.len
          dsimp only at hsl
          have HH3 := Lib.hid hH3
          have hzr3 := hBr3.size
          have O3 := Lib.hid o3
          have HNE := Lib.hid hne
          simp only [Held, and_true] at hH3
          clear hbf hs o3 hne hH2
          by_cases hlt2 : k < s2.length
          · obtain ⟨a, ha⟩ : ∃ a, Hid (s2.getD k 0 = a) := ⟨_, rfl⟩
            have han : a < n := by rw [← ha.out]; exact HFS.out.2.2 _ (getD_mem s2 hlt2)
            have hk2 := Lib.hid hlt2
            have O4 := Lib.hid o4
            rw [drop_cons hlt2, ha.out, idx_cons] at o4
            obtain ⟨gq, oq, cq, rfl, hq1, hq2, hq3, hq4, hq5, hq6⟩ := o4.head
            obtain ⟨K, hK⟩ : ∃ K, K = (idx (s2.drop (k + 1))).length + 1 := ⟨_, rfl⟩
            rw [← hK]
            rw [← hK] at O4 HNE
            have d4 : 0 < K := by omega
            clear o4 hq1 hq2 hq3 hq4 hq5 hq6 hlt2 hK
            go_wp2_with fail
            go_loopw [45, 10] (fun jv lv w4 => ∃ j : Nat, j ≤ n ∧ jv = .int .i64 (j : Int) ∧ w4.ownsRow (w.heap.size + 1) 2 1 (.slice (some ⟨go, 0, none⟩) n n) n (il (scan ((nearQ l y) a) (tc : Int) (s1, s2) j).1) ∧ Que w4 (w.heap.size + 1) 3 lv (idx ((scan ((nearQ l y) a) (tc : Int) (s1, s2) j).2.drop k)) ∧ lv.ownBlock ≠ some go ∧ Below w.heap.size w w4 ∧ Held [(⟨w.heap.size, 0, none⟩, .slice (some ⟨b, o, none⟩) n cap), (⟨w.heap.size, 1, none⟩, v')] w4 ∧ go < w4.heap.size) (fun jv _ _ => n - (intOf jv).toNat)
            case atStart => exact ⟨0, Nat.zero_le _, rfl, O3.out, O4.out, HNE.out, hBr3, HH3.out, hg3⟩
            case round =>
              obtain ⟨j, hj, rfl, o5, o6, hne5, hBr5, hH5, hg5⟩ := hrel
              have hf5 := scan_fits (P := (nearQ l y) a) (g := (tc : Int)) HFS.out (by omega) j hj
              have HF5' := Lib.hid hf5
              obtain ⟨hp1, hp2⟩ := scan_pre (P := (nearQ l y) a) (g := (tc : Int)) (s := (s1, s2)) hk2.out j
              have hq1 := hf5.1
              have hq2 := hf5.len
              dsimp only at hp2
              rw [ha.out] at hp2
              obtain ⟨r1, hr1⟩ : ∃ r1, (scan ((nearQ l y) a) (tc : Int) (s1, s2) j).1 = r1 := ⟨_, rfl⟩
              obtain ⟨r2, hr2⟩ : ∃ r2, (scan ((nearQ l y) a) (tc : Int) (s1, s2) j).2 = r2 := ⟨_, rfl⟩
              rw [hr1] at o5 hq1
              rw [hr2] at o6 hp1 hp2 hq2
              have HR1 := Lib.hid hr1
              have HR2' := Lib.hid hr2
              have HP1 := Lib.hid hp1
              have O5 := Lib.hid o5
              have O6 := Lib.hid o6
              have HH5 := Lib.hid hH5
              have HNE5 := Lib.hid hne5
              have hzr5 := hBr5.size
              have hql1 : 0 < (idx (r2.drop k)).length := by rw [idx_len, List.length_drop]; omega
              have hql2 : (idx (r2.drop k)).length ≤ 1000 := by rw [idx_len, List.length_drop]; omega
              have HQ1 := Lib.hid hql1
              have HQ2 := Lib.hid hql2
              simp only [Held, and_true] at hH5
              rw [drop_cons hp1, hp2, idx_cons] at o6
              obtain ⟨gq, oq, cq, rfl, hgq1, hgq2, hgq3, g0, g1, htail⟩ := o6.head
              obtain ⟨K2, hK2⟩ : ∃ K2, K2 = (idx (r2.drop (k + 1))).length + 1 := ⟨_, rfl⟩
              rw [← hK2] at O6 HNE5 hgq3 ⊢
              have HT2 := Lib.hid htail
              have hK2p : 0 < K2 := by omega
              have hK2q : 1 ≤ K2 := hK2p
              have HK2 := Lib.hid hK2
              clear hf5 o5 o6 hr1 hr2 hp2 hne5 hH3 htail hql1 hql2 hK2
              by_cases hlt3 : j < n
              · have d5 : decide ((j : Int) < (n : Int)) = true := decide_eq_true (by omega)
                obtain ⟨x0, hx0'⟩ : ∃ x, Hid (l.getD (a * 2) 0 = x) := ⟨_, rfl⟩
                obtain ⟨x1, hx1⟩ : ∃ x, Hid (l.getD (j * 2) 0 = x) := ⟨_, rfl⟩
                have HF0 : Hid (finB .f32 x0 = true) := by show finB _ _ = true; rw [← hx0'.out]; exact HF.out a han
                have HF1 : Hid (finB .f32 x1 = true) := by show finB _ _ = true; rw [← hx1.out]; exact HF.out j hlt3
                have f0' := HC.out (a * 2) (.float .f32 x0) (by rw [← hx0'.out]; exact fl_get (by rw [HL.out]; omega))
                have f1 := HC.out (j * 2) (.float .f32 x1) (by rw [← hx1.out]; exact fl_get (by rw [HL.out]; omega))
                have hc3 := Held.below hBr5 (l := [(⟨b, o + a * 2, none⟩, .float .f32 x0), (⟨b, o + j * 2, none⟩, .float .f32 x1)]) ⟨⟨hbl, f0'⟩, ⟨hbl, f1⟩, trivial⟩
                simp only [Held, and_true] at hc3
                obtain ⟨z, hz⟩ : ∃ z, r1.getD j 0 = z := ⟨_, rfl⟩
                have e0 := (O5.out.cellAt j (by omega)).trans (il_get (l := r1) (by omega))
                rw [hz] at e0
                have e1 := O5.out.frozenAt j
                have HZ := Lib.hid hz
                have HNQ : Hid (leF .f32 (apartQ x0 x1 % 2147483648) y = nearQ l y a j) := by show _ = nearQ _ _ _ _; rw [← near_abs, hx0'.out, hx1.out]
                clear f0' f1 hz
                by_cases hzn : z < 0
                · have d6 : decide (z < 0) = true := decide_eq_true hzn
                  have HZ0 := Lib.hid hzn
                  go_wp2_with fail
                  refine region_calmA wr wr.heap.size [(⟨w.heap.size, 0, none⟩, .slice (some ⟨b, o, none⟩) n cap), (⟨w.heap.size, 1, none⟩, v'), (⟨go, j, none⟩, .int .i64 z), (⟨gq, oq, none⟩, .int .i64 (a : Int)), (⟨b, o + a * 2, none⟩, .float .f32 x0), (⟨b, o + j * 2, none⟩, .float .f32 x1)] (fun _ args v => v = .float .f32 (if args.size = 2 then apartQ x0 x1 else apartQ x0 x1 % 2147483648)) [] (by kernel_rfl) (by kernel_rfl) (by kernel_rfl) ⟨⟨by simp [Held, go_sem, *], by (repeat (first | (with_reducible exact Below.refl _ _) | (with_reducible refine Below.drewN ?_ _) | (with_reducible refine Below.drew ?_) | (with_reducible refine Below.allocS ?_ _) | ((with_reducible refine Below.setCell ?_ ?_ _); rotate_left; focus (first | omega | (simp; done) | (simp; omega))) | (with_reducible refine Below.step ?_ (by assumption))))⟩, by (first | (simp; done) | (simp; omega) | omega)⟩ ?_
                  repeat (first | (first | (refine calmA_plain rfl rfl ?_ (fun K hK w1 hC => ?_); (focus (intro _ _; simp [RA]; done)); have hC' := hC.1.1; simp only [Held, and_true] at hC'; go_wp2_with (first | (refine wpList_fbin rfl rfl rfl rfl rfl (fun r n9 hr => ?_)) | (refine wpList_widen rfl rfl Try.underlying44 Try.underlying22 rfl (fun r n9 hr => ?_))); refine ⟨rfl, (by first | exact Below.refl _ _ | exact below_drewN _), hK _ ?_⟩; clear hC hC' hK K w1) | (refine calmA_check rfl rfl rfl ?_ ?_; (focus (intro _ _; simp [RA]; done)))) | (refine calmA_call (f := 91) (args := _) rfl ?_ (by (intro w1; simp [execOp, resolve, invoke, go_sem]; with_reducible rfl)) (fun w1 hC => ?_) ?_; (focus (intro _ _; simp [RA]; done)); (focus (refine (apart_any x0 x1 _ HF0.out HF1.out).mono ?_; rintro e w2 ⟨r, n9, rfl, hq, rfl⟩; exact ⟨_, rfl, by rw [apart_eq hq HF0.out HF1.out]; rfl, below_drewN _⟩)); intro v9 hv9; obtain rfl : v9 = .float .f32 (apartQ x0 x1) := hv9) | (refine calmA_call (f := 90) (args := _) rfl ?_ (by (intro w1; simp [execOp, resolve, invoke, go_sem]; with_reducible rfl)) (fun w1 hC => ?_) ?_; (focus (intro _ _; simp [RA]; done)); (focus (refine (abs_any _ _ (apart_lt x0 x1)).mono ?_; rintro e w2 ⟨rfl, rfl⟩; exact ⟨_, rfl, rfl, Below.refl _ _⟩)); intro v9 hv9; obtain rfl : v9 = .float .f32 (apartQ x0 x1 % 2147483648) := hv9))
                  refine calmA_nil ?_
                  intro w6 hC9 hF9
                  have hB6' : Below wr.heap.size wr w6 := hC9.1.2
                  have hk6 := hC9.1.1
                  clear hC9 hF9 hc3 g0 g1 hH5 e0 e1
                  have Y0 := Lib.hid (ownsRow_below O5.out hB6')
                  have Y1 := Lib.hid (O6.out.below hB6')
                  have hB6 : Below w.heap.size w w6 := hBr5.trans (hB6'.mono (by omega))
                  have HK6 := Lib.hid (Held.below hB6' HH5.out)
                  have hz6 : go < w6.heap.size := Nat.lt_of_lt_of_le hg5 hB6'.size
                  have hzw6 := hB6.size
                  have f6 := (Y0.out.cellAt j (by omega)).trans (il_get (l := r1) (by omega))
                  rw [HZ.out] at f6
                  have z6 := Y0.out.frozenAt j
                  simp only [Held, and_true] at hk6
                  cases e2 : leF .f32 (apartQ x0 x1 % 2147483648) y
                  · have HP9 : Hid (nearQ l y a j = false) := by show _ = _; rw [← HNQ.out, e2]
                    go_wp2_with fail
                    go_roundw
                    case rel => exact ⟨j + 1, hlt3, by go_num, by rw [scan_far HP9.out, HR1.out]; exact Y0.out, by rw [scan_far HP9.out, HR2'.out]; exact Y1.out, HNE5.out, hB6, HK6.out, hz6⟩
                    case measure => simp [intOf]; omega
                  · have HP9 : Hid (nearQ l y a j = true) := by show _ = _; rw [← HNQ.out, e2]
                    have hsc := scan_set (P := (nearQ l y) a) (g := (tc : Int)) (s := (s1, s2)) (j := j) (by rw [HR1.out, HZ.out]; exact HZ0.out) HP9.out
                    rw [HR1.out, HR2'.out] at hsc
                    have HSC := Lib.hid hsc
                    have S7 := Y0.out.stored j (.int .i64 (tc : Int))
                    rw [il_set] at S7
                    have K7 : Kept w6 (w6.setCell ⟨go, j, none⟩ (.int .i64 (tc : Int))) [some go] := Kept.of_grown S7.2
                    have L7 : Hid (Que ((w6.setCell ⟨go, j, none⟩ (.int .i64 (tc : Int))).alloc (.cells #[.int .i64 (j : Int)] 3)) (w.heap.size + 1) 3 (.slice (some ⟨gq, oq, none⟩) K2 cq) (idx (r2.drop k))) := (Que.kept Y1.out K7 (fun r hr hm => HNE5.out (by have h9 := List.mem_singleton.1 hm; rw [h9] at hr; exact hr))).below (Below.allocS (Below.refl _ _) _)
                    have M7 := Lib.hid S7.1
                    clear S7 K7 hsc
                    have hql1 := HQ1.out
                    have hql2 := HQ2.out
                    go_wp2_with (first | (at_builtin; refine wpList_que_append _ rfl _ _ 97 rfl (w.heap.size + 1) 3 n0 (.int .i64 0) 8 Try.underlying97 hn0 hy0 hy1 hy2 rfl (Nat.le_refl _) _ _ rfl L7.out hql1 hql2 (.int .i64 (j : Int)) rfl _ _ rfl (cell_one_at _ _ (by simp)) (by first | omega | (simp; omega)) ?_))
                    intro v8 w8 ho8 hkp8 hown8
                    have hk8 : Held [(⟨w.heap.size, 0, none⟩, .slice (some ⟨b, o, none⟩) n cap), (⟨w.heap.size, 1, none⟩, v')] w8 := Held_kept hkp8 (fun q9 hq9 hm => by
                      have h9 := List.mem_singleton.1 hm
                      simp only [List.mem_cons, List.not_mem_nil, or_false] at hq9
                      rcases hq9 with rfl | rfl <;> (simp [Value.ownBlock] at h9; omega)) (by simp [Held, go_sem, *]; try omega)
                    have hb8 : Below w.heap.size w w8 := by
                      have h8 : Below w.heap.size w ((w6.setCell ⟨go, j, none⟩ (.int .i64 (tc : Int))).alloc (.cells #[.int .i64 (j : Int)] 3)) := by (repeat (first | assumption | (with_reducible exact Below.refl _ _) | (with_reducible refine Below.drewN ?_ _) | (with_reducible refine Below.drew ?_) | (with_reducible refine Below.allocS ?_ _) | ((with_reducible refine Below.setCell ?_ ?_ _); rotate_left; focus (first | omega | (simp; done) | (simp; omega))) | (with_reducible refine Below.step ?_ (by assumption))))
                      exact h8.trans (hkp8.toBelow h8.size (fun r hr => by have h9 := List.mem_singleton.1 hr; simp [Value.ownBlock] at h9; omega))
                    have T8 : Hid (w8.ownsRow (w.heap.size + 1) 2 1 (.slice (some ⟨go, 0, none⟩) n n) n (il (r1.set j (tc : Int)))) := ownsRow_kept (by have h9 := M7.out; (repeat (first | (with_reducible refine World.ownsRow.alloc ?_ _) | (with_reducible refine ownsRow_drewN ?_ _) | ((with_reducible refine ownsRow_setCell_below ?_ ?_ _); rotate_left; focus (first | omega | (simp; done) | (simp; omega))))); exact h9) hkp8 (fun r hr hm => by
                      have h9 := List.mem_singleton.1 hm
                      rw [own_some hr] at h9
                      exact HNE5.out h9.symm)
                    have O8 : Hid (Que w8 (w.heap.size + 1) 3 v8 (idx ((r2 ++ [j]).drop k))) := by
                      show Que _ _ _ _ _
                      rw [drop_snoc HP1.out, idx_snoc]
                      exact ho8
                    have N8 : Hid (v8.ownBlock ≠ some go) := by
                      show v8.ownBlock ≠ some go
                      intro h9
                      rcases hown8 with h8 | h8
                      · exact HNE5.out (h8.symm.trans h9)
                      · have h7 := Option.some.inj (h9.symm.trans h8)
                        (try simp at h7)
                        omega
                    have hg8' : go < w8.heap.size := by have h9 := hkp8.size; simp at h9; omega
                    clear ho8 hkp8 hown8 hql1 hql2
                    go_wp2_with fail
                    go_roundw
                    case rel => exact ⟨j + 1, hlt3, by go_num, by rw [HSC.out]; exact T8.out, by rw [HSC.out]; exact O8.out, N8.out, hb8, hk8, hg8'⟩
                    case measure => simp [intOf]; omega
                · have d6 : decide (z < 0) = false := decide_eq_false hzn
                  have hsc := scan_had (P := (nearQ l y) a) (g := (tc : Int)) (s := (s1, s2)) (j := j) (by rw [HR1.out, HZ.out]; exact hzn)
                  have HSC := Lib.hid hsc
                  clear hsc
                  go_wp2_with fail
                  refine region_calmA wr wr.heap.size [(⟨w.heap.size, 0, none⟩, .slice (some ⟨b, o, none⟩) n cap), (⟨w.heap.size, 1, none⟩, v'), (⟨go, j, none⟩, .int .i64 z)] (fun _ args v => v = .float .f32 (if args.size = 2 then apartQ x0 x1 else apartQ x0 x1 % 2147483648)) [] (by kernel_rfl) (by kernel_rfl) (by kernel_rfl) ⟨⟨by simp [Held, go_sem, *], by (repeat (first | (with_reducible exact Below.refl _ _) | (with_reducible refine Below.drewN ?_ _) | (with_reducible refine Below.drew ?_) | (with_reducible refine Below.allocS ?_ _) | ((with_reducible refine Below.setCell ?_ ?_ _); rotate_left; focus (first | omega | (simp; done) | (simp; omega))) | (with_reducible refine Below.step ?_ (by assumption))))⟩, by (first | (simp; done) | (simp; omega) | omega)⟩ ?_
                  repeat (first | (first | (refine calmA_plain rfl rfl ?_ (fun K hK w1 hC => ?_); (focus (intro _ _; simp [RA]; done)); have hC' := hC.1.1; simp only [Held, and_true] at hC'; go_wp2_with (first | (refine wpList_fbin rfl rfl rfl rfl rfl (fun r n9 hr => ?_)) | (refine wpList_widen rfl rfl Try.underlying44 Try.underlying22 rfl (fun r n9 hr => ?_))); refine ⟨rfl, (by first | exact Below.refl _ _ | exact below_drewN _), hK _ ?_⟩; clear hC hC' hK K w1) | (refine calmA_check rfl rfl rfl ?_ ?_; (focus (intro _ _; simp [RA]; done)))) | (refine calmA_skip rfl ?_ ?_; (focus (intro _ _; simp [RA]; done)); simp [Act.put]))
                  refine calmA_nil ?_
                  intro w6 hC9 hF9
                  have hB6' : Below wr.heap.size wr w6 := hC9.1.2
                  clear hC9 hF9 hc3 g0 g1 hH5 e0 e1
                  have Y0 := Lib.hid (ownsRow_below O5.out hB6')
                  have Y1 := Lib.hid (O6.out.below hB6')
                  have hB6 : Below w.heap.size w w6 := hBr5.trans (hB6'.mono (by omega))
                  have HK6 := Lib.hid (Held.below hB6' HH5.out)
                  have hz6 : go < w6.heap.size := Nat.lt_of_lt_of_le hg5 hB6'.size
                  have hzw6 := hB6.size
                  go_wp2_with fail
                  go_roundw
                  case rel => exact ⟨j + 1, hlt3, by go_num, by rw [HSC.out, HR1.out]; exact Y0.out, by rw [HSC.out, HR2'.out]; exact Y1.out, HNE5.out, hB6, HK6.out, hz6⟩
                  case measure => simp [intOf]; omega
              · obtain rfl : n = j := by omega
                have d5 : decide ((n : Int) < (n : Int)) = false := decide_eq_false (by omega)
                have hst := bfs_step (P := (nearQ l y)) (g := (tc : Int)) hk2.out HFS.out.len
                dsimp only at hst
                rw [HBF.out, ha.out] at hst
                have HST := Lib.hid hst
                clear hst
                by_cases hcq : cq = 1
                · subst hcq
                  obtain rfl : K2 = 1 := by have := HK2.out; omega
                  have hE2 : r2.drop (k + 1) = [] := by
                    have h9 := HK2.out
                    rw [idx_len] at h9
                    exact List.eq_nil_of_length_eq_zero (by omega)
                  have HE2 := Lib.hid hE2
                  clear hE2
                  go_wp2_with fail
                  go_roundg (n - k)
                  case measure => omega
                  case rel => exact ⟨k + 1, r1, r2, by omega, by omega, by have h9 := HF5'.out; rw [← HR1.out, ← HR2'.out]; exact h9, by rw [← HR1.out, ← HR2'.out]; exact HST.out.symm, O5.out, by rw [HE2.out]; exact Que.nil _ _, HNE5.out, hBr5, HH5.out, hg5⟩
                · have hqt := HT2.out hcq
                  rw [show (idx (r2.drop (k + 1))).length = K2 - 1 by have := HK2.out; omega] at hqt
                  have HQT := Lib.hid hqt
                  clear hqt
                  go_wp2_with fail
                  go_roundg (n - k)
                  case measure => omega
                  case rel => exact ⟨k + 1, r1, r2, by omega, by omega, by have h9 := HF5'.out; rw [← HR1.out, ← HR2'.out]; exact h9, by rw [← HR1.out, ← HR2'.out]; exact HST.out.symm, O5.out, HQT.out, HNE5.out, hBr5, HH5.out, hg5⟩
          · have hE : (s1, s2) = S := by rw [← HBF.out]; exact (bfs_done (by dsimp only; exact hlt2)).symm
            have hG := grps_new HT.out (show (ts, tc).1.getD i 0 < 0 by dsimp only; rw [HX.out]; exact HX0.out)
            dsimp only at hG
            rw [HS.out, ← hE] at hG
            have HG := Lib.hid hG
            rw [List.drop_eq_nil_of_le (by omega)] at o4
            obtain ⟨aq, cq, rfl, _⟩ := o4
            rw [show (idx []).length = 0 from rfl]
            clear hG hE
            go_wp2_with fail
            go_roundw
            case rel => exact ⟨i + 1, hlt, by go_num, by rw [HG.out]; go_num, by rw [HG.out]; exact O3.out, hBr3, HH3.out, hg3⟩
            case measure => simp [intOf]; omega
      · have d3 : decide (0 ≤ x) = true := decide_eq_true (by omega)
        have hG := grps_had (P := (nearQ l y)) (n := n) (i := i) (by rw [HT.out]; dsimp only; rw [HX.out]; exact hx0)
        rw [HT.out] at hG
        have HG := Lib.hid hG
        clear hG
        go_wp2_with fail
        go_roundw
        case rel => exact ⟨i + 1, hlt, by go_num, by rw [HG.out], by rw [HG.out]; exact O2.out, hBr2, HH2.out, hg2⟩
        case measure => simp [intOf]; omega
    · obtain rfl : n = i := by omega
      have d2 : decide ((n : Int) < (n : Int)) = false := decide_eq_false (by omega)
      go_wp2_with fail
      refine bodyPost_ret (v := ?_) (by first | (simp [results, Try.results44, go_sem, *]; rfl) | (simp [results, Try.results44, go_sem, *]; done)) rfl ?_
      rw [show groupsOf l y n = (ts, tc) from HT.out]
      exact ⟨_, rfl, ownsRow_base (base := w.heap.size + 1) (by omega) O2.out, hBr2⟩

end Go.Proofs.Ytifdcoambehekaa
