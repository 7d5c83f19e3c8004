/-
  The walk of the program's fire.
-/
import Derived.Test.YtbmabpnolheghaaPe
import Derived.Test.YtbmabpnolheghaaTc
set_option linter.unusedVariables false
set_option linter.unusedSimpArgs false
namespace Go.Proofs.Ytbmabpnolheghaa
open Go.RowKit

theorem num_of {x : Nat} (h : finB .f32 x = true) : ∃ s m p, FloatKind.f32.decode x = .number s m p := by
  unfold finB finD at h
  cases hd : FloatKind.f32.decode x with
  | number s m p => exact ⟨s, m, p, rfl⟩
  | infinity s => rw [hd] at h; cases h
  | nan s p => rw [hd] at h; cases h
theorem signed_nonneg (m k : Nat) : 0 ≤ Ieee.signed false m k := by rw [signed_pos]; exact Int.natCast_nonneg _
theorem signed_nonpos (m k : Nat) : Ieee.signed true m k ≤ 0 := by
  have h : Ieee.signed true m k = -((m <<< k : Nat) : Int) := rfl
  rw [h]
  exact Int.neg_nonpos_of_nonneg (Int.natCast_nonneg _)
/-- The greater of two numbers, the first of which bears no minus. -/
theorem max_fin {P : Program} {m x : Nat} (hm : finB .f32 m = true) (hx : finB .f32 x = true) (hp : (FloatKind.f32.decode m).neg = false) (ts : Array TypeId) (t : TypeId) (w : World) : (Builtin.max_ ts t #[.float .f32 m, .float .f32 x]).run P w = .ok (.float .f32 (if gtF .f32 x m then x else m)) w := by
  obtain ⟨s, a, i, hd⟩ := num_of hm
  obtain ⟨u, b, j, he⟩ := num_of hx
  have hs : s = false := by rw [hd] at hp; exact hp
  subst hs
  have h1 : FloatKind.f32.format.order m x = some (compare (Ieee.signed false a (i - min i j).toNat) (Ieee.signed u b (j - min i j).toNat)) := by
    show (FloatKind.f32.decode m).order (FloatKind.f32.decode x) = _
    rw [hd, he]
    rfl
  have h2 : gtF .f32 x m = (compare (Ieee.signed u b (j - min i j).toNat) (Ieee.signed false a (i - min i j).toNat) == .gt) := by
    show ((FloatKind.f32.decode x).order (FloatKind.f32.decode m) == some .gt) = _
    rw [hd, he]
    show (some (compare (Ieee.signed u b (j - min j i).toNat) (Ieee.signed false a (i - min j i).toNat)) == some .gt) = _
    rw [Int.min_comm j i]
    cases compare (Ieee.signed u b (j - min i j).toNat) (Ieee.signed false a (i - min i j).toNat) <;> rfl
  rw [h2]
  generalize Ieee.signed false a (i - min i j).toNat = A at h1
  generalize Ieee.signed u b (j - min i j).toNat = B at h1
  rcases Int.lt_trichotomy A B with h | h | h
  · rw [show compare A B = .lt from Int.compare_eq_lt.2 h] at h1
    rw [show compare B A = .gt from Int.compare_eq_gt.2 h]
    simp [Builtin.max_, Builtin.max2, h1, Sem.run_pure]
  · subst h
    rw [show compare A A = .eq from Int.compare_eq_eq.2 rfl] at h1 ⊢
    simp [Builtin.max_, Builtin.max2, h1, hd, Ieee.Datum.neg, Sem.run_pure]
  · rw [show compare A B = .gt from Int.compare_eq_gt.2 h] at h1
    rw [show compare B A = .lt from Int.compare_eq_lt.2 h]
    simp [Builtin.max_, Builtin.max2, h1, Sem.run_pure]
theorem most_pos {l : List Nat} {n : Nat} (h : ∀ i, i < n → finB .f32 (turnAt l i) = true) : ∀ i, i ≤ n → (FloatKind.f32.decode (mostQ l i)).neg = false
  | 0, _ => by show (FloatKind.f32.decode 0).neg = false; decide +kernel
  | i + 1, hi => by
    have ih := most_pos h i (by omega)
    unfold mostQ
    split
    · next hgt =>
      obtain ⟨s, a, p, hd⟩ := num_of (most_fin h i (by omega))
      obtain ⟨u, b, q, he⟩ := num_of (h i (by omega))
      have hs : s = false := by rw [hd] at ih; exact ih
      subst hs
      rw [he]
      cases u
      · rfl
      · exfalso
        have h2 : ((FloatKind.f32.decode (turnAt l i)).order (FloatKind.f32.decode (mostQ l i)) == some .gt) = true := hgt
        rw [hd, he] at h2
        have h3 : compare (Ieee.signed true b (q - min q p).toNat) (Ieee.signed false a (p - min q p).toNat) = .gt := by
          have h4 : (some (compare (Ieee.signed true b (q - min q p).toNat) (Ieee.signed false a (p - min q p).toNat)) == some Ordering.gt) = true := h2
          revert h4
          cases compare (Ieee.signed true b (q - min q p).toNat) (Ieee.signed false a (p - min q p).toNat) <;> simp
        have h5 := Int.compare_eq_gt.1 h3
        have := signed_nonneg a (p - min q p).toNat
        have := signed_nonpos b (q - min q p).toNat
        omega
    · exact ih

theorem kept_two' {w0 a b : World} {g x : Nat} (h : Kept w0 a [some g]) (k : Kept a b [some x]) (hx : w0.heap.size ≤ x) : Kept w0 b [some g] :=
  ⟨k.os.trans h.os, k.tape.trans h.tape, k.output.trans h.output, Nat.le_trans h.size k.size, fun i hi hne => (k.block i (Nat.lt_of_lt_of_le hi h.size) (fun hm => by have h9 := List.mem_singleton.1 hm; cases h9; omega)).trans (h.block i hi hne)⟩
theorem kept_below1 {w w' : World} {g : Nat} (h : Below w.heap.size w w') : Kept w w' [some g] := ⟨h.os, h.tape, h.output, h.size, fun i hi _ => h.block i hi⟩
theorem map_nodup {ks : List Nat} (h : ks.Nodup) : (ks.map Int.ofNat).Nodup := List.pairwise_map.2 (List.Pairwise.imp (fun hab e => hab (Int.ofNat.inj e)) h)
theorem sort_fire {l : List Nat} {n J : Nat} {s1 s2 : List Nat} (h : firedF l n J = (s1, s2)) (hf : FitF n (s1, s2)) : sortI (s2.map Int.ofNat) = setF ((firedF l n J).2.map Int.ofNat) := by
  rw [h]
  exact sort_set (map_nodup hf.2.2.1)

set_option maxRecDepth 100000 in
set_option maxHeartbeats 8000000 in
theorem implFire_any (v1 : Value) (n cap g p J Bc : Nat) (l : List Nat) (w : World) (ho : w.ownsRow Bc 113 2 (.slice (some ⟨g, 0, none⟩) n cap) n (fl l)) (hp : Held [(⟨p, 0, none⟩, .slice (some ⟨g, 0, none⟩) n cap), (⟨p, 1, none⟩, v1)] w) (hpg : p ≠ g) (hn0 : 0 < n) (hn : n ≤ 12) (hf : ∀ i, i < n → finB .f32 (turnAt l i) = true) (hJ : finB .f32 J = true) :
    Calls Try.prog 115 #[.pointer (some ⟨p, 0, none⟩), .float .f32 J] w fun e w' => ∃ gl cl, e = .returned (.tuple #[.slice (some ⟨gl, 0, none⟩) (firedF l n J).2.length cl, .float .f32 (timeQ l n)]) ∧ w'.ownsRow w.heap.size 2 1 (.slice (some ⟨gl, 0, none⟩) (firedF l n J).2.length cl) (firedF l n J).2.length (il (setF ((firedF l n J).2.map Int.ofNat))) ∧ w'.ownsRow Bc 113 2 (.slice (some ⟨g, 0, none⟩) n cap) n (fl (fireL l n J)) ∧ Kept w w' [some g] := by
  have hl : l.length = n * 2 := by have := ho.1; rw [fl_length] at this; exact this
  have hg := (ownsRow_lt ho g rfl).2
  have hpz : p < w.heap.size := hp.1.1
  have HO := Lib.hid ho
  have HP := Lib.hid hp
  have HF := Lib.hid hf
  have HL := Lib.hid hl
  have HJ := Lib.hid hJ
  have htime := time_some hf
  obtain ⟨T, hT⟩ : ∃ T, timeQ l n = T := ⟨_, rfl⟩
  obtain ⟨M, hM⟩ : ∃ M, mostQ l n = M := ⟨_, rfl⟩
  rw [hT, hM] at htime
  have hTn : isN .f32 T = false := by rw [← hT]; exact some_not_nan (time_some hf)
  have HTN := Lib.hid hTn
  have HT := Lib.hid hT
  have HM := Lib.hid hM
  rw [hT]
  obtain ⟨i0, hi0, hz0, hz1, hz2⟩ := info_parts info_Int64
  simp only [Held, and_true] at hp
  clear ho hf hl hJ hT hM hTn
  go_enter Try.func115, Try.ntmps115
  go_wp2_with fail
  go_loopw [22, 6] (fun iv mv wr => ∃ i : Nat, i ≤ n ∧ iv = .int .i64 (i : Int) ∧ mv = .float .f32 (mostQ l i) ∧ Below w.heap.size w wr) (fun iv _ _ => n - (intOf iv).toNat)
  case atStart => exact ⟨0, Nat.zero_le _, rfl, rfl, Below.refl _ _⟩
  case round =>
    obtain ⟨i, hi, rfl, rfl, hBr⟩ := hrel
    have hzr := hBr.size
    obtain ⟨W1, rfl⟩ : ∃ W1, W1 = wr := ⟨wr, rfl⟩
    have HO1 := Lib.hid (ownsRow_below HO.out hBr)
    have HP1 := Lib.hid (Held.below hBr HP.out)
    by_cases hlt : i < n
    · have d1 : decide ((i : Int) < (n : Int)) = true := decide_eq_true (by omega)
      obtain ⟨f0, z0⟩ := fl_turn HO1.out HL.out hlt
      obtain ⟨y1, hy1⟩ : ∃ y, Hid (l.getD (i * 2 + 1) 0 = y) := ⟨_, rfl⟩
      have f1 := (HO1.out.cellAt (i * 2 + 1) (by omega)).trans (fl_get (l := l) (by rw [HL.out]; omega))
      rw [hy1.out] at f1
      have z1 := HO1.out.frozenAt (i * 2 + 1)
      have hmx : ∀ ts t w, (Builtin.max_ ts t #[.float .f32 (mostQ l i), .float .f32 (turnAt l i)]).run Try.prog w = .ok (.float .f32 (mostQ l (i + 1))) w := max_fin (most_fin HF.out i hi) (HF.out i hlt) (most_pos HF.out i hi)
      obtain ⟨x, hx⟩ : ∃ x, turnAt l i = x := ⟨_, rfl⟩
      obtain ⟨m, hm⟩ : ∃ m, mostQ l i = m := ⟨_, rfl⟩
      obtain ⟨m', hm'⟩ : ∃ m, mostQ l (i + 1) = m := ⟨_, rfl⟩
      rw [hx] at f0
      rw [hx, hm, hm'] at hmx
      rw [hm]
      have HM' := Lib.hid hm'
      clear hx hm hm'
      go_wp2_with fail
      go_roundw
      case rel => exact ⟨i + 1, hlt, by go_num, by rw [HM'.out], by (repeat (first | assumption | (with_reducible exact Below.refl _ _) | (with_reducible refine Below.drewN ?_ _) | (with_reducible refine Below.drew ?_) | (with_reducible refine Below.allocS ?_ _) | ((with_reducible refine Below.setCell ?_ ?_ _); rotate_left; focus (first | omega | (simp; done) | (simp; omega))) | (with_reducible refine Below.step ?_ (by assumption))))⟩
      case measure => simp [intOf]; omega
    · obtain rfl : n = i := by omega
      have d1 : decide ((n : Int) < (n : Int)) = false := decide_eq_false (by omega)
      have hq1 := HP1.out
      have hg1 : g < W1.heap.size := by omega
      simp only [Held, and_true] at hq1
      rw [HM.out]
      go_wp2_with (first | (refine wpList_fsome rfl rfl rfl rfl rfl htime ?_))
      go_loopw [39, 9] (fun iv uv wr => ∃ (i : Nat) (gl cl : Nat), i ≤ n ∧ iv = .int .i64 (i : Int) ∧ uv = .slice (some ⟨gl, 0, none⟩) (startF l M T i).2.length cl ∧ wr.ownsRow w.heap.size 2 1 (.slice (some ⟨gl, 0, none⟩) (startF l M T i).2.length cl) (startF l M T i).2.length (idx (startF l M T i).2) ∧ wr.ownsRow Bc 113 2 (.slice (some ⟨g, 0, none⟩) n cap) n (fl (startF l M T i).1) ∧ Kept w wr [some g] ∧ Held [(⟨p, 0, none⟩, .slice (some ⟨g, 0, none⟩) n cap), (⟨p, 1, none⟩, v1)] wr) (fun iv _ _ => n - (intOf iv).toNat)
      case atStart =>
        refine ⟨0, _, _, Nat.zero_le _, rfl, rfl, own_empty _ _ _ _ rfl hzr, HO1.out.alloc _, (kept_below1 hBr).below1 (Below.allocS (Below.refl _ _) _), Held.below (Below.allocS (Below.refl _ _) _) HP1.out⟩
      case round =>
        obtain ⟨i, gl, cl, hi, rfl, rfl, o1, o2, hK, hH⟩ := hrel
        obtain ⟨hS1, hS2, hS3⟩ := start_parts HL.out HF.out HTN.out i hi (M := M)
        have hSl := hS1.len
        have hS0 := hS1.1
        have HS1 := Lib.hid hS1
        obtain ⟨r1, hr1⟩ : ∃ r, (startF l M T i).1 = r := ⟨_, rfl⟩
        obtain ⟨r2, hr2⟩ : ∃ r, (startF l M T i).2 = r := ⟨_, rfl⟩
        have hti := hS2 i (Nat.le_refl _)
        rw [hr1] at o2 hS0 hti
        rw [hr2] at o1 hSl ⊢
        have hzr := hK.size
        have HO2 := Lib.hid o2
        have HO1 := Lib.hid o1
        have HKK := Lib.hid hK
        have HH := Lib.hid hH
        have HR1 := Lib.hid hr1
        have HR2 := Lib.hid hr2
        simp only [Held, and_true] at hH
        clear hS1 hS2 hS3 hK hr1 hr2 hq1
        by_cases hlt2 : i < n
        · have d2 : decide ((i : Int) < (n : Int)) = true := decide_eq_true (by omega)
          obtain ⟨f0, z0⟩ := fl_turn o2 hS0 hlt2
          obtain ⟨x, hx⟩ : ∃ x, turnAt l i = x := ⟨_, rfl⟩
          rw [hti, hx] at f0
          have hadd : floatBits .add .f32 x T = some (fbin .add .f32 x T) := by rw [← hx]; exact add_some' (HF.out i hlt2) HTN.out
          obtain ⟨y, hy⟩ : ∃ y, fbin .add .f32 x T = y := ⟨_, rfl⟩
          rw [hy] at hadd
          have hst : startF l M T (i + 1) = (r1.set (i * 2) y, if eqF .f32 x M then r2 ++ [i] else r2) := by
            show (addAt (startF l M T i).1 i T, if eqF .f32 (turnAt (startF l M T i).1 i) M then (startF l M T i).2 ++ [i] else (startF l M T i).2) = _
            rw [HR1.out, HR2.out, hti, hx]
            unfold addAt
            rw [hti, hx, hy]
          have HST := Lib.hid hst
          have HTX : Hid (turnAt r1 i = x) := hti.trans hx
          clear hx hy hst hti o1 o2
          cases e1 : eqF .f32 x M
          · have HE : Hid (eqF .f32 x M = false) := e1
            go_wp2_with (first | (refine wpList_fsome rfl rfl rfl rfl rfl hadd ?_))
            obtain ⟨C9, K8, K9⟩ := fire_store HO2.out HKK.out (i * 2) y
            have L9 := row_over HO1.out K8 hg
            have H9 := held_over K8 hpg HH.out
            go_roundw
            case rel => exact ⟨i + 1, gl, cl, hlt2, by go_num, by rw [HST.out, HE.out]; rfl, by rw [HST.out, HE.out]; exact L9, by rw [HST.out]; exact C9, K9, H9⟩
            case measure => simp [intOf]; omega
          · have HE : Hid (eqF .f32 x M = true) := e1
            go_wp2_with (first | (at_builtin; refine wpList_append_own_at _ rfl _ _ 80 rfl (w.heap.size) 2 i0 (.int .i64 0) 1 8 Try.underlying80 hi0 hz0 hz1 hz2 rfl (by decide) _ r2.length (idx r2) rfl (by have h9 := HO1.out; (repeat (first | (with_reducible refine World.ownsRow.alloc ?_ _) | (with_reducible refine ownsRow_drewN ?_ _) | ((with_reducible refine ownsRow_setCell_below ?_ ?_ _); rotate_left; focus (first | omega | (simp; done) | (simp; omega))))); exact h9) ⟨_, 0, none⟩ 1 1 [.int .i64 (i : Int)] rfl rfl (cell_one_at _ _ (by simp)) (int_one _) (by simp only [maxLen]; omega) (by omega) (by first | omega | (simp; omega)) ?_))
            intro v8 w8 ho8 hg8 _ _
            have a1 : (wr.alloc (.cells #[.int .i64 (i : Int)] 2)).ownsRow w.heap.size 2 1 (.slice (some ⟨gl, 0, none⟩) r2.length cl) r2.length (idx r2) := HO1.out.alloc _
            have C8 := Lib.hid (clocks_grow (HO2.out.alloc _) hg8 a1 hg)
            have K8 := Lib.hid (fire_grow (HKK.out.below1 (Below.allocS (Below.refl _ _) _)) hg8 a1 (Nat.le_refl _))
            have H8 := held_grow hg8 a1 hpz (Held.below (Below.allocS (Below.refl _ _) _) HH.out)
            have HH8 := Lib.hid H8
            have o8 : w8.ownsRow w.heap.size 2 1 v8 (r2 ++ [i]).length (idx (r2 ++ [i])) := by
              rw [idx_snoc, List.length_append]
              exact ho8
            obtain ⟨g8, c8, e8⟩ := ownsRow_own o8 (by simp)
            subst e8
            have O8 := Lib.hid o8
            obtain ⟨f8, z8⟩ := fl_turn C8.out hS0 hlt2
            rw [HTX.out] at f8
            simp only [Held, and_true] at H8
            clear ho8 hg8 a1 f0 z0 hH o8
            go_wp2_with (first | (refine wpList_fsome rfl rfl rfl rfl rfl hadd ?_))
            obtain ⟨C9, K7, K9⟩ := fire_store C8.out K8.out (i * 2) y
            have L9 := row_over O8.out K7 hg
            have H9 := held_over K7 hpg HH8.out
            go_roundw
            case rel => exact ⟨i + 1, g8, c8, hlt2, by go_num, by rw [HST.out, HE.out]; simp, by rw [HST.out, HE.out]; exact L9, by rw [HST.out]; exact C9, K9, H9⟩
            case measure => simp [intOf]; omega
        · obtain rfl : n = i := by omega
          have d2 : decide ((n : Int) < (n : Int)) = false := decide_eq_false (by omega)
          obtain ⟨S, hS⟩ : ∃ S, firedF l n J = S := ⟨_, rfl⟩
          have hE : startF l M T n = (r1, r2) := Prod.ext HR1.out HR2.out
          have HS : Hid (roundsF J n n 0 (r1, r2) = S) := by show _ = _; rw [← hS, ← hE]; unfold firedF; rw [HT.out, HM.out]
          have HSF := Lib.hid hS
          have HF0 : Hid (FitF n (r1, r2)) := by have h9 := HS1.out; rw [hE] at h9; exact h9
          clear hS hE o1 o2 hti
          go_wp2_with fail
          go_loopw [13, 9] (fun kv uv wr => ∃ (k : Nat) (s1 s2 : List Nat) (gl cl : Nat), kv = .int .i64 (k : Int) ∧ uv = .slice (some ⟨gl, 0, none⟩) s2.length cl ∧ k ≤ n ∧ FitF n (s1, s2) ∧ roundsF J n (n - k) k (s1, s2) = S ∧ wr.ownsRow w.heap.size 2 1 (.slice (some ⟨gl, 0, none⟩) s2.length cl) s2.length (idx s2) ∧ wr.ownsRow Bc 113 2 (.slice (some ⟨g, 0, none⟩) n cap) n (fl s1) ∧ Kept w wr [some g] ∧ Held [(⟨p, 0, none⟩, .slice (some ⟨g, 0, none⟩) n cap), (⟨p, 1, none⟩, v1)] wr) (fun kv _ _ => n + 1 - (intOf kv).toNat)
          case atStart => exact ⟨0, r1, r2, gl, cl, rfl, rfl, Nat.zero_le _, HF0.out, HS.out, HO1.out, HO2.out, HKK.out, HH.out⟩
          case round =>
            obtain ⟨k, s1, s2, gl, cl, rfl, rfl, hkn, hs, hb, o1, o2, hK, hH⟩ := hrel
            have HFS := Lib.hid hs
            have HB := Lib.hid hb
            have HC := Lib.hid o2
            have HKK := Lib.hid hK
            have HH := Lib.hid hH
            have hzr := hK.size
            have hsl := hs.len
            have hs0 := hs.1
            dsimp only at hsl hs0
            obtain ⟨K, hKe⟩ : ∃ K, K = s2.length := ⟨_, rfl⟩
            rw [← hKe] at o1 hsl ⊢
            have HL1 := Lib.hid o1
            have HKE := Lib.hid hKe
            simp only [Held, and_true] at hH
            clear hs hb o1 o2 hK hKe
            by_cases hlt2 : k < K
            · have d3 : decide ((k : Int) < (K : Int)) = true := decide_eq_true (by omega)
              have hk2 : Hid (k < (s1, s2).2.length) := by show _ < _; rw [← HKE.out]; exact hlt2
              go_wp2_with (first | (go_at_call 158; refine (many_any (.slice (some ⟨g, 0, none⟩) n cap) v1 n 0 (fl s1) p _ (ownsRow_rowAt HC.out) HH.out).mono ?_; rintro e w' ⟨rfl, e9⟩; subst w'))
              go_loopw [75, 9] (fun iv uv w4 => ∃ (i : Nat) (gl cl : Nat), i ≤ n ∧ iv = .int .i64 (i : Int) ∧ uv = .slice (some ⟨gl, 0, none⟩) (pushF J (s1, s2) i).2.length cl ∧ w4.ownsRow w.heap.size 2 1 (.slice (some ⟨gl, 0, none⟩) (pushF J (s1, s2) i).2.length cl) (pushF J (s1, s2) i).2.length (idx (pushF J (s1, s2) i).2) ∧ w4.ownsRow Bc 113 2 (.slice (some ⟨g, 0, none⟩) n cap) n (fl (pushF J (s1, s2) i).1) ∧ Kept w w4 [some g] ∧ Held [(⟨p, 0, none⟩, .slice (some ⟨g, 0, none⟩) n cap), (⟨p, 1, none⟩, v1)] w4) (fun iv _ _ => n - (intOf iv).toNat)
              case atStart => exact ⟨0, gl, cl, Nat.zero_le _, rfl, by rw [HKE.out]; rfl, by have h9 := HL1.out; rw [HKE.out] at h9; exact h9, HC.out, HKK.out, HH.out⟩
              case round =>
                obtain ⟨i, gl, cl, hi, rfl, rfl, ol, oc, hK4, hH4⟩ := hrel
                obtain ⟨hp1, hp2⟩ := push_parts HFS.out HJ.out i hi
                have HPP := Lib.hid hp1
                have hpl := hp1.1
                have hplen := hp1.len
                obtain ⟨q1, hq1⟩ : ∃ q, (pushF J (s1, s2) i).1 = q := ⟨_, rfl⟩
                obtain ⟨q2, hq2⟩ : ∃ q, (pushF J (s1, s2) i).2 = q := ⟨_, rfl⟩
                rw [hq1] at oc hpl
                rw [hq2] at ol hplen ⊢
                have HQ1 := Lib.hid hq1
                have HQ2 := Lib.hid hq2
                obtain ⟨K2, hK2⟩ : ∃ k, k = q2.length := ⟨_, rfl⟩
                rw [← hK2] at ol hplen ⊢
                have HKL := Lib.hid hK2
                have HOL := Lib.hid ol
                have HOC := Lib.hid oc
                have HK4 := Lib.hid hK4
                have HH4 := Lib.hid hH4
                have hz4 := hK4.size
                simp only [Held, and_true] at hH4
                by_cases hlt3 : i < n
                · have d4 : decide ((i : Int) < (n : Int)) = true := decide_eq_true (by omega)
                  obtain ⟨f0, z0⟩ := fl_turn oc hpl hlt3
                  obtain ⟨x, hx⟩ : ∃ x, turnAt q1 i = x := ⟨_, rfl⟩
                  rw [hx] at f0
                  have hxn : isN .f32 x = false := by rw [← hx, ← hq1]; exact hp1.2.1 i hlt3
                  have hadd := add_some hxn HJ.out
                  obtain ⟨y, hy⟩ : ∃ y, fbin .add .f32 x J = y := ⟨_, rfl⟩
                  rw [hy] at hadd
                  have HX : Hid (turnAt (pushF J (s1, s2) i).1 i = x) := by show _ = _; rw [hq1]; exact hx
                  have HY := Lib.hid hy
                  have hin2 := push_has HFS.out HJ.out hlt3
                  dsimp only at hin2
                  rw [hq2] at hin2
                  clear hp1 hp2 hq1 hq2 ol oc hK4 hx hy hxn hK2
                  cases hin : decide (i ∈ s2)
                  · rw [hin] at hin2
                    have HIN2 := Lib.hid hin2
                    have hpo := push_out HFS.out HJ.out hlt3 hin HX.out HY.out
                    rw [HQ1.out, HQ2.out] at hpo
                    have HPO := Lib.hid hpo
                    clear hpo hin hin2
                    cases e1 : geF .f32 y 1065353216
                    · have HE : Hid (geF .f32 y 1065353216 = false) := e1
                      go_wp2_with (first | (refine wpList_fsome rfl rfl rfl rfl rfl hadd ?_) | (go_at_call 159; refine (slicesContains_any (.slice (some ⟨gl, 0, none⟩) K2 cl) K2 (q2.map Int.ofNat) (i : Int) _ (ownsRow_rowAt HOL.out) ⟨_, _, rfl⟩).mono ?_; rintro e w' ⟨rfl, e9⟩; subst w'; rw [mem_int, HIN2.out]))
                      obtain ⟨C9, K8, K9⟩ := fire_store HOC.out HK4.out (i * 2) y
                      have L9 := row_over HOL.out K8 hg
                      have H9 := held_over K8 hpg HH4.out
                      go_roundw
                      case rel => exact ⟨i + 1, gl, cl, hlt3, by go_num, by rw [HPO.out, HE.out, HKL.out]; rfl, by rw [HPO.out, HE.out]; have h9 := L9; rw [HKL.out] at h9; exact h9, by rw [HPO.out]; exact C9, K9, H9⟩
                      case measure => simp [intOf]; omega
                    · have HE : Hid (geF .f32 y 1065353216 = true) := e1
                      obtain ⟨C9, K8, K9⟩ := fire_store HOC.out HK4.out (i * 2) y
                      have M7 := Lib.hid (row_over HOL.out K8 hg)
                      have H7 := Lib.hid (held_over K8 hpg HH4.out)
                      have HC9 := Lib.hid C9
                      have HK9 := Lib.hid K9
                      clear C9 K8 K9
                      go_wp2_with (first | (refine wpList_fsome rfl rfl rfl rfl rfl hadd ?_) | (go_at_call 159; refine (slicesContains_any (.slice (some ⟨gl, 0, none⟩) K2 cl) K2 (q2.map Int.ofNat) (i : Int) _ (ownsRow_rowAt HOL.out) ⟨_, _, rfl⟩).mono ?_; rintro e w' ⟨rfl, e9⟩; subst w'; rw [mem_int, HIN2.out]) | (at_builtin; refine wpList_append_own_at _ rfl _ _ 80 rfl (w.heap.size) 2 i0 (.int .i64 0) 1 8 Try.underlying80 hi0 hz0 hz1 hz2 rfl (by decide) _ K2 (idx q2) rfl (by have h9 := HOL.out; (repeat (first | (with_reducible refine World.ownsRow.alloc ?_ _) | (with_reducible refine ownsRow_drewN ?_ _) | ((with_reducible refine ownsRow_setCell_below ?_ ?_ _); rotate_left; focus (first | omega | (simp; done) | (simp; omega))))); exact h9) ⟨_, 0, none⟩ 1 1 [.int .i64 (i : Int)] rfl rfl (cell_one_at _ _ (by simp)) (int_one _) (by simp only [maxLen]; omega) (by omega) (by first | omega | (simp; omega)) ?_))
                      intro v8 w8 ho8 hg8 _ _
                      have a1 : ((wr.setCell ⟨g, i * 2, none⟩ (.float .f32 y)).alloc (.cells #[.int .i64 (i : Int)] 2)).ownsRow w.heap.size 2 1 (.slice (some ⟨gl, 0, none⟩) K2 cl) K2 (idx q2) := M7.out.alloc _
                      have C8 := clocks_grow (HC9.out.alloc _) hg8 a1 hg
                      have K8 := fire_grow (HK9.out.below1 (Below.allocS (Below.refl _ _) _)) hg8 a1 (Nat.le_refl _)
                      have H8 := held_grow hg8 a1 hpz (Held.below (Below.allocS (Below.refl _ _) _) H7.out)
                      have O8 : w8.ownsRow w.heap.size 2 1 v8 (q2 ++ [i]).length (idx (q2 ++ [i])) := by
                        rw [idx_snoc, List.length_append, ← HKL.out]
                        exact ho8
                      obtain ⟨g8, c8, e8⟩ := ownsRow_own O8 (by simp)
                      subst e8
                      have HC8 := Lib.hid C8
                      have HK8 := Lib.hid K8
                      have HH8 := Lib.hid H8
                      have HO8 := Lib.hid O8
                      clear ho8 hg8 a1 C8 K8 H8 O8
                      go_wp2_with fail
                      go_roundw
                      case rel => exact ⟨i + 1, g8, c8, hlt3, by go_num, by rw [HPO.out, HE.out]; simp, by rw [HPO.out, HE.out]; exact HO8.out, by rw [HPO.out]; exact HC8.out, HK8.out, HH8.out⟩
                      case measure => simp [intOf]; omega
                  · rw [hin] at hin2
                    have HIN2 := Lib.hid hin2
                    have hpi := push_in HFS.out HJ.out hlt3 hin
                    have HPI := Lib.hid hpi
                    clear hpi hin hin2
                    go_wp2_with (first | (go_at_call 159; refine (slicesContains_any (.slice (some ⟨gl, 0, none⟩) K2 cl) K2 (q2.map Int.ofNat) (i : Int) _ (ownsRow_rowAt HOL.out) ⟨_, _, rfl⟩).mono ?_; rintro e w' ⟨rfl, e9⟩; subst w'; rw [mem_int, HIN2.out]))
                    go_roundw
                    case rel => exact ⟨i + 1, gl, cl, hlt3, by go_num, by rw [HPI.out, HQ2.out, HKL.out], by rw [HPI.out, HQ2.out]; have h9 := HOL.out; rw [HKL.out] at h9; exact h9, by rw [HPI.out, HQ1.out]; exact HOC.out, HK4.out, HH4.out⟩
                    case measure => simp [intOf]; omega
                · obtain rfl : n = i := by omega
                  have d4 : decide ((n : Int) < (n : Int)) = false := decide_eq_false (by omega)
                  have hrs := rounds_step (J := J) hk2.out HFS.out.len
                  rw [HB.out] at hrs
                  have HRS := Lib.hid hrs
                  have hpe : pushF J (s1, s2) n = (q1, q2) := Prod.ext hq1 hq2
                  have HPE := Lib.hid hpe
                  clear hp1 hp2 hq1 hq2 ol oc hK4 hrs hpe
                  go_wp2_with fail
                  go_roundw
                  case rel => exact ⟨k + 1, q1, q2, gl, cl, by go_num, by rw [HKL.out], by omega, by have h9 := HPP.out; rw [HPE.out] at h9; exact h9, by rw [← HPE.out]; exact HRS.out.symm, by have h9 := HOL.out; rw [HKL.out] at h9; exact h9, HOC.out, HK4.out, HH4.out⟩
                  case measure => simp [intOf]; omega
            · have d3 : decide ((k : Int) < (K : Int)) = false := decide_eq_false (by omega)
              have hE : (s1, s2) = S := by rw [← HB.out]; exact (rounds_done (by dsimp only; rw [← HKE.out]; exact hlt2)).symm
              have HE := Lib.hid hE
              clear hE
              go_wp2_with fail
              go_loopw [109] (fun jv wr => ∃ j : Nat, j ≤ K ∧ jv = .int .i64 (j : Int) ∧ wr.ownsRow w.heap.size 2 1 (.slice (some ⟨gl, 0, none⟩) K cl) K (idx s2) ∧ wr.ownsRow Bc 113 2 (.slice (some ⟨g, 0, none⟩) n cap) n (fl (zeroF s1 s2 j)) ∧ Kept w wr [some g] ∧ Held [(⟨p, 0, none⟩, .slice (some ⟨g, 0, none⟩) n cap), (⟨p, 1, none⟩, v1)] wr) (fun jv _ => K - (intOf jv).toNat)
              case atStart => exact ⟨0, Nat.zero_le _, rfl, HL1.out, HC.out, HKK.out, HH.out⟩
              case round =>
                obtain ⟨j, hj, rfl, o1, o2, hK, hH⟩ := hrel
                have HC2 := Lib.hid o2
                have HL2 := Lib.hid o1
                have HK2 := Lib.hid hK
                have HH2 := Lib.hid hH
                have hz2' := hK.size
                have hgw : g < wr.heap.size := by omega
                simp only [Held, and_true] at hH
                by_cases hlt5 : j < K
                · have d5 : decide ((j : Int) < (K : Int)) = true := decide_eq_true (by omega)
                  have hj2 : j < s2.length := by rw [← HKE.out]; exact hlt5
                  obtain ⟨a, ha⟩ : ∃ a, s2.getD j 0 = a := ⟨_, rfl⟩
                  have han : a < n := by rw [← ha]; exact HFS.out.2.2.2 _ (getD_mem s2 hj2)
                  have g0 := (o1.cellAt j (by omega)).trans (idx_get s2 hj2)
                  have g1 := o1.frozenAt j
                  rw [ha] at g0
                  obtain ⟨f0, z0⟩ := fl_turn o2 (by rw [zero_len]; exact hs0) han
                  obtain ⟨x, hx⟩ : ∃ x, turnAt (zeroF s1 s2 j) a = x := ⟨_, rfl⟩
                  rw [hx] at f0
                  have HA := Lib.hid ha
                  clear o1 o2 hK ha hx
                  go_wp2_with fail
                  obtain ⟨C9, K8, K9⟩ := fire_store HC2.out HK2.out (a * 2) 0
                  have L9 := row_over HL2.out K8 hg
                  have H9 := held_over K8 hpg HH2.out
                  go_roundw
                  case rel => exact ⟨j + 1, hlt5, by go_num, L9, by unfold zeroF; rw [HA.out]; exact C9, K9, H9⟩
                  case measure => simp [intOf]; omega
                · obtain rfl : K = j := by omega
                  have d5 : decide ((K : Int) < (K : Int)) = false := decide_eq_false (by omega)
                  have hFE : firedF l n J = (s1, s2) := HSF.out.trans HE.out.symm
                  have hgl := (ownsRow_lt o1 gl rfl).1
                  have hsf := sort_fire hFE HFS.out
                  have HFE := Lib.hid hFE
                  have HSO := Lib.hid hsf
                  clear hFE o1 o2 hK hsf
                  go_wp2_with (first | (go_at_call 160; refine (slicesSort_any w.heap.size gl K cl (s2.map Int.ofNat) _ HL2.out (by omega)).mono ?_; rintro e w6 ⟨rfl, so, sk⟩))
                  refine bodyPost_ret (v := ?_) (by first | (simp [results, Try.results115, go_sem, *]; rfl) | (simp [results, Try.results115, go_sem, *]; done)) rfl ?_
                  have hKf : (firedF l n J).2.length = K := by rw [HFE.out]; exact HKE.out.symm
                  rw [hKf, ← HSO.out]
                  refine ⟨gl, cl, rfl, so, ?_, kept_two' HK2.out sk hgl⟩
                  unfold fireL
                  rw [hKf, HFE.out]
                  exact ownsRow_kept HC2.out sk (fun r hr hm => by have h8 := own_some hr; have h9 := List.mem_singleton.1 hm; cases h9; omega)

end Go.Proofs.Ytbmabpnolheghaa
