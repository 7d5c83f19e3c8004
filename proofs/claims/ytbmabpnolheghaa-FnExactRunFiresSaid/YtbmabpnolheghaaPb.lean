/-
  The walk of the reference's fire.
-/
import Derived.Test.YtbmabpnolheghaaPa
set_option linter.unusedVariables false
set_option linter.unusedSimpArgs false
namespace Go.Proofs.Ytbmabpnolheghaa
open Go.RowKit

def idx (ks : List Nat) : List Value := il (ks.map Int.ofNat)
theorem idx_get (ks : List Nat) {k : Nat} (h : k < ks.length) : (idx ks)[k]? = some (.int .i64 ((ks.getD k 0 : Nat) : Int)) := by
  unfold idx
  rw [il_get (by simpa using h)]
  congr 2
  rw [List.getD_eq_getElem?_getD, List.getElem?_map, List.getElem?_eq_getElem h, List.getD_eq_getElem?_getD, List.getElem?_eq_getElem h]
  rfl
theorem getD_mem (ks : List Nat) {k : Nat} (h : k < ks.length) : ks.getD k 0 ∈ ks := by
  rw [List.getD_eq_getElem?_getD, List.getElem?_eq_getElem h]
  exact List.getElem_mem h
theorem kept_one (w : World) (p j : Nat) (a : Value) : Kept w (w.setCell ⟨p, j, none⟩ a) [some p] :=
  ⟨rfl, rfl, rfl, by simp, fun k hk hne => Below.heap_setCell _ _ _ _ (fun e => hne (by rw [e]; exact List.mem_singleton.2 rfl))⟩
theorem idx_snoc (ks : List Nat) (k : Nat) : idx (ks ++ [k]) = idx ks ++ [.int .i64 ((k : Nat) : Int)] := by
  unfold idx il
  rw [List.map_append, List.map_append]
  rfl
theorem own_empty (W : World) (g base : Nat) (e : TypeId) (hg : g = W.heap.size) (hb : base ≤ g) : (W.alloc (.cells #[] e)).ownsRow base e 1 (.slice (some ⟨g, 0, none⟩) 0 0) 0 [] := by
  subst hg
  exact World.ownsRow_made (base := base) (e := e) (size := 1) W #[] 0 hb (Nat.zero_le _) (by simp)
theorem int_one (x : Int) : ∀ u ∈ [Value.int .i64 x], u.oneCell' = true := by
  intro u hu
  rw [List.mem_singleton.1 hu]
  rfl
theorem cell_one_at {w : World} {g : Nat} (x : Value) (t : TypeId) (hg : g = w.heap.size) : ∀ j u, [x][j]? = some u → (w.alloc (.cells #[x] t)).cell? ((⟨g, 0, none⟩ : Addr).add j) = some u := by
  subst hg
  exact cell_one_new _ _ _
theorem ownsRow_len {w : World} {base : Nat} {e : TypeId} {c n : Nat} {v : Value} {xs : List Value} (h : w.ownsRow base e c v n xs) : ∃ ao d, v = .slice ao n d := by
  obtain ⟨_, h2⟩ := h
  rcases h2 with ⟨rfl, rfl⟩ | ⟨g, cap, cur, rfl, _⟩
  · exact ⟨_, _, rfl⟩
  · exact ⟨_, _, rfl⟩
theorem take_has (os : List Int) (k : Int) {j : Nat} (h : j < os.length) : decide (k ∈ os.take (j + 1)) = (decide (k ∈ os.take j) || os.getD j 0 == k) := by
  have e : os.take (j + 1) = os.take j ++ [os.getD j 0] := by
    rw [List.take_add_one, List.getElem?_eq_getElem h, List.getD_eq_getElem?_getD, List.getElem?_eq_getElem h]
    rfl
  have h2 : k ∈ os.take j ++ [os.getD j 0] ↔ (k ∈ os.take j ∨ os.getD j 0 = k) := by
    rw [List.mem_append, List.mem_singleton]
    exact or_congr Iff.rfl eq_comm
  rw [e, Bool.eq_iff_iff]
  simp only [decide_eq_true_eq, Bool.or_eq_true, beq_iff_eq]
  exact h2
section
variable {P : Program} {ops : Array Oper} {Q : Exit → Act → World → Prop} {a : Act} {w : World} {rest : List Oper} {o : Oper}
/-- '/' and the like on floats whose answer is known: no draw. -/
theorem wpList_fsome {op : BinOp} {t t' : TypeId} {x y : Operand} {k : FloatKind} {bx by' r : Nat} (hop : o.op = Op.binOp op t x y t') (hx : a.eval x = .float k bx) (hy : a.eval y = .float k by')
    (ho : arithOp op = true) (hg : o.guard = none) (hr : floatBits op k bx by' = some r)
    (hK : wpList P ops Q rest (a.put o.dst (.float k r)) w) : wpList P ops Q (o :: rest) a w := by
  refine wpList_plain hg fun K hK' => ?_
  unfold Oper.wp
  have hgd : eqGuard op t x y (.float k bx) (.float k by') = pure () := by cases op <;> simp_all [arithOp, eqGuard] <;> rfl
  simp [execOp, hop, hx, hy, hgd, run_float_arith w op t k bx by' _ hr, Result.andThen]
  exact hK' _ _ hK
end

set_option maxRecDepth 100000 in
set_option maxHeartbeats 8000000 in
theorem l00Has_any (u : Value) (n : Nat) (os : List Int) (k : Int) (w : World) (h : RowAt w u 1 n (il os)) : Calls Try.prog 156 #[u, .int .i64 k] w fun e w' => e = .returned (.bool (decide (k ∈ os))) ∧ w' = w := by
  obtain ⟨h1, h2, ao, cap, rfl, h3⟩ := h
  rw [il_length] at h1
  have h63 : n ≤ 9223372036854775807 := h2
  have HL : Hid (os.length = n) := by show _ = _; omega
  have H3 := Lib.hid h3
  clear h3 h1
  go_enter Try.func156, Try.ntmps156
  go_wp2_with fail
  go_loopw [5] (fun jv wr => ∃ j : Nat, j ≤ n ∧ jv = .int .i64 (j : Int) ∧ decide (k ∈ os.take j) = false ∧ wr = w) (fun jv _ => n - (intOf jv).toNat)
  case atStart => exact ⟨0, Nat.zero_le _, rfl, by simp, rfl⟩
  case round =>
    obtain ⟨j, hj, rfl, hn, e9⟩ := hrel
    subst wr
    have HN := Lib.hid hn
    clear hn
    by_cases hlt : j < n
    · have d1 : decide ((j : Int) < (n : Int)) = true := decide_eq_true (by omega)
      obtain ⟨b, o, rfl, hbl, hcell⟩ := H3.out.resolve_left (by omega)
      obtain ⟨x, hx⟩ : ∃ x, Hid (os.getD j 0 = x) := ⟨_, rfl⟩
      have f0 := hcell j (.int .i64 x) (by rw [← hx.out]; exact il_get (by rw [HL.out]; exact hlt))
      have HC := Lib.hid hcell
      clear hcell
      have hs := take_has os k (j := j) (by rw [HL.out]; exact hlt)
      rw [HN.out, hx.out, Bool.false_or] at hs
      cases e2 : (x == k)
      · rw [e2] at hs
        have HS := Lib.hid hs
        clear hs
        go_wp2_with fail
        go_roundw
        case rel => exact ⟨j + 1, hlt, by go_num, HS.out, by first | rfl | trivial⟩
        case measure => simp [intOf]; omega
      · rw [e2] at hs
        have HS : Hid (decide (k ∈ os) = true) := decide_eq_true (List.mem_of_mem_take (of_decide_eq_true hs))
        clear hs
        go_wp2_with fail
        go_ret
        exact ⟨ret_bool HS.out.symm, rfl⟩
    · obtain rfl : j = n := by omega
      have d1 : decide ((j : Int) < (j : Int)) = false := decide_eq_false (by omega)
      have hs := HN.out
      rw [← HL.out, List.take_length] at hs
      have HS := Lib.hid hs
      clear hs
      go_wp2_with fail
      go_ret
      exact ⟨ret_bool HS.out.symm, rfl⟩

theorem idx_append (a b : List Nat) : idx (a ++ b) = idx a ++ idx b := by
  unfold idx il
  rw [List.map_append, List.map_append]
theorem idx_length (a : List Nat) : (idx a).length = a.length := by unfold idx; rw [il_length, List.length_map]
theorem mem_int (i : Nat) (ks : List Nat) : decide ((i : Int) ∈ ks.map Int.ofNat) = decide (i ∈ ks) := by
  apply decide_eq_decide.2
  constructor
  · intro h
    obtain ⟨a, ha, he⟩ := List.mem_map.1 h
    have : a = i := Int.ofNat.inj he
    exact this ▸ ha
  · intro h
    exact List.mem_map.2 ⟨i, h, rfl⟩
theorem fl_turn {w : World} {base g n c : Nat} {e : TypeId} {l : List Nat} (h : w.ownsRow base e 2 (.slice (some ⟨g, 0, none⟩) n c) n (fl l)) (hl : l.length = n * 2) {i : Nat} (hi : i < n) : w.cell? ⟨g, i * 2, none⟩ = some (.float .f32 (turnAt l i)) ∧ w.frozen? ⟨g, i * 2, none⟩ = false :=
  ⟨(h.cellAt (i * 2) (by omega)).trans (fl_get (by omega)), h.frozenAt _⟩
theorem add_stored {w : World} {base g n c : Nat} {e : TypeId} {l : List Nat} (h : w.ownsRow base e 2 (.slice (some ⟨g, 0, none⟩) n c) n (fl l)) (i t : Nat) : (w.setCell ⟨g, i * 2, none⟩ (.float .f32 (fbin .add .f32 (turnAt l i) t))).ownsRow base e 2 (.slice (some ⟨g, 0, none⟩) n c) n (fl (addAt l i t)) ∧ w.grownBy (w.setCell ⟨g, i * 2, none⟩ (.float .f32 (fbin .add .f32 (turnAt l i) t))) (some g) := by
  have S := h.stored (i * 2) (.float .f32 (fbin .add .f32 (turnAt l i) t))
  rw [fl_set] at S
  exact S

theorem idx_ones (m : List Nat) : ∀ u ∈ idx m, u.oneCell' = true := by
  intro u hu
  unfold idx il at hu
  obtain ⟨a, _, rfl⟩ := List.mem_map.1 hu
  rfl
theorem push_in {J i n : Nat} {s : List Nat × List Nat} (hs : FitF n s) (hJ : finB .f32 J = true) (hi : i < n) (h : decide (i ∈ s.2) = true) : pushF J s (i + 1) = pushF J s i := by
  show (if decide (i ∈ (pushF J s i).2) then _ else _) = _
  rw [push_has hs hJ hi, h]
  rfl
theorem push_out {J i n x y : Nat} {s : List Nat × List Nat} (hs : FitF n s) (hJ : finB .f32 J = true) (hi : i < n) (h : decide (i ∈ s.2) = false) (hx : turnAt (pushF J s i).1 i = x) (hy : fbin .add .f32 x J = y) : pushF J s (i + 1) = ((pushF J s i).1.set (i * 2) y, if geF .f32 y 1065353216 then (pushF J s i).2 ++ [i] else (pushF J s i).2) := by
  have hl : i * 2 < (pushF J s i).1.length := by rw [(push_parts hs hJ i (Nat.le_of_lt hi)).1.1]; omega
  have h1 : addAt (pushF J s i).1 i J = (pushF J s i).1.set (i * 2) y := by unfold addAt; rw [hx, hy]
  have h2 : turnAt (addAt (pushF J s i).1 i J) i = y := by rw [turn_addAt _ _ _ _ hl, if_pos rfl, hx, hy]
  show (if decide (i ∈ (pushF J s i).2) then _ else (addAt (pushF J s i).1 i J, if geF .f32 (turnAt (addAt (pushF J s i).1 i J) i) 1065353216 then _ else _)) = _
  rw [push_has hs hJ hi, h, h2, h1]
  rfl
theorem fire_store {w0 w : World} {Bc g n cap : Nat} {E : TypeId} {l' : List Nat} (ho : w.ownsRow Bc E 2 (.slice (some ⟨g, 0, none⟩) n cap) n (fl l')) (hK : Kept w0 w [some g]) (j y : Nat) : (w.setCell ⟨g, j, none⟩ (.float .f32 y)).ownsRow Bc E 2 (.slice (some ⟨g, 0, none⟩) n cap) n (fl (l'.set j y)) ∧ Kept w (w.setCell ⟨g, j, none⟩ (.float .f32 y)) [some g] ∧ Kept w0 (w.setCell ⟨g, j, none⟩ (.float .f32 y)) [some g] := by
  have S := ho.stored j (.float .f32 y)
  rw [fl_set] at S
  have k : Kept w (w.setCell ⟨g, j, none⟩ (.float .f32 y)) [some g] := Kept.of_grown S.2
  exact ⟨S.1, k, hK.trans1 k⟩
theorem row_over {w w' : World} {base g n : Nat} {e : TypeId} {v : Value} {xs : List Value} (h : w.ownsRow base e 1 v n xs) (k : Kept w w' [some g]) (hg : g < base) : w'.ownsRow base e 1 v n xs :=
  ownsRow_kept h k (fun i hi hm => by have h1 := (ownsRow_lt h i hi).1; have h2 := List.mem_singleton.1 hm; cases h2; omega)
theorem held_over {w w' : World} {g p : Nat} {a b : Value} (k : Kept w w' [some g]) (hpg : p ≠ g) (h : Held [(⟨p, 0, none⟩, a), (⟨p, 1, none⟩, b)] w) : Held [(⟨p, 0, none⟩, a), (⟨p, 1, none⟩, b)] w' :=
  Held_kept k (fun q hq hm => by
    have h2 := List.mem_singleton.1 hm
    simp only [List.mem_cons, List.not_mem_nil, or_false] at hq
    rcases hq with rfl | rfl <;> (cases h2; exact hpg rfl)) h
theorem fire_grow {w0 a b : World} {g base' n : Nat} {e : TypeId} {v : Value} {xs : List Value} (hK : Kept w0 a [some g]) (hg : a.grownBy b v.ownBlock) (ho : a.ownsRow base' e 1 v n xs) (hb : w0.heap.size ≤ base') : Kept w0 b [some g] := by
  have k := Kept.of_grown hg
  refine ⟨k.os.trans hK.os, k.tape.trans hK.tape, k.output.trans hK.output, Nat.le_trans hK.size k.size, fun i hi hne => (k.block i (Nat.lt_of_lt_of_le hi hK.size) (fun hm => ?_)).trans (hK.block i hi hne)⟩
  have h2 := List.mem_singleton.1 hm
  have h3 := (ownsRow_lt ho i h2.symm).1
  omega
theorem clocks_grow {a b : World} {Bc g n cap base' m : Nat} {E e : TypeId} {l' : List Nat} {v : Value} {xs : List Value} (h : a.ownsRow Bc E 2 (.slice (some ⟨g, 0, none⟩) n cap) n (fl l')) (hg : a.grownBy b v.ownBlock) (ho : a.ownsRow base' e 1 v m xs) (hb : g < base') : b.ownsRow Bc E 2 (.slice (some ⟨g, 0, none⟩) n cap) n (fl l') :=
  ownsRow_kept h (Kept.of_grown hg) (fun i hi hm => by
    have h2 := List.mem_singleton.1 hm
    have h3 := (ownsRow_lt ho i h2.symm).1
    rw [own_some hi] at h3
    omega)
theorem held_grow {a b : World} {p base' m : Nat} {e : TypeId} {x y v : Value} {xs : List Value} (hg : a.grownBy b v.ownBlock) (ho : a.ownsRow base' e 1 v m xs) (hb : p < base') (h : Held [(⟨p, 0, none⟩, x), (⟨p, 1, none⟩, y)] a) : Held [(⟨p, 0, none⟩, x), (⟨p, 1, none⟩, y)] b :=
  Held_kept (Kept.of_grown hg) (fun q hq hm => by
    have h2 := List.mem_singleton.1 hm
    have h3 := (ownsRow_lt ho q.1.block h2.symm).1
    simp only [List.mem_cons, List.not_mem_nil, or_false] at hq
    rcases hq with rfl | rfl <;> (dsimp only at h3; omega)) h

set_option maxRecDepth 100000 in
set_option maxHeartbeats 8000000 in
theorem l05Fire_any (v1 : Value) (n cap g p J Bc : Nat) (l : List Nat) (w : World) (ho : w.ownsRow Bc 113 2 (.slice (some ⟨g, 0, none⟩) n cap) n (fl l)) (hp : Held [(⟨p, 0, none⟩, .slice (some ⟨g, 0, none⟩) n cap), (⟨p, 1, none⟩, v1)] w) (hpg : p ≠ g) (hn0 : 0 < n) (hn : n ≤ 12) (hf : ∀ i, i < n → finB .f32 (turnAt l i) = true) (hJ : finB .f32 J = true) :
    Calls Try.prog 111 #[.pointer (some ⟨p, 0, none⟩), .float .f32 J] w fun e w' => ∃ u, e = .returned (.tuple #[u, .float .f32 (timeQ l n)]) ∧ w'.ownsRow w.heap.size 2 1 u (firedF l n J).2.length (idx (firedF l n J).2) ∧ w'.ownsRow Bc 113 2 (.slice (some ⟨g, 0, none⟩) n cap) n (fl (fireL l n J)) ∧ Kept w w' [some g] := by
  have hl : l.length = n * 2 := by have := ho.1; rw [fl_length] at this; exact this
  have hg := (ownsRow_lt ho g rfl).2
  have hpz : p < w.heap.size := hp.1.1
  have HO := Lib.hid ho
  have HP := Lib.hid hp
  have HF := Lib.hid hf
  have HL := Lib.hid hl
  have HJ := Lib.hid hJ
  have htime := time_some hf
  obtain ⟨T, hT⟩ : ∃ T, timeQ l n = T := ⟨_, rfl⟩
  obtain ⟨M, hM⟩ : ∃ M, mostQ l n = M := ⟨_, rfl⟩
  rw [hT, hM] at htime
  have hTn : isN .f32 T = false := by rw [← hT]; exact some_not_nan (time_some hf)
  have HTN := Lib.hid hTn
  have HT := Lib.hid hT
  have HM := Lib.hid hM
  rw [hT]
  obtain ⟨i0, hi0, hz0, hz1, hz2⟩ := info_parts info_Int64
  simp only [Held, and_true] at hp
  clear ho hf hl hJ hT hM hTn
  go_enter Try.func111, Try.ntmps111
  go_wp2_with fail
  go_loopw [20, 6] (fun iv mv wr => ∃ i : Nat, i ≤ n ∧ iv = .int .i64 (i : Int) ∧ mv = .float .f32 (mostQ l i) ∧ wr = w) (fun iv _ _ => n - (intOf iv).toNat)
  case atStart => exact ⟨0, Nat.zero_le _, rfl, rfl, rfl⟩
  case round =>
    obtain ⟨i, hi, rfl, rfl, e9⟩ := hrel
    subst wr
    by_cases hlt : i < n
    · have d1 : decide ((i : Int) < (n : Int)) = true := decide_eq_true (by omega)
      obtain ⟨f0, z0⟩ := fl_turn HO.out HL.out hlt
      obtain ⟨x, hx⟩ : ∃ x, turnAt l i = x := ⟨_, rfl⟩
      obtain ⟨m, hm⟩ : ∃ m, mostQ l i = m := ⟨_, rfl⟩
      rw [hx] at f0
      rw [hm]
      have HX := Lib.hid hx
      have HMI := Lib.hid hm
      clear hx hm
      cases e1 : gtF .f32 x m
      · go_wp2_with fail
        go_roundw
        case rel => exact ⟨i + 1, hlt, by go_num, by unfold mostQ; rw [HX.out, HMI.out, e1]; rfl, by first | rfl | trivial⟩
        case measure => simp [intOf]; omega
      · go_wp2_with fail
        go_roundw
        case rel => exact ⟨i + 1, hlt, by go_num, by unfold mostQ; rw [HX.out, HMI.out, e1]; rfl, by first | rfl | trivial⟩
        case measure => simp [intOf]; omega
    · obtain rfl : n = i := by omega
      have d1 : decide ((n : Int) < (n : Int)) = false := decide_eq_false (by omega)
      rw [HM.out]
      go_wp2_with (first | (refine wpList_fsome rfl rfl rfl rfl rfl htime ?_))
      go_loopw [50, 9] (fun iv uv wr => ∃ i : Nat, i ≤ n ∧ iv = .int .i64 (i : Int) ∧ wr.ownsRow w.heap.size 2 1 uv (startF l M T i).2.length (idx (startF l M T i).2) ∧ wr.ownsRow Bc 113 2 (.slice (some ⟨g, 0, none⟩) n cap) n (fl (startF l M T i).1) ∧ Kept w wr [some g] ∧ Held [(⟨p, 0, none⟩, .slice (some ⟨g, 0, none⟩) n cap), (⟨p, 1, none⟩, v1)] wr) (fun iv _ _ => n - (intOf iv).toNat)
      case atStart =>
        refine ⟨0, Nat.zero_le _, rfl, own_empty _ _ _ _ rfl (Nat.le_refl _), HO.out.alloc _, Kept.of_alloc (Kept.refl1 _ _), by simp [Held, go_sem, *]⟩
      case round =>
        obtain ⟨i, hi, rfl, o1, o2, hK, hH⟩ := hrel
        obtain ⟨hS1, hS2, hS3⟩ := start_parts HL.out HF.out HTN.out i hi (M := M)
        have hSl := hS1.len
        have hS0 := hS1.1
        have HS1 := Lib.hid hS1
        obtain ⟨r1, hr1⟩ : ∃ r, (startF l M T i).1 = r := ⟨_, rfl⟩
        obtain ⟨r2, hr2⟩ : ∃ r, (startF l M T i).2 = r := ⟨_, rfl⟩
        have hti := hS2 i (Nat.le_refl _)
        rw [hr1] at o2 hS0 hti
        rw [hr2] at o1 hSl
        have hzr := hK.size
        have HO2 := Lib.hid o2
        have HO1 := Lib.hid o1
        have HKK := Lib.hid hK
        have HH := Lib.hid hH
        have HR1 := Lib.hid hr1
        have HR2 := Lib.hid hr2
        obtain ⟨la, lc, rfl⟩ := ownsRow_len o1
        simp only [Held, and_true] at hH
        clear hS1 hS2 hS3 hK hr1 hr2
        by_cases hlt2 : i < n
        · have d2 : decide ((i : Int) < (n : Int)) = true := decide_eq_true (by omega)
          obtain ⟨f0, z0⟩ := fl_turn o2 hS0 hlt2
          obtain ⟨x, hx⟩ : ∃ x, turnAt l i = x := ⟨_, rfl⟩
          rw [hti, hx] at f0
          have hadd : floatBits .add .f32 x T = some (fbin .add .f32 x T) := by rw [← hx]; exact add_some' (HF.out i hlt2) HTN.out
          obtain ⟨y, hy⟩ : ∃ y, fbin .add .f32 x T = y := ⟨_, rfl⟩
          rw [hy] at hadd
          have hst : startF l M T (i + 1) = (r1.set (i * 2) y, if eqF .f32 x M then r2 ++ [i] else r2) := by
            show (addAt (startF l M T i).1 i T, if eqF .f32 (turnAt (startF l M T i).1 i) M then (startF l M T i).2 ++ [i] else (startF l M T i).2) = _
            rw [HR1.out, HR2.out, hti, hx]
            unfold addAt
            rw [hti, hx, hy]
          have HST := Lib.hid hst
          have HTX : Hid (turnAt r1 i = x) := hti.trans hx
          clear hx hy hst hti o1 o2
          cases e1 : eqF .f32 x M
          · have HE : Hid (eqF .f32 x M = false) := e1
            go_wp2_with (first | (refine wpList_fsome rfl rfl rfl rfl rfl hadd ?_))
            obtain ⟨C9, K8, K9⟩ := fire_store HO2.out HKK.out (i * 2) y
            have L9 := row_over HO1.out K8 hg
            have H9 := held_over K8 hpg HH.out
            go_roundw
            case rel => exact ⟨i + 1, hlt2, by go_num, by rw [HST.out, HE.out]; exact L9, by rw [HST.out]; exact C9, K9, H9⟩
            case measure => simp [intOf]; omega
          · have HE : Hid (eqF .f32 x M = true) := e1
            go_wp2_with (first | (at_builtin; refine wpList_append_own_at _ rfl _ _ 80 rfl (w.heap.size) 2 i0 (.int .i64 0) 1 8 Try.underlying80 hi0 hz0 hz1 hz2 rfl (by decide) _ r2.length (idx r2) rfl (by have h9 := HO1.out; (repeat (first | (with_reducible refine World.ownsRow.alloc ?_ _) | (with_reducible refine ownsRow_drewN ?_ _) | ((with_reducible refine ownsRow_setCell_below ?_ ?_ _); rotate_left; focus (first | omega | (simp; done) | (simp; omega))))); exact h9) ⟨_, 0, none⟩ 1 1 [.int .i64 (i : Int)] rfl rfl (cell_one_at _ _ (by simp)) (int_one _) (by simp only [maxLen]; omega) (by omega) (by first | omega | (simp; omega)) ?_))
            intro v8 w8 ho8 hg8 _ _
            have a1 : (wr.alloc (.cells #[.int .i64 (i : Int)] 2)).ownsRow w.heap.size 2 1 (.slice la r2.length lc) r2.length (idx r2) := HO1.out.alloc _
            have C8 := Lib.hid (clocks_grow (HO2.out.alloc _) hg8 a1 hg)
            have K8 := Lib.hid (fire_grow (HKK.out.below1 (Below.allocS (Below.refl _ _) _)) hg8 a1 (Nat.le_refl _))
            have H8 := held_grow hg8 a1 hpz (Held.below (Below.allocS (Below.refl _ _) _) HH.out)
            have HH8 := Lib.hid H8
            have O8 : Hid (w8.ownsRow w.heap.size 2 1 v8 (r2 ++ [i]).length (idx (r2 ++ [i]))) := by
              show World.ownsRow _ _ _ _ _ _ _
              rw [idx_snoc, List.length_append]
              exact ho8
            obtain ⟨f8, z8⟩ := fl_turn C8.out hS0 hlt2
            rw [HTX.out] at f8
            simp only [Held, and_true] at H8
            clear ho8 hg8 a1 f0 z0 hH
            go_wp2_with (first | (refine wpList_fsome rfl rfl rfl rfl rfl hadd ?_))
            obtain ⟨C9, K7, K9⟩ := fire_store C8.out K8.out (i * 2) y
            have L9 := row_over O8.out K7 hg
            have H9 := held_over K7 hpg HH8.out
            go_roundw
            case rel => exact ⟨i + 1, hlt2, by go_num, by rw [HST.out, HE.out]; exact L9, by rw [HST.out]; exact C9, K9, H9⟩
            case measure => simp [intOf]; omega
        · obtain rfl : n = i := by omega
          have d2 : decide ((n : Int) < (n : Int)) = false := decide_eq_false (by omega)
          obtain ⟨S, hS⟩ : ∃ S, firedF l n J = S := ⟨_, rfl⟩
          have hE : startF l M T n = (r1, r2) := Prod.ext HR1.out HR2.out
          have HS : Hid (roundsF J n n 0 (r1, r2) = S) := by show _ = _; rw [← hS, ← hE]; unfold firedF; rw [HT.out, HM.out]
          have HSF := Lib.hid hS
          have HF0 : Hid (FitF n (r1, r2)) := by have h9 := HS1.out; rw [hE] at h9; exact h9
          clear hS hE o1 o2 hti
          go_wp2_with fail
          go_loopw [11, 9] (fun kv uv wr => ∃ (k : Nat) (s1 s2 : List Nat), kv = .int .i64 (k : Int) ∧ k ≤ n ∧ FitF n (s1, s2) ∧ roundsF J n (n - k) k (s1, s2) = S ∧ wr.ownsRow w.heap.size 2 1 uv s2.length (idx s2) ∧ wr.ownsRow Bc 113 2 (.slice (some ⟨g, 0, none⟩) n cap) n (fl s1) ∧ Kept w wr [some g] ∧ Held [(⟨p, 0, none⟩, .slice (some ⟨g, 0, none⟩) n cap), (⟨p, 1, none⟩, v1)] wr) (fun kv _ _ => n + 1 - (intOf kv).toNat)
          case atStart => exact ⟨0, r1, r2, rfl, Nat.zero_le _, HF0.out, HS.out, HO1.out, HO2.out, HKK.out, HH.out⟩
          case round =>
            obtain ⟨k, s1, s2, rfl, hkn, hs, hb, o1, o2, hK, hH⟩ := hrel
            have HFS := Lib.hid hs
            have HB := Lib.hid hb
            have HC := Lib.hid o2
            have HKK := Lib.hid hK
            have HH := Lib.hid hH
            have hzr := hK.size
            have hsl := hs.len
            have hs0 := hs.1
            dsimp only at hsl hs0
            obtain ⟨la, lc, rfl⟩ := ownsRow_len o1
            have hll := ownsRow_lt o1
            obtain ⟨K, hKe⟩ : ∃ K, K = s2.length := ⟨_, rfl⟩
            rw [← hKe] at o1 hsl hll ⊢
            have HL1 := Lib.hid o1
            have HKE := Lib.hid hKe
            have HLL := Lib.hid hll
            simp only [Held, and_true] at hH
            clear hs hb o1 o2 hK hKe hll
            by_cases hlt2 : k < K
            · have d3 : decide ((k : Int) < (K : Int)) = true := decide_eq_true (by omega)
              have hk2 : Hid (k < (s1, s2).2.length) := by show _ < _; rw [← HKE.out]; exact hlt2
              go_wp2_with fail
              go_loopw [92, 12] (fun iv uv w4 => ∃ (i : Nat) (m : List Nat) (gm cm : Nat), i ≤ n ∧ iv = .int .i64 (i : Int) ∧ uv = .slice (some ⟨gm, 0, none⟩) m.length cm ∧ (pushF J (s1, s2) i).2 = s2 ++ m ∧ w4.ownsRow w.heap.size 2 1 (.slice (some ⟨gm, 0, none⟩) m.length cm) m.length (idx m) ∧ w4.ownsRow w.heap.size 2 1 (.slice la K lc) K (idx s2) ∧ (Value.slice la K lc).ownBlock ≠ some gm ∧ w4.ownsRow Bc 113 2 (.slice (some ⟨g, 0, none⟩) n cap) n (fl (pushF J (s1, s2) i).1) ∧ Kept w w4 [some g] ∧ Held [(⟨p, 0, none⟩, .slice (some ⟨g, 0, none⟩) n cap), (⟨p, 1, none⟩, v1)] w4) (fun iv _ _ => n - (intOf iv).toNat)
              case atStart =>
                refine ⟨0, [], wr.heap.size, 0, Nat.zero_le _, rfl, rfl, (List.append_nil _).symm, own_empty _ _ _ _ rfl hzr, HL1.out.alloc _, fun e9 => by have h9 := (HLL.out _ e9).2; omega, HC.out.alloc _, HKK.out.below1 (Below.allocS (Below.refl _ _) _), Held.below (Below.allocS (Below.refl _ _) _) HH.out⟩
              case round =>
                obtain ⟨i, m, gm, cm, hi, rfl, rfl, hpm, om, ol, hne, oc, hK4, hH4⟩ := hrel
                obtain ⟨hp1, hp2⟩ := push_parts HFS.out HJ.out i hi
                have HPP := Lib.hid hp1
                have hpl := hp1.1
                have hplen := hp1.len
                rw [hpm, List.length_append, ← HKE.out] at hplen
                obtain ⟨q1, hq1⟩ : ∃ q, (pushF J (s1, s2) i).1 = q := ⟨_, rfl⟩
                rw [hq1] at oc hpl
                have HQ1 := Lib.hid hq1
                have HPM := Lib.hid hpm
                have HOM := Lib.hid om
                have HOL := Lib.hid ol
                have HNE := Lib.hid hne
                have HOC := Lib.hid oc
                have HK4 := Lib.hid hK4
                have HH4 := Lib.hid hH4
                have hz4 := hK4.size
                obtain ⟨ml, hml⟩ : ∃ k, k = m.length := ⟨_, rfl⟩
                rw [← hml] at om hplen HOM ⊢
                have HML := Lib.hid hml
                simp only [Held, and_true] at hH4
                by_cases hlt3 : i < n
                · have d4 : decide ((i : Int) < (n : Int)) = true := decide_eq_true (by omega)
                  obtain ⟨f0, z0⟩ := fl_turn oc hpl hlt3
                  obtain ⟨x, hx⟩ : ∃ x, turnAt q1 i = x := ⟨_, rfl⟩
                  rw [hx] at f0
                  have hxn : isN .f32 x = false := by rw [← hx, ← hq1]; exact hp1.2.1 i hlt3
                  have hadd := add_some hxn HJ.out
                  obtain ⟨y, hy⟩ : ∃ y, fbin .add .f32 x J = y := ⟨_, rfl⟩
                  rw [hy] at hadd
                  have HX : Hid (turnAt (pushF J (s1, s2) i).1 i = x) := by show _ = _; rw [hq1]; exact hx
                  have HY := Lib.hid hy
                  clear hp1 hp2 hq1 hpm om ol hne oc hK4 hml hx hy hxn
                  cases hin : decide (i ∈ s2)
                  · have hpo := push_out HFS.out HJ.out hlt3 hin HX.out HY.out
                    rw [HQ1.out] at hpo
                    have HPO := Lib.hid hpo
                    clear hpo
                    cases e1 : geF .f32 y 1065353216
                    · have HE : Hid (geF .f32 y 1065353216 = false) := e1
                      go_wp2_with (first | (refine wpList_fsome rfl rfl rfl rfl rfl hadd ?_) | (go_at_call 156; refine (l00Has_any (.slice la K lc) K (s2.map Int.ofNat) (i : Int) _ (ownsRow_rowAt HOL.out)).mono ?_; rintro e w' ⟨rfl, e9⟩; subst w'; rw [mem_int, hin]))
                      obtain ⟨C9, K8, K9⟩ := fire_store HOC.out HK4.out (i * 2) y
                      have L9 := row_over HOL.out K8 hg
                      have M9 := row_over HOM.out K8 hg
                      have H9 := held_over K8 hpg HH4.out
                      go_roundw
                      case rel => exact ⟨i + 1, m, gm, cm, hlt3, by go_num, by rw [HML.out], by rw [HPO.out, HE.out]; exact HPM.out, by rw [← HML.out]; exact M9, L9, HNE.out, by rw [HPO.out]; exact C9, K9, H9⟩
                      case measure => simp [intOf]; omega
                    · have HE : Hid (geF .f32 y 1065353216 = true) := e1
                      obtain ⟨C9, K8, K9⟩ := fire_store HOC.out HK4.out (i * 2) y
                      have M7 := Lib.hid (row_over HOM.out K8 hg)
                      have L7 := Lib.hid (row_over HOL.out K8 hg)
                      have H7 := Lib.hid (held_over K8 hpg HH4.out)
                      have HC9 := Lib.hid C9
                      have HK9 := Lib.hid K9
                      have hL8 := ownsRow_lt L7.out
                      have HL8 := Lib.hid hL8
                      clear C9 K8 K9 hL8
                      go_wp2_with (first | (refine wpList_fsome rfl rfl rfl rfl rfl hadd ?_) | (go_at_call 156; refine (l00Has_any (.slice la K lc) K (s2.map Int.ofNat) (i : Int) _ (ownsRow_rowAt HOL.out)).mono ?_; rintro e w' ⟨rfl, e9⟩; subst w'; rw [mem_int, hin]) | (at_builtin; refine wpList_append_own_at _ rfl _ _ 80 rfl (w.heap.size) 2 i0 (.int .i64 0) 1 8 Try.underlying80 hi0 hz0 hz1 hz2 rfl (by decide) _ ml (idx m) rfl (by have h9 := HOM.out; (repeat (first | (with_reducible refine World.ownsRow.alloc ?_ _) | (with_reducible refine ownsRow_drewN ?_ _) | ((with_reducible refine ownsRow_setCell_below ?_ ?_ _); rotate_left; focus (first | omega | (simp; done) | (simp; omega))))); exact h9) ⟨_, 0, none⟩ 1 1 [.int .i64 (i : Int)] rfl rfl (cell_one_at _ _ (by simp)) (int_one _) (by simp only [maxLen]; omega) (by omega) (by first | omega | (simp; omega)) ?_))
                      intro v8 w8 ho8 hg8 _ hown8
                      have a1 : ((wr.setCell ⟨g, i * 2, none⟩ (.float .f32 y)).alloc (.cells #[.int .i64 (i : Int)] 2)).ownsRow w.heap.size 2 1 (.slice (some ⟨gm, 0, none⟩) ml cm) ml (idx m) := M7.out.alloc _
                      have C8 := clocks_grow (HC9.out.alloc _) hg8 a1 hg
                      have K8 := fire_grow (HK9.out.below1 (Below.allocS (Below.refl _ _) _)) hg8 a1 (Nat.le_refl _)
                      have H8 := held_grow hg8 a1 hpz (Held.below (Below.allocS (Below.refl _ _) _) H7.out)
                      have L8 : w8.ownsRow w.heap.size 2 1 (.slice la K lc) K (idx s2) := ownsRow_kept (L7.out.alloc _) (Kept.of_grown hg8) (fun r hr hm => HNE.out (by have h9 := List.mem_singleton.1 hm; rw [h9] at hr; exact hr))
                      have O8 : w8.ownsRow w.heap.size 2 1 v8 (m ++ [i]).length (idx (m ++ [i])) := by
                        rw [idx_snoc, List.length_append, ← HML.out]
                        exact ho8
                      have N8 : (Value.slice la K lc).ownBlock ≠ v8.ownBlock := by
                        rcases hown8 with h8 | h8
                        · rw [h8]; exact HNE.out
                        · intro h9
                          rw [h8] at h9
                          have h7 := (HL8.out _ h9).2
                          simp at h7
                          try omega
                      obtain ⟨g8, c8, e8⟩ := ownsRow_own O8 (by simp)
                      subst e8
                      have HC8 := Lib.hid C8
                      have HK8 := Lib.hid K8
                      have HH8 := Lib.hid H8
                      have HL9 := Lib.hid L8
                      have HO8 := Lib.hid O8
                      have HN8 := Lib.hid N8
                      clear ho8 hg8 hown8 a1 C8 K8 H8 L8 O8 N8
                      go_wp2_with fail
                      go_roundw
                      case rel => exact ⟨i + 1, m ++ [i], g8, c8, hlt3, by go_num, rfl, by rw [HPO.out, HE.out, HPM.out, ← List.append_assoc]; rfl, HO8.out, HL9.out, HN8.out, by rw [HPO.out]; exact HC8.out, HK8.out, HH8.out⟩
                      case measure => simp [intOf]; omega
                  · have hpi := push_in HFS.out HJ.out hlt3 hin
                    have HPI := Lib.hid hpi
                    clear hpi
                    go_wp2_with (first | (go_at_call 156; refine (l00Has_any (.slice la K lc) K (s2.map Int.ofNat) (i : Int) _ (ownsRow_rowAt HOL.out)).mono ?_; rintro e w' ⟨rfl, e9⟩; subst w'; rw [mem_int, hin]))
                    go_roundw
                    case rel => exact ⟨i + 1, m, gm, cm, hlt3, by go_num, by rw [HML.out], by rw [HPI.out]; exact HPM.out, by rw [← HML.out]; exact HOM.out, HOL.out, HNE.out, by rw [HPI.out, HQ1.out]; exact HOC.out, HK4.out, HH4.out⟩
                    case measure => simp [intOf]; omega
                · obtain rfl : n = i := by omega
                  have d4 : decide ((n : Int) < (n : Int)) = false := decide_eq_false (by omega)
                  have hcm := om.cells (g := gm) rfl
                  have HCM := Lib.hid hcm
                  have hrs := rounds_step (J := J) hk2.out HFS.out.len
                  rw [HB.out] at hrs
                  have HRS := Lib.hid hrs
                  have hpe : pushF J (s1, s2) n = (q1, s2 ++ m) := Prod.ext hq1 hpm
                  have HPE := Lib.hid hpe
                  clear hp1 hp2 hq1 hpm om ol hne oc hK4 hml hrs hpe hcm
                  go_wp2_with (first | (at_builtin; refine wpList_append_own_at _ rfl _ _ 80 rfl w.heap.size 2 i0 (.int .i64 0) 1 8 Try.underlying80 hi0 hz0 hz1 hz2 rfl (by decide) _ K (idx s2) rfl HOL.out ⟨gm, 0, none⟩ ml cm (idx m) rfl (by rw [idx_length, HML.out, Nat.mul_one]) HCM.out (idx_ones m) (by simp only [maxLen]; omega) (by omega) (by first | omega | (simp; omega)) ?_))
                  intro v8 w8 ho8 hg8 _ hown8
                  have C8 := Lib.hid (clocks_grow HOC.out hg8 HOL.out hg)
                  have K8 := Lib.hid (fire_grow HK4.out hg8 HOL.out (Nat.le_refl _))
                  have H8 := Lib.hid (held_grow hg8 HOL.out hpz HH4.out)
                  have O8 : Hid (w8.ownsRow w.heap.size 2 1 v8 (s2 ++ m).length (idx (s2 ++ m))) := by
                    show World.ownsRow _ _ _ _ _ _ _
                    rw [idx_append, List.length_append, ← HKE.out, ← HML.out]
                    exact ho8
                  clear ho8 hg8 hown8
                  go_wp2_with fail
                  go_roundw
                  case rel => exact ⟨k + 1, q1, s2 ++ m, by go_num, by omega, by have h9 := HPP.out; rw [HPE.out] at h9; exact h9, by rw [← HPE.out]; exact HRS.out.symm, O8.out, C8.out, K8.out, H8.out⟩
                  case measure => simp [intOf]; omega
            · have d3 : decide ((k : Int) < (K : Int)) = false := decide_eq_false (by omega)
              have hE : (s1, s2) = S := by rw [← HB.out]; exact (rounds_done (by dsimp only; rw [← HKE.out]; exact hlt2)).symm
              have HE := Lib.hid hE
              clear hE
              go_wp2_with fail
              go_loopw [129] (fun jv wr => ∃ j : Nat, j ≤ K ∧ jv = .int .i64 (j : Int) ∧ wr.ownsRow w.heap.size 2 1 (.slice la K lc) K (idx s2) ∧ wr.ownsRow Bc 113 2 (.slice (some ⟨g, 0, none⟩) n cap) n (fl (zeroF s1 s2 j)) ∧ Kept w wr [some g] ∧ Held [(⟨p, 0, none⟩, .slice (some ⟨g, 0, none⟩) n cap), (⟨p, 1, none⟩, v1)] wr) (fun jv _ => K - (intOf jv).toNat)
              case atStart => exact ⟨0, Nat.zero_le _, rfl, HL1.out, HC.out, HKK.out, HH.out⟩
              case round =>
                obtain ⟨j, hj, rfl, o1, o2, hK, hH⟩ := hrel
                have HC2 := Lib.hid o2
                have HL2 := Lib.hid o1
                have HK2 := Lib.hid hK
                have HH2 := Lib.hid hH
                have hz2' := hK.size
                have hgw : g < wr.heap.size := by omega
                have hll := ownsRow_lt o1
                simp only [Held, and_true] at hH
                by_cases hlt5 : j < K
                · have d5 : decide ((j : Int) < (K : Int)) = true := decide_eq_true (by omega)
                  obtain ⟨gl, lc', e9⟩ := ownsRow_own o1 (by omega)
                  cases e9
                  have hgl := hll gl rfl
                  have hj2 : j < s2.length := by rw [← HKE.out]; exact hlt5
                  obtain ⟨a, ha⟩ : ∃ a, s2.getD j 0 = a := ⟨_, rfl⟩
                  have han : a < n := by rw [← ha]; exact HFS.out.2.2.2 _ (getD_mem s2 hj2)
                  have g0 := (o1.cellAt j (by omega)).trans (idx_get s2 hj2)
                  have g1 := o1.frozenAt j
                  rw [ha] at g0
                  obtain ⟨f0, z0⟩ := fl_turn o2 (by rw [zero_len]; exact hs0) han
                  obtain ⟨x, hx⟩ : ∃ x, turnAt (zeroF s1 s2 j) a = x := ⟨_, rfl⟩
                  rw [hx] at f0
                  have HA := Lib.hid ha
                  clear o1 o2 hK hll ha hx
                  go_wp2_with fail
                  refine region_calmA_tail 10 wr wr.heap.size [(⟨p, 0, none⟩, .slice (some ⟨g, 0, none⟩) n cap), (⟨p, 1, none⟩, v1), (⟨gl, j, none⟩, .int .i64 (a : Int)), (⟨g, a * 2, none⟩, .float .f32 x)] (fun _ _ _ => False) [] (by kernel_rfl) (by kernel_rfl) (by kernel_rfl) ⟨⟨by simp [Held, go_sem, *], by (repeat (first | (with_reducible exact Below.refl _ _) | (with_reducible refine Below.drewN ?_ _) | (with_reducible refine Below.drew ?_) | (with_reducible refine Below.allocS ?_ _) | ((with_reducible refine Below.setCell ?_ ?_ _); rotate_left; focus (first | omega | (simp; done) | (simp; omega))) | (with_reducible refine Below.step ?_ (by assumption))))⟩, by (first | (simp; done) | (simp; omega) | omega)⟩ ?_
                  simp only [List.take_succ_cons, List.take_zero, List.drop_succ_cons, List.drop_zero]
                  repeat (first | (refine calmA_plain rfl rfl ?_ (fun K hK w1 hC => ?_); (focus (intro _ _; simp [RA]; done)); have hC' := hC.1.1; simp only [Held, and_true] at hC'; go_wp2_with (first | (refine wpList_fbin rfl rfl rfl rfl rfl (fun r n9 hr => ?_)) | (refine wpList_widen rfl rfl Try.underlying85 Try.underlying23 rfl (fun r n9 hr => ?_))); refine ⟨rfl, (by first | exact Below.refl _ _ | exact below_drewN _), hK _ ?_⟩; clear hC hC' hK K w1) | (refine calmA_check rfl rfl rfl ?_ ?_; (focus (intro _ _; simp [RA]; done))))
                  refine calmA_nil ?_
                  intro w6 hC6 hF6
                  have hB6 : Below wr.heap.size wr w6 := hC6.1.2
                  have hk6 := hC6.1.1
                  simp only [Held, and_true] at hk6
                  have HC6 := Lib.hid (ownsRow_below HC2.out hB6)
                  have HL6 := Lib.hid (ownsRow_below HL2.out hB6)
                  have HK6 := Lib.hid (HK2.out.below1 hB6)
                  have HH6 := Lib.hid (Held.below hB6 HH2.out)
                  clear hC6 hF6 f0 z0 g0 g1 hH
                  go_wp2_with fail
                  obtain ⟨C9, K8, K9⟩ := fire_store HC6.out HK6.out (a * 2) 0
                  have L9 := row_over HL6.out K8 hg
                  have H9 := held_over K8 hpg HH6.out
                  go_roundw
                  case rel => exact ⟨j + 1, hlt5, by go_num, L9, by unfold zeroF; rw [HA.out]; exact C9, K9, H9⟩
                  case measure => simp [intOf]; omega
                · obtain rfl : K = j := by omega
                  have d5 : decide ((K : Int) < (K : Int)) = false := decide_eq_false (by omega)
                  have hFE : firedF l n J = (s1, s2) := HSF.out.trans HE.out.symm
                  have HFE := Lib.hid hFE
                  clear hFE
                  go_wp2_with fail
                  refine bodyPost_ret (v := ?_) (by first | (simp [results, Try.results111, go_sem, *]; rfl) | (simp [results, Try.results111, go_sem, *]; done)) rfl ?_
                  unfold fireL
                  rw [HFE.out]
                  refine ⟨_, rfl, ?_, ?_, HK2.out⟩
                  · rw [← HKE.out]; exact HL2.out
                  · rw [← HKE.out]; exact HC2.out

end Go.Proofs.Ytbmabpnolheghaa
