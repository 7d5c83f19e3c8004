/-
  Clocks that are put into another order: the program's walk, with a map.
-/
import Derived.Test.YtifdcoambehekaaTr
import Derived.Maps.Own
import Derived.Maps.OwnOps
import Derived.Maps.Views
set_option linter.unusedVariables false
set_option linter.unusedSimpArgs false
namespace Go.Proofs.Ytifdcoambehekaa
open Go.RowKit

open Go.Maps
theorem plainElem_bool {H : Type} {P : Program} {e : TypeId} (he : P.underlying e = some .bool) (x : Bool) : plainElem (H := H) P e (.bool x) = some (.lit (.bool x), []) := by simp [plainElem, he]
theorem plainElem_bool_inv {H : Type} {P : Program} {e : TypeId} (he : P.underlying e = some .bool) {v : Value} {d : DataW H} {ps : List MemPlace} (hv : plainElem P e v = some (d, ps)) : ∃ x, v = .bool x ∧ d = .lit (.bool x) := by
  unfold plainElem at hv
  rw [he] at hv
  cases v <;> simp at hv
  exact ⟨_, rfl, hv.1.symm⟩
theorem wpList_lookup_bool_g {H : Type} {P : Program} (w : World) {ops : Array Oper} {rest : List Oper} {o : Oper} {a : Act} {Q : Exit → Act → World → Prop} (m x : Operand) (t : TypeId) (hop : o.op = Op.lookup t m x false) (hw : Region.wanted o (yielded ops a.tmps) = true)
    (k e : TypeId) (K : Keyed P k) (ht : P.underlying t = some (.map k e)) (he : P.underlying e = some .bool) (hz : (zeroValue e).run P w = .ok (.bool false) w) (b n : Nat) (D : DataW H)
    (hm : a.eval m = .map (some b)) (hown : w.ownsMap P k (plainElem P e) b n D) (key : Value) (kl : Lit) (hx : a.eval x = key) (hkey : keyOf P k key = some kl) (c : Bool) (hc : D.atKey kl (.lit (.bool false)) = .lit (.bool c))
    (hK : wpList P ops Q rest (a.put o.dst (.bool c)) w) : wpList P ops Q (o :: rest) a w := by
  refine wpList_step fun K' hK' => ?_
  rw [if_pos hw]
  obtain ⟨v, ps, hrun, hv⟩ := hown.lookup K ht hz (plainElem_bool he false) hkey
  rw [hc] at hv
  obtain ⟨c', rfl, hc'⟩ := plainElem_bool_inv he hv
  cases hc'
  unfold Oper.wp
  simp [execOp, hop, hm, hx, hrun, Result.andThen]
  exact hK' _ _ hK
theorem good_snoc {n : Nat} {t : List Int} {x : Int} : goodB n (t ++ [x]) = (goodB n t && (inZ x 0 ((n : Int) - 1) && !decide (x ∈ t))) := by
  unfold goodB
  have h1 : (t ++ [x]).Nodup ↔ t.Nodup ∧ ¬ x ∈ t := by
    rw [List.nodup_append]
    constructor
    · rintro ⟨h1, h2, h3⟩
      exact ⟨h1, fun h4 => h3 x h4 x (List.mem_singleton.2 rfl) rfl⟩
    · rintro ⟨h1, h2⟩
      refine ⟨h1, by simp, fun a ha b hb e => ?_⟩
      rw [List.mem_singleton] at hb
      subst hb; subst e
      exact h2 ha
  rw [List.all_append, List.all_cons, List.all_nil, Bool.and_true]
  rw [Bool.eq_iff_iff]
  simp only [Bool.and_eq_true, decide_eq_true_eq, h1, Bool.not_eq_true', decide_eq_false_iff_not]
  constructor
  · rintro ⟨⟨a1, a2⟩, a3, a4⟩; exact ⟨⟨a1, a3⟩, a2, a4⟩
  · rintro ⟨⟨a1, a3⟩, a2, a4⟩; exact ⟨⟨a1, a2⟩, a3, a4⟩
theorem take_snocI (os : List Int) {k : Nat} (h : k < os.length) : os.take (k + 1) = os.take k ++ [os.getD k 0] := by
  rw [List.take_add_one, List.getElem?_eq_getElem h, List.getD_eq_getElem?_getD, List.getElem?_eq_getElem h]
  rfl
theorem good_take {n : Nat} {os : List Int} (k : Nat) (h : goodB n os = true) : goodB n (os.take k) = true := by
  unfold goodB at h ⊢
  simp only [Bool.and_eq_true, decide_eq_true_eq, List.all_eq_true] at h ⊢
  exact ⟨fun x hx => h.1 x (List.mem_of_mem_take hx), List.Nodup.sublist (List.take_sublist k os) h.2⟩
theorem law64 : Keyed Try.prog 2 := int_keyed Try.underlying2
theorem zeroB (w : World) : (zeroValue 4).run Try.prog w = .ok (.bool false) w := by kernel_rfl
theorem wf_small {j n : Nat} (hj : j < n) (hn : n ≤ 12) : (Lit.int .i64 (j : Int)).wf = true := WalkArith.wf_i64 (by omega)
def gN (b : Bool) (x y : Nat) : Nat := if b then x else y
def gL (b : Bool) (x y : List Nat) : List Nat := if b then x else y
def fitO (n : Nat) (os : List Int) (K : Nat) : Bool := goodB n os && decide (K = n)
/-- The map of what was seen. -/
def SeenD (D : DataW Unit) (t : List Int) : Prop := IsMap D ∧ ∀ x : Int, D.atKey (.int .i64 x) (.lit (.bool false)) = .lit (.bool (decide (x ∈ t)))
theorem seen_nil : SeenD (.map []) [] := ⟨isMap_empty, fun x => rfl⟩
theorem seen_put {D : DataW Unit} {t : List Int} (h : SeenD D t) (y : Int) : SeenD (D.put (.int .i64 y) (.lit (.bool true))) (t ++ [y]) := by
  refine ⟨h.1.put _ _, fun x => ?_⟩
  by_cases e : x = y
  · subst e
    rw [atKey_put_same h.1 (k := .int .i64 x) (by exact True.intro)]
    rw [decide_eq_true (by simp)]
  · rw [atKey_put_other (by intro e2; cases e2; exact e rfl), h.2 x]
    congr 2
    rw [decide_eq_decide, List.mem_append, List.mem_singleton]
    exact ⟨Or.inl, fun h => h.resolve_right e⟩

set_option maxRecDepth 100000 in
set_option maxHeartbeats 8000000 in
theorem OrderClocks1_any (v0 v1 u : Value) (n m : Nat) (l lk : List Nat) (os : List Int) (K B p q1 : Nat) (w : World) (h : w.ownsRow B 66 2 v0 n (fl l)) (h' : w.ownsRow B 22 1 v1 m (fl lk)) (hp : Held [(⟨p, 0, none⟩, v0), (⟨p, 1, none⟩, v1)] w) (hq : Held [(⟨q1, 0, none⟩, u)] w) (hu : RowAt w u 1 K (il os)) (hn0 : 0 < n) (hn : n ≤ 12) (hm : m = n * n) (hBp : B ≤ p) :
    Calls Try.prog 79 #[.pointer (some ⟨p, 0, none⟩), .pointer (some ⟨q1, 0, none⟩)] w fun e w' => ∃ u0 u1, e = .returned (.bool (fitO n os K)) ∧ Held [(⟨p, 0, none⟩, u0), (⟨p, 1, none⟩, u1)] w' ∧ w'.ownsRow B 66 2 u0 (gN (goodB n os) (K) (n)) (fl (gL (goodB n os) (pickL l (toN os)) (l))) ∧ w'.ownsRow B 22 1 u1 (gN (goodB n os) (K * K) (m)) (fl (gL (goodB n os) (pickK lk n (toN os)) (lk))) ∧ Kept w w' [some p] := by
  have H := Lib.hid (ownsRow_rowAt h)
  have H' := Lib.hid (ownsRow_rowAt h')
  have O0 := Lib.hid h
  have O1 := Lib.hid h'
  have U := Lib.hid hu
  have hpz : p < w.heap.size := hp.1.1
  have HM : Hid (m = n * n) := hm
  have hqz : q1 < w.heap.size := hq.1.1
  clear h h' hm hu
  obtain ⟨h1, h2, ao, cap, rfl, h3⟩ := H.out
  obtain ⟨g1, g2, ao', cap', rfl, g3⟩ := H'.out
  obtain ⟨u1, u2, uo, ucap, rfl, u3⟩ := U.out
  rw [il_length] at u1
  have HKL : Hid (os.length = K) := by show _ = _; omega
  have h63u : K ≤ 9223372036854775807 := u2
  have U3 := Lib.hid u3
  clear h3 g3 h1 g1 u1 u3
  have HP := Lib.hid hp
  have HQ := Lib.hid hq
  simp only [Held, and_true] at hp hq
  have h63 : n ≤ 9223372036854775807 := by omega
  have hmm := @run_makeMap Try.prog
  go_enter Try.func79, Try.ntmps79
  go_wp2_with fail
  go_loopw [11] (fun jv wr => ∃ (k : Nat) (D : DataW Unit), k ≤ K ∧ jv = .int .i64 (k : Int) ∧ goodB n (os.take k) = true ∧ SeenD D (os.take k) ∧ wr.ownsMap Try.prog 2 (plainElem Try.prog 4) w.heap.size k D ∧ Below w.heap.size w wr ∧ Held [(⟨p, 0, none⟩, .slice ao n cap), (⟨p, 1, none⟩, .slice ao' m cap'), (⟨q1, 0, none⟩, .slice uo K ucap)] wr) (fun jv _ => K - (intOf jv).toNat)
  case atStart => exact ⟨0, .map [], Nat.zero_le _, rfl, by simp [goodB], by rw [List.take_zero]; exact seen_nil, World.ownsMap_made _ _ _ _, by (repeat (first | assumption | (with_reducible exact Below.refl _ _) | (with_reducible refine Below.drewN ?_ _) | (with_reducible refine Below.drew ?_) | (with_reducible refine Below.allocS ?_ _) | ((with_reducible refine Below.setCell ?_ ?_ _); rotate_left; focus (first | omega | (simp; done) | (simp; omega))) | (with_reducible refine Below.step ?_ (by assumption)))), by simp [Held, go_sem, *]; try omega⟩
  case round =>
    obtain ⟨k, D, hk, rfl, hgd, hsn, hown, hBr, hH⟩ := hrel
    have GD := Lib.hid hgd
    have SN := Lib.hid hsn
    have HO := Lib.hid hown
    have HR2 := Lib.hid hH
    have hzr := hBr.size
    have hBr' := hBr
    simp only [Held, and_true] at hH
    clear hgd hsn hown
    by_cases hlt : k < K
    · have d1 : decide ((k : Int) < (K : Int)) = true := decide_eq_true (by omega)
      obtain ⟨b, o, rfl, hbl, hcell⟩ := U3.out.resolve_left (by omega)
      obtain ⟨x, hx⟩ : ∃ x, Hid (os.getD k 0 = x) := ⟨_, rfl⟩
      have f0 := hcell k (.int .i64 x) (by rw [← hx.out]; exact il_get (by rw [HKL.out]; exact hlt))
      have hc := Held.below hBr (l := [(⟨b, o + k, none⟩, .int .i64 x)]) ⟨⟨hbl, f0⟩, trivial⟩
      simp only [Held, and_true] at hc
      have hsn2 : os.take (k + 1) = os.take k ++ [x] := by rw [take_snocI os (by rw [HKL.out]; exact hlt), hx.out]
      have TS := Lib.hid hsn2
      have hgs : goodB n (os.take (k + 1)) = (inZ x 0 ((n : Int) - 1) && !decide (x ∈ os.take k)) := by rw [hsn2, good_snoc, GD.out, Bool.true_and]
      have GS := Lib.hid hgs
      clear f0 hcell hsn2 hgs
      cases hz : inZ x 0 ((n : Int) - 1)
      · have HZ := Lib.hid hz
        have hG : Hid (goodB n os = false) := by
          show _ = _
          cases hg : goodB n os
          · rfl
          · have h9 := good_take (k + 1) hg
            rw [GS.out, hz] at h9
            cases h9
        clear hz
        go_wp2_with (first | (go_at_call 68; refine (has_any (.slice ao n cap) (.slice ao' m cap') n m _ p x _ hn (H.out.below ?_) ?_).mono ?_; (focus ((repeat (first | assumption | (with_reducible exact Below.refl _ _) | (with_reducible refine Below.drewN ?_ _) | (with_reducible refine Below.drew ?_) | (with_reducible refine Below.allocS ?_ _) | ((with_reducible refine Below.setCell ?_ ?_ _); rotate_left; focus (first | omega | (simp; done) | (simp; omega))) | (with_reducible refine Below.step ?_ (by assumption)))); done)); (focus (exact ⟨hH.1, hH.2.1, trivial⟩)); rintro e w' ⟨rfl, e9⟩; subst w'; rw [HZ.out]))
        refine bodyPost_ret (v := ?_) (by first | (simp [results, Try.results79, go_sem, *]; rfl) | (simp [results, Try.results79, go_sem, *]; done)) rfl ?_
        exact ⟨.slice ao n cap, .slice ao' m cap', by unfold fitO; rw [hG.out, Bool.false_and], ⟨hH.1, hH.2.1, trivial⟩, by rw [hG.out]; exact ownsRow_below O0.out hBr', by rw [hG.out]; exact ownsRow_below O1.out hBr', ⟨hBr'.os, hBr'.tape, hBr'.output, hBr'.size, fun j hj _ => hBr'.block j hj⟩⟩
      have HZ := Lib.hid hz
      obtain ⟨j9, hj9, hjn⟩ := inZ_nat hz
      have hwf : (Lit.int .i64 x).wf = true := by rw [hj9]; exact wf_small hjn hn
      have HWF := Lib.hid hwf
      clear hz hwf hj9 hjn
      cases hs : decide (x ∈ os.take k)
      · have HS : Hid (D.atKey (.int .i64 x) (.lit (.bool false)) = .lit (.bool false)) := by show _ = _; rw [SN.out.2 x, hs]
        have GN : Hid (goodB n (os.take (k + 1)) = true) := by show _ = _; rw [GS.out, HZ.out, hs]; rfl
        have hgl := good_len GN.out
        rw [List.length_take, HKL.out] at hgl
        have hk12 : k < 12 := by omega
        clear hs hgl
        go_wp2_with (first | (go_at_call 68; refine (has_any (.slice ao n cap) (.slice ao' m cap') n m _ p x _ hn (H.out.below ?_) ?_).mono ?_; (focus ((repeat (first | assumption | (with_reducible exact Below.refl _ _) | (with_reducible refine Below.drewN ?_ _) | (with_reducible refine Below.drew ?_) | (with_reducible refine Below.allocS ?_ _) | ((with_reducible refine Below.setCell ?_ ?_ _); rotate_left; focus (first | omega | (simp; done) | (simp; omega))) | (with_reducible refine Below.step ?_ (by assumption)))); done)); (focus (exact ⟨hH.1, hH.2.1, trivial⟩)); rintro e w' ⟨rfl, e9⟩; subst w'; rw [HZ.out]) | (at_lookup; refine wpList_lookup_bool_g _ _ _ _ rfl rfl 2 4 law64 Try.underlying88 Try.underlying4 (zeroB _) w.heap.size k D rfl HO.out _ (.int .i64 x) rfl (keyOf_int_mk Try.underlying2 HWF.out) false HS.out ?_) | (at_mapUpdate; refine wpList_mapUpdate_own _ rfl _ _ _ 88 rfl 2 4 law64 Try.underlying88 _ w.heap.size k _ rfl HO.out (by unfold maxLen; omega) _ _ (.int .i64 x) rfl rfl (keyOf_int_mk Try.underlying2 HWF.out) _ [] (plainElem_bool Try.underlying4 true) ?_))
        intro w8 ho8 hg8
        have hb8 : Below w.heap.size w w8 := hBr.grown hg8 hBr.size (fun j hj => by cases hj; exact Nat.le_refl _)
        have hk8 : Held [(⟨p, 0, none⟩, .slice ao n cap), (⟨p, 1, none⟩, .slice ao' m cap'), (⟨q1, 0, none⟩, .slice (some ⟨b, o, none⟩) K ucap)] w8 := Held_kept (Kept.of_grown hg8) (fun q hq hm => by
          have h4 := List.mem_singleton.1 hm
          simp only [List.mem_cons, List.not_mem_nil, or_false] at hq
          rcases hq with rfl | rfl | rfl <;> (simp at h4; omega)) HR2.out
        have HO8 := Lib.hid ho8
        clear ho8 hg8
        go_wp2_with fail
        go_roundw
        case rel => exact ⟨k + 1, _, hlt, by go_num, GN.out, by rw [TS.out]; exact seen_put SN.out x, HO8.out, hb8, hk8⟩
        case measure => simp [intOf]; omega
      · have HS : Hid (D.atKey (.int .i64 x) (.lit (.bool false)) = .lit (.bool true)) := by show _ = _; rw [SN.out.2 x, hs]
        have hG : Hid (goodB n os = false) := by
          show _ = _
          cases hg : goodB n os
          · rfl
          · have h9 := good_take (k + 1) hg
            rw [GS.out, HZ.out, hs] at h9
            cases h9
        clear hs
        go_wp2_with (first | (go_at_call 68; refine (has_any (.slice ao n cap) (.slice ao' m cap') n m _ p x _ hn (H.out.below ?_) ?_).mono ?_; (focus ((repeat (first | assumption | (with_reducible exact Below.refl _ _) | (with_reducible refine Below.drewN ?_ _) | (with_reducible refine Below.drew ?_) | (with_reducible refine Below.allocS ?_ _) | ((with_reducible refine Below.setCell ?_ ?_ _); rotate_left; focus (first | omega | (simp; done) | (simp; omega))) | (with_reducible refine Below.step ?_ (by assumption)))); done)); (focus (exact ⟨hH.1, hH.2.1, trivial⟩)); rintro e w' ⟨rfl, e9⟩; subst w'; rw [HZ.out]) | (at_lookup; refine wpList_lookup_bool_g _ _ _ _ rfl rfl 2 4 law64 Try.underlying88 Try.underlying4 (zeroB _) w.heap.size k D rfl HO.out _ (.int .i64 x) rfl (keyOf_int_mk Try.underlying2 HWF.out) true HS.out ?_))
        refine bodyPost_ret (v := ?_) (by first | (simp [results, Try.results79, go_sem, *]; rfl) | (simp [results, Try.results79, go_sem, *]; done)) rfl ?_
        exact ⟨.slice ao n cap, .slice ao' m cap', by unfold fitO; rw [hG.out, Bool.false_and], ⟨hH.1, hH.2.1, trivial⟩, by rw [hG.out]; exact ownsRow_below O0.out hBr', by rw [hG.out]; exact ownsRow_below O1.out hBr', ⟨hBr'.os, hBr'.tape, hBr'.output, hBr'.size, fun j hj _ => hBr'.block j hj⟩⟩
    · obtain rfl : k = K := by omega
      have d1 : decide ((k : Int) < (k : Int)) = false := decide_eq_false (by omega)
      have hg := GD.out
      rw [← HKL.out, List.take_length] at hg
      have hkl : (toN os).length = k := (toN_len os).trans HKL.out
      have hkn := good_len hg
      rw [HKL.out] at hkn
      have HG := Lib.hid hg
      have HKL2 := Lib.hid hkl
      clear hg hkl
      have hFIT : Hid (fitO n os k = ((k : Int) == (n : Int))) := by
        show _ = _
        unfold fitO
        rw [HG.out, Bool.true_and, Bool.eq_iff_iff]
        simp
        exact ⟨fun h => by omega, fun h => by omega⟩
      cases e5 : ((k : Int) == (n : Int))
      all_goals
        rw [e5] at hFIT
        go_wp2_with fail
        go_quiet (fail)
        go_wp2_with fail
        refine (ordered_any (.slice ao n cap) (.slice ao' m cap') (.slice uo k ucap) n m l lk (toN os) p _ ?_ ?_ ?_ ?_ (toN_lt (good_range HG.out)) (by rw [HKL2.out]; omega) hn0 hn HM.out).mono ?_
        · refine RowAt.below H.out ?_
          (repeat (first | assumption | (with_reducible exact Below.refl _ _) | (with_reducible refine Below.drewN ?_ _) | (with_reducible refine Below.drew ?_) | (with_reducible refine Below.allocS ?_ _) | ((with_reducible refine Below.setCell ?_ ?_ _); rotate_left; focus (first | omega | (simp; done) | (simp; omega))) | (with_reducible refine Below.step ?_ (by assumption))))
        · refine RowAt.below H'.out ?_
          (repeat (first | assumption | (with_reducible exact Below.refl _ _) | (with_reducible refine Below.drewN ?_ _) | (with_reducible refine Below.drew ?_) | (with_reducible refine Below.allocS ?_ _) | ((with_reducible refine Below.setCell ?_ ?_ _); rotate_left; focus (first | omega | (simp; done) | (simp; omega))) | (with_reducible refine Below.step ?_ (by assumption))))
        · rw [toN_idx (good_range HG.out), HKL2.out]
          refine RowAt.below U.out ?_
          (repeat (first | assumption | (with_reducible exact Below.refl _ _) | (with_reducible refine Below.drewN ?_ _) | (with_reducible refine Below.drew ?_) | (with_reducible refine Below.allocS ?_ _) | ((with_reducible refine Below.setCell ?_ ?_ _); rotate_left; focus (first | omega | (simp; done) | (simp; omega))) | (with_reducible refine Below.step ?_ (by assumption))))
        · exact Held.below (below_drewN _) ⟨hH.1, hH.2.1, trivial⟩
        rintro e w6 ⟨v0, v1, rfl, ou0, ou1, hb6⟩
        rw [HKL2.out] at ou0 ou1
        have hb6' : Below wr.heap.size wr w6 := (below_drewN _).trans (hb6.mono (by simp))
        have hk6 := Held.below hb6' (l := [(⟨p, 0, none⟩, .slice ao n cap), (⟨p, 1, none⟩, .slice ao' m cap')]) ⟨hH.1, hH.2.1, trivial⟩
        simp only [Held, and_true] at hk6
        have hz6 := hb6'.size
        have hB6 : Below w.heap.size w w6 := hBr.trans (hb6'.mono (by omega))
        have ou0' := ownsRow_base (base' := wr.heap.size) (by simp) ou0
        have ou1' := ownsRow_base (base' := wr.heap.size) (by simp) ou1
        have hl0 := ownsRow_lt ou0'
        have hl1 := ownsRow_lt ou1'
        have X0 := Lib.hid (ownsRow_base (base' := B) (by omega) ou0')
        have X1 := Lib.hid (ownsRow_base (base' := B) (by omega) ou1')
        obtain ⟨a0, k0, d0, rfl⟩ := ownsRow_shape ou0
        obtain ⟨a1, k1, d1', rfl⟩ := ownsRow_shape ou1
        obtain ⟨w7, hw7⟩ : ∃ w7, w7 = (w6.setCell ⟨p, 0, none⟩ (.slice a0 k0 d0)).setCell ⟨p, 1, none⟩ (.slice a1 k1 d1') := ⟨_, rfl⟩
        have K7 : Kept w6 w7 [some p] := by rw [hw7]; exact (kept_one _ _ _ _).trans1 (kept_one _ _ _ _)
        have Y0 := Lib.hid (ownsRow_kept X0.out K7 (fun j hj hm => by have h4 := (hl0 j hj).1; have h5 := List.mem_singleton.1 hm; cases h5; omega))
        have Y1 := Lib.hid (ownsRow_kept X1.out K7 (fun j hj hm => by have h4 := (hl1 j hj).1; have h5 := List.mem_singleton.1 hm; cases h5; omega))
        have hk7 : Hid (Held [(⟨p, 0, none⟩, .slice a0 k0 d0), (⟨p, 1, none⟩, .slice a1 k1 d1')] w7) := by
          show Held _ _
          rw [hw7]
          simp [Held, go_sem, *]
        have KW : Hid (Kept w w7 [some p]) := (Kept.of_below hB6).trans K7
        clear ou0 ou1 ou0' ou1' hl0 hl1 hH K7
        go_wp2_with fail
        refine bodyPost_ret (v := ?_) (by first | (simp [results, Try.results79, go_sem, *]; rfl) | (simp [results, Try.results79, go_sem, *]; done)) rfl ?_
        rw [← hw7]
        exact ⟨_, _, by rw [hFIT.out], hk7.out, by rw [HG.out]; exact Y0.out, by rw [HG.out]; exact Y1.out, KW.out⟩

theorem ord_fit {n K : Nat} {os : List Int} (hK : os.length = K) : fitO n os K = ordB n os := by rw [ord_good, hK]; rfl
theorem ord_R {n m K : Nat} {l lk : List Nat} {os : List Int} (hK : os.length = K) : ((clocksB n l m lk && fitO n os K) && clocksB (gN (goodB n os) K n) (gL (goodB n os) (pickL l (toN os)) l) (gN (goodB n os) (K * K) m) (gL (goodB n os) (pickK lk n (toN os)) lk)) = (clocksB n l m lk && ordB n os) := by
  rw [ord_fit hK]
  cases hc : clocksB n l m lk
  · rfl
  · cases ho : ordB n os
    · rfl
    · have h1 := ord_all ho
      have h2 := ord_range ho
      rw [ord_good, Bool.and_eq_true] at ho
      rw [ho.1]
      show clocksB K (pickL l (toN os)) (K * K) (pickK lk n (toN os)) = true
      rw [← hK, h1.1]
      exact picked_clocks hc ((toN_len os).trans h1.1) (toN_lt h2)
theorem ord_N {n K x y z : Nat} {os : List Int} {c : Bool} (hK : os.length = K) (h : ordB n os = true → x = z) : cN (c && ordB n os) (gN (goodB n os) x y) = cN (c && ordB n os) z := by
  cases c
  · rfl
  · cases ho : ordB n os
    · rfl
    · have h1 := h ho
      rw [ord_good, Bool.and_eq_true] at ho
      rw [ho.1, ← h1]
      rfl
theorem ord_L {n : Nat} {x y : List Nat} {os : List Int} {c : Bool} : cL (c && ordB n os) (gL (goodB n os) x y) = cL (c && ordB n os) x := by
  cases c
  · rfl
  · cases ho : ordB n os
    · rfl
    · rw [ord_good, Bool.and_eq_true] at ho
      rw [ho.1]
      rfl

set_option maxRecDepth 100000 in
set_option maxHeartbeats 8000000 in
theorem implOrderClocks_any (v v' u : Value) (n m : Nat) (l lk : List Nat) (os : List Int) (K : Nat) (w : World) (h : RowAt w v 2 n (fl l)) (h' : RowAt w v' 1 m (fl lk)) (hu : RowAt w u 1 K (il os)) : Calls Try.prog 31 #[.agg #[v, v'], u] w (GiveC (cN (clocksB n l m lk && ordB n os) n) (cL (clocksB n l m lk && ordB n os) (pickL l (toN os))) (cN (clocksB n l m lk && ordB n os) (n * n)) (cL (clocksB n l m lk && ordB n os) (pickK lk n (toN os))) (clocksB n l m lk && ordB n os) w) := by
  have H := Lib.hid h
  have H' := Lib.hid h'
  have U := Lib.hid hu
  clear h h' hu
  obtain ⟨u1, u2, uo, ucap, rfl, u3⟩ := U.out
  rw [il_length] at u1
  have hKL : os.length = K := by omega
  have HKL := Lib.hid hKL
  clear u3 u1 hKL
  rw [← ord_R HKL.out]
  have e1 : cN (clocksB n l m lk && ordB n os) n = cN (clocksB n l m lk && ordB n os) (gN (goodB n os) K n) := (ord_N HKL.out (fun h => by rw [← HKL.out]; exact (ord_all h).1)).symm
  have e2 : cN (clocksB n l m lk && ordB n os) (n * n) = cN (clocksB n l m lk && ordB n os) (gN (goodB n os) (K * K) m) := (ord_N HKL.out (fun h => by rw [← HKL.out, (ord_all h).1])).symm
  have e3 : cL (clocksB n l m lk && ordB n os) (pickL l (toN os)) = cL (clocksB n l m lk && ordB n os) (gL (goodB n os) (pickL l (toN os)) l) := ord_L.symm
  have e4 : cL (clocksB n l m lk && ordB n os) (pickK lk n (toN os)) = cL (clocksB n l m lk && ordB n os) (gL (goodB n os) (pickK lk n (toN os)) lk) := ord_L.symm
  rw [← ord_R HKL.out] at e1 e2 e3 e4
  rw [e1, e2, e3, e4]
  clear e1 e2 e3 e4
  go_enter Try.func31, Try.ntmps31
  go_wp2_with fail
  refine (changedClocks_any v v' n m l lk 79 #[.pointer (some ⟨w.heap.size + 1, 0, none⟩)] (fitO n os K) (gN (goodB n os) K n) (gL (goodB n os) (pickL l (toN os)) l) (gN (goodB n os) (K * K) m) (gL (goodB n os) (pickK lk n (toN os)) lk) _ ?_ ?_ ?_ ?_).mono ?_
  · refine RowAt.below H.out ?_
    (repeat (first | assumption | (with_reducible exact Below.refl _ _) | (with_reducible refine Below.drewN ?_ _) | (with_reducible refine Below.drew ?_) | (with_reducible refine Below.allocS ?_ _) | ((with_reducible refine Below.setCell ?_ ?_ _); rotate_left; focus (first | omega | (simp; done) | (simp; omega))) | (with_reducible refine Below.step ?_ (by assumption))))
  · refine RowAt.below H'.out ?_
    (repeat (first | assumption | (with_reducible exact Below.refl _ _) | (with_reducible refine Below.drewN ?_ _) | (with_reducible refine Below.drew ?_) | (with_reducible refine Below.allocS ?_ _) | ((with_reducible refine Below.setCell ?_ ?_ _); rotate_left; focus (first | omega | (simp; done) | (simp; omega))) | (with_reducible refine Below.step ?_ (by assumption))))
  · intro w1 x
    simp [go_sem]
  · intro hc B w1 p v0 v1 hB hp HP o0 o1 l0 l1 hb
    have c1 := (clocks_parts hc).1
    have c2 := (clocks_parts hc).2.1
    have c4 := (clocks_parts hc).2.2.2.1
    simp at hB
    refine (OrderClocks1_any v0 v1 (.slice uo K ucap) n m l lk os K B p _ w1 o0 o1 HP (Held.below hb (by simp [Held, go_sem])) ?_ (by omega) c2 c4 hp).mono ?_
    · refine RowAt.below U.out ?_
      refine Below.trans ?_ (hb.mono (by simp; omega))
      (repeat (first | (with_reducible exact Below.refl _ _) | (with_reducible refine Below.drewN ?_ _) | (with_reducible refine Below.drew ?_) | (with_reducible refine Below.allocS ?_ _) | ((with_reducible refine Below.setCell ?_ ?_ _); rotate_left; focus (first | omega | (simp; done) | (simp; omega)))))
    rintro e w2 ⟨u0, u1, rfl, h0, x0, x1, hk⟩
    exact ⟨u0, u1, rfl, h0, x0, x1, ⟨hk.os, hk.tape, hk.output, hk.size, fun j hj hne => hk.block j hj (fun hm => hne (by simp at hm ⊢; simp [hm]))⟩⟩
  rintro e w4 ⟨u0, u1, rfl, ou0, ou1, une, hb4⟩
  obtain ⟨a0, k0, d0, rfl⟩ := ownsRow_shape ou0
  obtain ⟨a1, k1, d1, rfl⟩ := ownsRow_shape ou1
  have hk4 := Held.below hb4 (l := [(⟨w.heap.size + 1 + 1, 0, none⟩, .slice none 0 0), (⟨w.heap.size + 1 + 1, 1, none⟩, .slice none 0 0)]) (by simp [Held, go_sem])
  simp only [Held, and_true] at hk4
  have OU0 := Lib.hid (ownsRow_base (base' := w.heap.size + 1 + 1 + 1) (by simp) ou0)
  have OU1 := Lib.hid (ownsRow_base (base' := w.heap.size + 1 + 1 + 1) (by simp) ou1)
  clear ou0 ou1
  go_wp2_with fail
  refine bodyPost_ret (v := ?_) (by first | (simp [results, Try.results31, go_sem, *]; rfl) | (simp [results, Try.results31, go_sem, *]; done)) rfl ?_
  refine ⟨_, _, rfl, ?_, ?_, une, ?_⟩
  · refine ownsRow_base (base := w.heap.size + 1 + 1 + 1) (by omega) ?_
    have := OU0.out
    (repeat (first | (with_reducible refine World.ownsRow.alloc ?_ _) | (with_reducible refine ownsRow_drewN ?_ _) | ((with_reducible refine ownsRow_setCell_below ?_ ?_ _); rotate_left; focus (first | omega | (simp; done) | (simp; omega)))))
    exact this
  · refine ownsRow_base (base := w.heap.size + 1 + 1 + 1) (by omega) ?_
    have := OU1.out
    (repeat (first | (with_reducible refine World.ownsRow.alloc ?_ _) | (with_reducible refine ownsRow_drewN ?_ _) | ((with_reducible refine ownsRow_setCell_below ?_ ?_ _); rotate_left; focus (first | omega | (simp; done) | (simp; omega)))))
    exact this
  · (repeat (first | assumption | (with_reducible exact Below.refl _ _) | (with_reducible refine Below.drewN ?_ _) | (with_reducible refine Below.drew ?_) | (with_reducible refine Below.allocS ?_ _) | ((with_reducible refine Below.setCell ?_ ?_ _); rotate_left; focus (first | omega | (simp; done) | (simp; omega))) | (with_reducible refine Below.step ?_ (by assumption))))

end Go.Proofs.Ytifdcoambehekaa
