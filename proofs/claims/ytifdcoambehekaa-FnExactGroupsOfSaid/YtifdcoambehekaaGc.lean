/-
  A list that is cut at its head and grows at its end (todo = todo[1:]; todo = append(todo, x)).
-/
import Derived.Test.YtifdcoambehekaaGa
import Derived.Test.YtifdcoambehekaaTv
import Derived.ArgAppend
set_option linter.unusedVariables false
set_option linter.unusedSimpArgs false
namespace Go.Proofs.Ytifdcoambehekaa
open Go.RowKit

/-- The value's elements lie somewhere in a row of the call's own. -/
def Que (w : World) (base : Nat) (E : TypeId) (v : Value) (q : List Value) : Prop :=
  ∃ ao cap, v = .slice ao q.length cap ∧ (q = [] ∨ ∃ g o cur, ao = some ⟨g, o, none⟩ ∧ base ≤ g ∧ g < w.heap.size ∧ w.heap[g]? = some (.cells cur E (0, 0)) ∧ q.length ≤ cap ∧ o + cap ≤ cur.size ∧ ∀ j u, q[j]? = some u → cur[o + j]? = some u)
theorem Que.kept {w w' : World} {base : Nat} {E : TypeId} {v : Value} {q : List Value} {r : List (Option Nat)} (h : Que w base E v q) (k : Kept w w' r) (hne : ∀ i, v.ownBlock = some i → some i ∉ r) : Que w' base E v q := by
  obtain ⟨ao, cap, rfl, h⟩ := h
  refine ⟨ao, cap, rfl, ?_⟩
  rcases h with h | ⟨g, o, cur, rfl, h1, h2, h3, h4⟩
  · exact .inl h
  · exact .inr ⟨g, o, cur, rfl, h1, Nat.lt_of_lt_of_le h2 k.size, by rw [k.block g h2 (hne g rfl)]; exact h3, h4⟩
theorem Que.below {w w' : World} {base : Nat} {E : TypeId} {v : Value} {q : List Value} (h : Que w base E v q) (hb : Below w.heap.size w w') : Que w' base E v q := h.kept (Kept.of_below hb) (fun _ _ hm => absurd hm (by simp))
theorem Que.own {w : World} {base : Nat} {E : TypeId} {v : Value} {n : Nat} {q : List Value} (h : w.ownsRow base E 1 v n q) : Que w base E v q := by
  obtain ⟨h1, h2⟩ := h
  rw [Nat.mul_one] at h1
  rcases h2 with ⟨rfl, rfl⟩ | ⟨g, cap, cur, rfl, h3, h4, h5, h6, h7, h8⟩
  · exact ⟨_, _, by rw [h1], .inl (List.eq_nil_of_length_eq_zero h1)⟩
  · refine ⟨_, _, by rw [h1], .inr ⟨g, 0, cur, rfl, h3, ?_, h4, by omega, by omega, ?_⟩⟩
    · rcases Nat.lt_or_ge g w.heap.size with h | h
      · exact h
      · rw [Array.getElem?_eq_none h] at h4; cases h4
    · intro j u hj
      rw [Nat.zero_add, ← Array.getElem?_toList]
      rw [← h8, List.getElem?_take] at hj
      split at hj
      · exact hj
      · cases hj
/-- The list's head, and what is left of it. -/
theorem Que.head {w : World} {base : Nat} {E : TypeId} {v x : Value} {q : List Value} (h : Que w base E v (x :: q)) : ∃ g o cap, v = .slice (some ⟨g, o, none⟩) (q.length + 1) cap ∧ base ≤ g ∧ g < w.heap.size ∧ q.length + 1 ≤ cap ∧ w.cell? ⟨g, o, none⟩ = some x ∧ w.frozen? ⟨g, o, none⟩ = false ∧ (cap ≠ 1 → Que w base E (.slice (some ⟨g, o + 1, none⟩) q.length (cap - 1)) q) := by
  obtain ⟨ao, cap, rfl, h⟩ := h
  obtain ⟨g, o, cur, rfl, h1, h2, h3, h4, h5, h6⟩ := h.resolve_left (by simp)
  refine ⟨g, o, cap, by simp, h1, h2, by simpa using h4, ?_, by simp [World.frozen?, h3], ?_⟩
  · have := h6 0 x (by simp)
    rw [Nat.add_zero] at this
    simp [World.cell?, h3, this]
  · intro hc
    refine ⟨_, _, rfl, .inr ⟨g, o + 1, cur, rfl, h1, h2, h3, by simp at h4; omega, by simp at h4; omega, ?_⟩⟩
    intro j u hj
    have := h6 (j + 1) u (by simpa using hj)
    rw [show o + 1 + j = o + (j + 1) by omega]
    exact this
theorem Que.nil {w : World} {base : Nat} {E : TypeId} (ao : Option Addr) (c : Nat) : Que w base E (.slice ao 0 c) [] := ⟨_, _, rfl, .inl rfl⟩
theorem Kept.more {w w' : World} {r s : List (Option Nat)} (k : Kept w w' r) (h : ∀ x, x ∈ r → x ∈ s) : Kept w w' s := ⟨k.os, k.tape, k.output, k.size, fun i hi hne => k.block i hi (fun hm => hne (h _ hm))⟩

/-- One element more, wherever the list's head lies. -/
theorem que_append {P : Program} {w : World} {base : Nat} {t ty e : TypeId} {i : TypeInfo} {z : Value} {bytes : Nat} (ht : P.underlying t = some (.slice e)) (hi : P.info? e = some i) (hz : i.zero = some z)
    (hsize : i.size = 1) (hby : i.bytes = bytes) (hzs : z.cells.size = 1) (hb8 : bytes ≤ 8) {v : Value} {q : List Value} (h : Que w base e v q) (hq : 0 < q.length) (hq2 : q.length ≤ 1000) {x : Value} (hx : x.oneCell' = true) {ad : Addr} {c : Nat} (hc : ∀ j u, [x][j]? = some u → w.cell? (ad.add j) = some u) (hbase : base ≤ w.heap.size) :
    ∃ v' w', (Builtin.append_ #[t, t] ty #[v, .slice (some ad) 1 c]).run P w = .ok v' w' ∧ Que w' base e v' (q ++ [x]) ∧ Kept w w' [v.ownBlock] ∧ (v'.ownBlock = v.ownBlock ∨ v'.ownBlock = some w.heap.size) := by
  subst hby
  obtain ⟨ao, cap, rfl, h⟩ := h
  obtain ⟨g, o, cur, rfl, h1, h2, h3, h4, h5, h6⟩ := h.resolve_left (fun e => by rw [e] at hq; exact absurd hq (Nat.lt_irrefl _))
  have h1x : ∀ u ∈ [x], u.oneCell' = true := by intro u hu; rw [List.mem_singleton.1 hu]; exact hx
  by_cases hroom : q.length + 1 ≤ cap
  · have hr := run_append_room_cells (P := P) (w := w) (ty := ty) t e i ht hi g o q.length cap ad 1 c [x] (by rw [hsize]; rfl) hc h1x hroom
      (by intro j hj
          obtain rfl : j = 0 := by simpa using hj
          rw [hsize, Nat.mul_one, Nat.add_zero]
          simp [World.cell?, h3]
          omega)
      (by intro j hj; simp [World.frozen?, h3])
    rw [hsize, Nat.mul_one] at hr
    have hw : w.setCells g (o + q.length) [x] = w.setRow g (cur.setIfInBounds (o + q.length) x) := setCell_eq_setRow w g (o + q.length) cur e (0, 0) x h3
    rw [hw] at hr
    have h9 := setRow_heap w g cur (cur.setIfInBounds (o + q.length) x) e (0, 0) h3
    refine ⟨_, _, hr, ⟨_, _, by rw [List.length_append]; rfl, .inr ⟨g, o, _, rfl, h1, by simp [World.setRow]; exact h2, h9, by rw [List.length_append]; exact hroom, by simpa using h5, ?_⟩⟩, ⟨rfl, rfl, rfl, by simp [World.setRow], fun k hk hne => setRow_other w g k _ (fun e => hne (by simp [Value.ownBlock, e]))⟩, .inl rfl⟩
    intro j u hj
    rw [Array.getElem?_setIfInBounds]
    rcases Nat.lt_or_ge j q.length with hlt | hge
    · rw [if_neg (by omega)]
      rw [List.getElem?_append_left hlt] at hj
      exact h6 j u hj
    · rw [List.getElem?_append_right hge] at hj
      have hj0 : j - q.length = 0 := by
        rcases Nat.eq_zero_or_pos (j - q.length) with h | h
        · exact h
        · rw [List.getElem?_eq_none (by simp; omega)] at hj; cases hj
      rw [hj0] at hj
      cases hj
      rw [if_pos (by omega), if_pos (by omega)]
  · have holds : ∀ j u, q[j]? = some u → w.cell? ((⟨g, o, none⟩ : Addr).add j) = some u := by
      intro j u hj
      have := h6 j u hj
      rw [Addr.add_lit]
      simp [World.cell?, h3, this]
    have hr := run_append_grow (P := P) w t ty e i z ht hi hz ⟨g, o, none⟩ q.length cap q (by rw [hsize, Nat.mul_one]) holds ad 1 c [x] (by rw [hsize]; rfl) hc (by omega) (by omega) (growslice_fits (by omega) (by
      have : (q.length + 1) * i.bytes ≤ 1001 * 8 := Nat.mul_le_mul (by omega) hb8
      omega))
    have hge := grownCap_ge w (q.length + 1) cap e
    refine ⟨_, _, hr, ⟨_, _, by rw [List.length_append]; rfl, .inr ⟨w.heap.size, 0, _, rfl, hbase, by simp, heap_alloc_new w.drew _, by rw [List.length_append]; exact hge, ?_, ?_⟩⟩, ⟨rfl, rfl, rfl, by simp, fun k hk _ => (Below.allocS ((Below.refl _ w).drew) _).block k hk⟩, .inr rfl⟩
    · simp only [Array.size_append, List.size_toArray, size_zeroCells, hzs, List.length_cons, List.length_nil]
      omega
    · intro j u hj
      have hl : j < (q ++ [x]).length := by
        rcases Nat.lt_or_ge j (q ++ [x]).length with h | h
        · exact h
        · rw [List.getElem?_eq_none h] at hj; cases hj
      rw [Nat.zero_add, ← Array.getElem?_toList]
      simp only [Array.toList_append, List.append_assoc]
      rw [← List.append_assoc, List.getElem?_append_left hl]
      exact hj
theorem wpList_que_append {P : Program} (w : World) {ops : Array Oper} {rest : List Oper} {o : Oper} {a : Act} {Q : Exit → Act → World → Prop} (hgd : o.guard = none) (s x' : Operand) (t : TypeId)
    (ho : o.op = .call { callee := .builtin .append, args := #[s, x'], argTypes := #[t, t] }) (base : Nat) (e : TypeId) (i : TypeInfo) (z : Value) (bytes : Nat) (ht : P.underlying t = some (.slice e)) (hi : P.info? e = some i) (hz : i.zero = some z)
    (hsize : i.size = 1) (hby : i.bytes = bytes) (hzs : z.cells.size = 1) (hb8 : bytes ≤ 8) (v : Value) (q : List Value) (hs : a.eval s = v) (h : Que w base e v q) (hq : 0 < q.length) (hq2 : q.length ≤ 1000) (x : Value) (hx1 : x.oneCell' = true) (ad : Addr) (c : Nat) (hx : a.eval x' = .slice (some ad) 1 c) (hc : ∀ j u, [x][j]? = some u → w.cell? (ad.add j) = some u) (hbase : base ≤ w.heap.size)
    (hK : ∀ v' w', Que w' base e v' (q ++ [x]) → Kept w w' [v.ownBlock] → (v'.ownBlock = v.ownBlock ∨ v'.ownBlock = some w.heap.size) → wpList P ops Q rest (a.put o.dst v') w') : wpList P ops Q (o :: rest) a w := by
  refine wpList_plain hgd fun K hK' => ?_
  obtain ⟨v', w', hr, h2, h3, h4⟩ := que_append (P := P) (ty := o.type) ht hi hz hsize hby hzs hb8 h hq hq2 hx1 hc hbase
  unfold Oper.wp execOp
  simp only [ho, resolve, invoke, builtin, Sem.run_bind, Sem.run_pure, Result.andThen_ok, List.map_toArray, List.map_cons, List.map_nil, hs, hx]
  rw [hr]
  exact hK' _ _ (hK v' w' h2 h3 h4)
end Go.Proofs.Ytifdcoambehekaa
