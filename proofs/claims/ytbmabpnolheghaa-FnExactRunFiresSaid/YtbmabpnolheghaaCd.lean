/-
  Calm regions over any class of worlds that new blocks and draws keep; an operation that turns more (an append into memory of the call's own) may stand in them, where it keeps the class and the facts.
-/
import Derived.Test.YtbmabpnolheghaaCz
import Derived.Test.YtbmabpnolheghaaTa
set_option linter.unusedVariables false
set_option linter.unusedSimpArgs false
namespace Go.Proofs.Ytbmabpnolheghaa
open Go.RowKit

section
variable {P : Program} {ops : Array Oper} {md : Region.Mode} {T : FuncId → Array Value → Value → Prop} {Q : Act → Prop} {o : Oper} {rest : List Oper} {a : Act} {k : Nat} {D : World → Prop} {fs : List VFact}
theorem depD {ia : Nat} {w : World} (h : DepsR md (RVF fs) o a w) (hdep : Region.waitsFor md #[o] 0 ia = true) : RVF fs ia a w := by
  obtain ⟨o', ho', e, he, hb, hon⟩ := Region.waitsFor_spec hdep
  have : o' = o := by simpa using ho'.symm
  subst this
  rw [← hon]
  exact h e he hb

theorem calmD_nil (h : Q a) : wpCalmR P ops md D T (RVF fs) Q k [] a := h

/-- A plain operation. -/
theorem calmD_plain (hst : stableV fs) (hD : ∀ w w', D w → Below w.heap.size w w' → D w') (hp : plainOp o.op = true) (hw : Region.wanted o (yielded ops a.tmps) = true) (hk : ∀ a w, RVF fs k a w)
    (h : ∀ (K : Act → Prop), (∀ a', wpCalmR P ops md D T (RVF fs) Q (k + 1) rest a' → K a') → ∀ w, D w → wpList P #[] (calmQB w K) [{ o with guard := none }] a w) : wpCalmR P ops md D T (RVF fs) Q k (o :: rest) a := by
  have h1 := h (fun a' => wpCalmR P ops md D T (RVF fs) Q (k + 1) rest a') (fun _ h => h)
  have key : ∀ w, D w → ∃ v w', ((execOp a.eval o).run P w = .ok (.value v) w' ∨ ((execOp a.eval o).run P w = .ok .skip w' ∧ v = undef)) ∧ Below w.heap.size w w' ∧ wpCalmR P ops md D T (RVF fs) Q (k + 1) rest (a.put o.dst v) := by
    intro w hC
    have h2 := h1 w hC
    unfold wpList at h2
    rw [if_pos (by rfl)] at h2
    rcases h2 with h2 | h2
    · unfold Oper.wp at h2
      have he : execOp a.eval { o with guard := none } = execOp a.eval o := rfl
      rw [he] at h2
      cases hr : (execOp a.eval o).run P w with
      | ok n w' =>
        rw [hr] at h2
        rcases plain_next hp hr with ⟨v, rfl⟩ | rfl
        · exact ⟨v, w', .inl rfl, h2.2.1, h2.2.2⟩
        · exact ⟨undef, w', .inr ⟨rfl, rfl⟩, h2.2.1, h2.2.2⟩
      | halt x w' =>
        rw [hr] at h2
        cases x <;> simp [Oper.upon, calmQB] at h2
    · exfalso
      have := h2.2
      simp [LetsOut, calmQB] at this
  refine ⟨?_, fun v hv => ?_⟩
  · unfold OkO
    rw [if_pos hw]
    intro w hC hDp
    obtain ⟨v, w', hr, hb, _⟩ := key w hC
    have hkept : ∀ u, keptR D (RVF fs) k a o.dst w u w' := fun u => ⟨hD _ _ hC hb, hk _ _, fun j a' _ hj => RVF_below hb hst hj⟩
    rcases hr with hr | ⟨hr, _⟩ <;> rw [hr] <;> exact hkept _
  · unfold Yl at hv
    rw [if_pos hw] at hv
    obtain ⟨w, hC, _, hy⟩ := hv
    obtain ⟨v', w', hr, _, hn⟩ := key w hC
    rcases hr with hr | ⟨hr, rfl⟩ <;> rw [hr] at hy
    · have : v = v' := hy
      rw [this]; exact hn
    · have : v = undef := hy
      rw [this]; exact hn

/-- An operation that yields a value of a set and lays a fact. -/
theorem calmD_op {Tv : Value → Prop} (hst : stableV fs) (hD : ∀ w w', D w → Below w.heap.size w w' → D w') (hw : Region.wanted o (yielded ops a.tmps) = true)
    (hrun : ∀ w, D w → ∃ v w', (execOp a.eval o).run P w = .ok (.value v) w' ∧ Tv v ∧ RVF fs k (a.put o.dst v) w' ∧ Below w.heap.size w w')
    (hn : ∀ v, Tv v → wpCalmR P ops md D T (RVF fs) Q (k + 1) rest (a.put o.dst v)) : wpCalmR P ops md D T (RVF fs) Q k (o :: rest) a := by
  refine ⟨?_, fun v hv => ?_⟩
  · unfold OkO
    rw [if_pos hw]
    intro w hC hDp
    obtain ⟨v, w', hr, _, hR, hb⟩ := hrun w hC
    rw [hr]
    exact ⟨hD _ _ hC hb, hR, fun j a' _ hj => RVF_below hb hst hj⟩
  · unfold Yl at hv
    rw [if_pos hw] at hv
    obtain ⟨w, hC, _, hy⟩ := hv
    obtain ⟨v', w', hr, hT, _⟩ := hrun w hC
    rw [hr] at hy
    have : v = v' := hy
    rw [this]; exact hn _ hT

/-- An operation whose guard says no. -/
theorem calmD_skip (hw : Region.wanted o (yielded ops a.tmps) = false) (hk : ∀ a w, RVF fs k a w) (h : wpCalmR P ops md D T (RVF fs) Q (k + 1) rest (a.put o.dst undef)) : wpCalmR P ops md D T (RVF fs) Q k (o :: rest) a := by
  refine ⟨?_, fun v hv => ?_⟩
  · unfold OkO
    rw [if_neg (by rw [hw]; decide)]
    exact fun w _ _ => hk _ _
  · unfold Yl at hv
    rw [if_neg (by rw [hw]; decide)] at hv
    rw [hv]; exact h

/-- A nil check of a pointer that is none. -/
theorem calmD_check {x : Operand} {p : Addr} (hop : o.op = .nilCheck x) (hx : a.eval x = .pointer (some p)) (hw : Region.wanted o (yielded ops a.tmps) = true) (hk : ∀ a w, RVF fs k a w)
    (h : wpCalmR P ops md D T (RVF fs) Q (k + 1) rest (a.put o.dst (.pointer (some p)))) : wpCalmR P ops md D T (RVF fs) Q k (o :: rest) a := by
  have hrun : ∀ w, (execOp a.eval o).run P w = .ok (.value (.pointer (some p))) w := fun w => by
    unfold execOp
    rw [hop]
    simp [hx, Sem.run_pure]
  refine ⟨?_, fun v hv => ?_⟩
  · unfold OkO
    rw [if_pos hw]
    intro w hC hDp
    rw [hrun]
    exact ⟨hC, hk _ _, fun _ _ _ h => h⟩
  · unfold Yl at hv
    rw [if_pos hw] at hv
    obtain ⟨w, _, _, hy⟩ := hv
    rw [hrun] at hy
    have : v = _ := hy
    rw [this]; exact h

/-- A call: it may use the facts of what it waits for, and lays its own. -/
theorem calmD_call {f : FuncId} {args : Array Value} (hst : stableV fs) (hD : ∀ w w', D w → Below w.heap.size w w' → D w') (hw : Region.wanted o (yielded ops a.tmps) = true) (hrun : ∀ w, (execOp a.eval o).run P w = .ok (.enter f args) w)
    (hc : ∀ w, D w → DepsR md (RVF fs) o a w → Calls P f args w (fun e w' => ∃ v, e = .returned v ∧ T f args v ∧ RVF fs k (a.put o.dst v) w' ∧ Below w.heap.size w w'))
    (hn : ∀ v, T f args v → wpCalmR P ops md D T (RVF fs) Q (k + 1) rest (a.put o.dst v)) : wpCalmR P ops md D T (RVF fs) Q k (o :: rest) a := by
  refine ⟨?_, fun v hv => ?_⟩
  · unfold OkO
    rw [if_pos hw]
    intro w hC hDp
    rw [hrun]
    exact (hc w hC hDp).mono fun e w' ⟨v, he, hT, hR, hb⟩ => ⟨v, he, hT, hD _ _ hC hb, hR, fun j a' _ hj => RVF_below hb hst hj⟩
  · unfold Yl at hv
    rw [if_pos hw] at hv
    obtain ⟨w, _, _, hy⟩ := hv
    rw [hrun] at hy
    exact hn v hy
/-- An operation that turns more than new blocks: it is to keep the class and the facts. -/
theorem calmD_turn {Tv : Value → Prop} (hw : Region.wanted o (yielded ops a.tmps) = true)
    (hrun : ∀ w, D w → DepsR md (RVF fs) o a w → ∃ v w', (execOp a.eval o).run P w = .ok (.value v) w' ∧ Tv v ∧ D w' ∧ RVF fs k (a.put o.dst v) w' ∧ ∀ j a', j ≠ k → RVF fs j a' w → RVF fs j a' w')
    (hn : ∀ v, Tv v → wpCalmR P ops md D T (RVF fs) Q (k + 1) rest (a.put o.dst v)) : wpCalmR P ops md D T (RVF fs) Q k (o :: rest) a := by
  refine ⟨?_, fun v hv => ?_⟩
  · unfold OkO
    rw [if_pos hw]
    intro w hC hDp
    obtain ⟨v, w', hr, _, h1, h2, h3⟩ := hrun w hC hDp
    rw [hr]
    exact ⟨h1, h2, h3⟩
  · unfold Yl at hv
    rw [if_pos hw] at hv
    obtain ⟨w, hC, hDp, hy⟩ := hv
    obtain ⟨v', w', hr, hT, _⟩ := hrun w hC hDp
    rw [hr] at hy
    have : v = v' := hy
    rw [this]; exact hn _ hT
end


theorem region_calmD_tail {P : Program} {id : Nat} {Q : Exit → Act → World → Prop} {a : Act} {w : World} {l : List Oper} (n : Nat) (D : World → Prop) (T : FuncId → Array Value → Value → Prop) (fs : List VFact) (hm : P.follows .mixedOrders = true) (hB : Region.lexTailB .any l.toArray n = true) (hsep : sepVB .any l.toArray (fs.map fun q => (q.1, q.2.1)) = true)
    (hw : D w.drew) (h : wpCalmR P l.toArray .any D T (RVF fs) (fun a' => ∀ w', D w' → (∀ j, j < n → RVF fs j a' w') → wpList P l.toArray Q (l.drop n) a' w') 0 (l.take n) a) : (Code.region id l.toArray true).wp P Q a w :=
  wp_region_calmR_tail n D T (RVF fs) (rsV fs) (fun j a d v w => RVF_put fs j a d v w) (sepV_of hsep) hm hB hw h

/-! ### Appends -/

/-- What of an own row an append leaves: the old header holds on. -/
theorem append_old {P : Program} (w : World) (base : Nat) (t ty e : TypeId) (i : TypeInfo) (z : Value) (size bytes : Nat) (ht : P.underlying t = some (.slice e)) (hi : P.info? e = some i) (hz : i.zero = some z)
    (hsize : i.size = size) (hby : i.bytes = bytes) (hzs : z.cells.size = size) (hsz : 0 < size)
    (v : Value) (n : Nat) (xs : List Value) (hown : w.ownsRow base e size v n xs)
    (a : Addr) (m c : Nat) (news : List Value) (hl : news.length = m * size) (hnews : ∀ j u, news[j]? = some u → w.cell? (a.add j) = some u) (h1 : ∀ u ∈ news, u.oneCell' = true)
    (h63 : n + m ≤ maxLen) (hbytes : (n + m) * bytes ≤ 140737488355328) (hbase : base ≤ w.heap.size) :
    ∃ v' w', (Builtin.append_ #[t, t] ty #[v, .slice (some a) m c]).run P w = .ok v' w' ∧ w'.ownsRow base e size v' (n + m) (xs ++ news) ∧ w.grownBy w' v.ownBlock ∧ w'.ownsRow base e size v n xs := by
  obtain ⟨v', w', hr, h2, h3, _⟩ := run_append_own (P := P) w base t ty e i z size bytes ht hi hz hsize hby hzs hsz v n xs hown a m c news hl hnews h1 h63 hbytes hbase
  refine ⟨v', w', hr, h2, h3, ?_⟩
  rcases hown.2 with ⟨rfl, rfl⟩ | ⟨g, cap, cur, rfl, hbg, hg, hnc, hcm, hcs, htake⟩
  · exact ⟨hown.1, .inl ⟨rfl, rfl⟩⟩
  · by_cases hroom : n + m ≤ cap
    · subst hsize
      have hfit : n * i.size + news.length ≤ cur.size := by rw [hl, hcs, ← Nat.add_mul]; exact Nat.mul_le_mul_right _ hroom
      have hr2 := run_append_room (P := P) w t ty e i ht hi g n cap cur hg a m c news hl hnews h1 hroom hfit
      rw [hr2] at hr
      cases hr
      have hlen : xs.length = n * i.size := hown.1
      refine ⟨hown.1, .inr ⟨g, cap, _, rfl, hbg, setRow_heap w g cur _ e _ hg, hnc, hcm, ?_, ?_⟩⟩
      · simp only [List.size_toArray, List.length_append, List.length_take, List.length_drop, Array.length_toList]
        omega
      · rw [htake, List.append_assoc, ← hlen]
        exact List.take_left
    · subst hsize
      subst hby
      have hsmall : n + m ≤ 9223372036854775807 := by simp only [maxLen] at h63; omega
      have holds : ∀ j u, xs[j]? = some u → w.cell? ((⟨g, 0, none⟩ : Addr).add j) = some u := hown.cells (g := g) rfl
      have hr2 := run_append_grow (P := P) w t ty e i z ht hi hz ⟨g, 0, none⟩ n cap xs hown.1 holds a m c news hl hnews (by omega) (by omega) (growslice_fits (by omega) hbytes)
      rw [hr2] at hr
      cases hr
      exact (ownsRow_below hown ((Below.refl _ w).drew.alloc (Nat.le_refl _) _))
end Go.Proofs.Ytbmabpnolheghaa
