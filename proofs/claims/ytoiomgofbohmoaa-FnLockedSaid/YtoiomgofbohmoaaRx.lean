/-
  How an argument that holds slices is opened: slices whose elements are floats, structs of floats, or structs of two integers and a float; structs of slices and floats.
-/
import Derived.Test.YtoiomgofbohmoaaSa
import Derived.Test.YtoiomgofbohmoaaRw
import Derived.Deep.Slices
import Derived.OpenShut
set_option linter.unusedVariables false
namespace Go.Proofs.Ytoiomgofbohmoaa
open Go.RowKit

/-- One cell: a float32, or an int64. -/
def okKind : Bool → Value → Prop
  | true, v => ∃ b, v = .float .f32 b ∧ b < 4294967296
  | false, v => ∃ n, v = .int .i64 n
def cellKind (P : Program) (t : TypeId) : Option Bool :=
  match P.underlying t with
  | some (.float .f32) => some true
  | some (.int .i64) => some false
  | _ => none
/-- A type of some cells, each a float32 or an int64. -/
def flatT (P : Program) (t : TypeId) (ks : List Bool) : Bool :=
  match P.underlying t with
  | some (.struct fs) => P.cellsOf t == ks.length && fs.size == ks.length && (List.range ks.length).all fun i => match fs[i]? with
    | some f => f.offset == i && P.cellsOf f.type == 1 && cellKind P f.type == ks[i]?
    | none => false
  | _ => P.cellsOf t == 1 && ks.length == 1 && cellKind P t == ks[0]?

section
variable {H : Type} {enc : TypeId × Value → H} {P : Program} {w : World} {base : Nat} {spare : Nat → Bool} {held : Bool}

theorem trod_fl {t : TypeId} {k : FloatKind} {fuel : Nat} {cs : List Value} {x : DataW H × List MemPlace} (ht : P.underlying t = some (.float k)) (h : DataW.trod enc P w base spare held fuel t cs = some x) : ∃ b, cs = [.float k b] ∧ (Lit.float k b).wf = true := by
  cases fuel with
  | zero => simp [DataW.trod] at h
  | succ n =>
    unfold DataW.trod at h
    rw [ht] at h
    split at h <;> simp_all
theorem trod_kind {t : TypeId} {k : Bool} {fuel : Nat} {cs : List Value} {x : DataW H × List MemPlace} (hk : cellKind P t = some k) (h : DataW.trod enc P w base spare held fuel t cs = some x) : ∃ v, cs = [v] ∧ okKind k v := by
  unfold cellKind at hk
  split at hk
  · rename_i hu
    cases hk
    obtain ⟨b, rfl, hw⟩ := trod_fl hu h
    exact ⟨_, rfl, b, rfl, of_decide_eq_true hw⟩
  · rename_i hu
    cases hk
    obtain ⟨n, rfl, _⟩ := DataW.trod_int hu h
    exact ⟨_, rfl, n, rfl⟩
  · cases hk

theorem trod_flat {t : TypeId} {ks : List Bool} {fuel : Nat} {cs : List Value} {x : DataW H × List MemPlace} (hk : flatT P t ks = true) (h : DataW.trod enc P w base spare held fuel t cs = some x) :
    cs.length = ks.length ∧ ∀ i, i < ks.length → okKind (ks.getD i true) (cs.getD i undef) := by
  unfold flatT at hk
  split at hk
  · rename_i fs hu
    simp only [Bool.and_eq_true, beq_iff_eq, List.all_eq_true, List.mem_range] at hk
    obtain ⟨⟨hc, hs⟩, hf⟩ := hk
    obtain ⟨xs, n, rfl, _, hl, hxl, hx⟩ := DataW.trod_struct hu h
    refine ⟨by omega, fun i hi => ?_⟩
    have h1 := hf i hi
    have hfi : fs[i]? = some fs[i] := Array.getElem?_eq_getElem (by omega)
    rw [hfi] at h1
    simp only [Bool.and_eq_true, beq_iff_eq] at h1
    obtain ⟨⟨h2, h3⟩, h4⟩ := h1
    have h5 := hx i _ hfi
    rw [h2, h3] at h5
    have h6 : ∃ y, xs[i]? = some y := ⟨_, List.getElem?_eq_getElem (by omega)⟩
    obtain ⟨y, h6⟩ := h6
    rw [h6] at h5
    obtain ⟨k, hk⟩ : ∃ k, ks[i]? = some k := ⟨_, List.getElem?_eq_getElem hi⟩
    rw [hk] at h4
    obtain ⟨v, hv, hok⟩ := trod_kind h4 h5
    have hg : cs[i]? = some v := by
      have := congrArg (fun l => l[0]?) hv
      simpa [List.getElem?_take, List.getElem?_drop] using this
    rw [List.getD_eq_getElem?_getD, List.getD_eq_getElem?_getD, hg, hk]
    exact hok
  · simp only [Bool.and_eq_true, beq_iff_eq] at hk
    obtain ⟨⟨_, hl⟩, hk⟩ := hk
    obtain ⟨k, hk0⟩ : ∃ k, ks[0]? = some k := ⟨_, List.getElem?_eq_getElem (by omega)⟩
    rw [hk0] at hk
    obtain ⟨v, rfl, hok⟩ := trod_kind hk h
    refine ⟨by simpa using hl.symm, fun i hi => ?_⟩
    obtain rfl : i = 0 := by omega
    rw [List.getD_eq_getElem?_getD, List.getD_eq_getElem?_getD, hk0]
    exact hok

theorem flat_cells {t : TypeId} {ks : List Bool} (hk : flatT P t ks = true) : P.cellsOf t = ks.length := by
  unfold flatT at hk
  split at hk
  · simp only [Bool.and_eq_true, beq_iff_eq] at hk; exact hk.1.1
  · simp only [Bool.and_eq_true, beq_iff_eq] at hk; omega

/-- A SLICE, OPENED. -/
theorem open_row {t e : TypeId} {ks : List Bool} {fuel : Nat} {v : Value} {d : DataW H} {ps : List MemPlace} (ht : P.underlying t = some (.slice e)) (hk : flatT P e ks = true) (hk0 : 0 < ks.length)
    (h : DataW.trod enc P w base spare held fuel t [v] = some (d, ps)) (hz : w.noneFrozen ps) :
    ∃ n xs, RowAt w v ks.length n xs ∧ ∀ j, j < n * ks.length → okKind (ks.getD (j % ks.length) true) (xs.getD j undef) := by
  rcases Go.Deep.open_slice ht h with ⟨hv, _⟩ | ⟨a, len, cap, m, q, D, Pl, hv, hb, hlc, hmx, hm, hx, hel⟩
  · simp only [List.cons.injEq, and_true] at hv
    subst hv
    exact ⟨0, [], ⟨by simp, Nat.zero_le _, none, 0, rfl, .inl rfl⟩, fun j hj => by simp at hj⟩
  simp only [List.cons.injEq, and_true] at hv
  subst hv
  have hce := flat_cells hk
  have hlm : len ≤ m := by rw [hm]; split <;> omega
  have hcell : ∀ j, j < len * ks.length → ∃ u, w.cell? (a.add j) = some u ∧ okKind (ks.getD (j % ks.length) true) u := by
    intro j hj
    have hi : j / ks.length < len := Nat.div_lt_of_lt_mul (by rw [Nat.mul_comm]; exact hj)
    have hr : j % ks.length < ks.length := Nat.mod_lt _ hk0
    obtain ⟨cs', h1, h2⟩ := hel (j / ks.length) (by omega)
    obtain ⟨_, hl, hc⟩ := World.cells?_some h1
    have h3 := hc (j % ks.length) (by rw [hce]; exact hr)
    rw [Go.Deep.add_add, hce, Nat.mul_comm, Nat.div_add_mod] at h3
    obtain ⟨h4, h5⟩ := trod_flat hk h2
    have h6 : cs'[j % ks.length]? = some (cs'.getD (j % ks.length) undef) := by
      rw [List.getD_eq_getElem?_getD, List.getElem?_eq_getElem (by omega)]; rfl
    rw [h6] at h3
    exact ⟨_, h3, h5 _ hr⟩
  refine ⟨len, (List.range (len * ks.length)).map fun j => (w.cell? (a.add j)).getD undef, ⟨by simp, by omega, some a, cap, rfl, ?_⟩, ?_⟩
  · rcases Nat.eq_zero_or_pos len with h0 | h0
    · exact .inl h0
    · right
      obtain ⟨u0, hu0, _⟩ := hcell 0 (Nat.mul_pos h0 hk0)
      have ha : a = ⟨a.block, a.off, none⟩ := by
        obtain ⟨b, off, spot⟩ := a
        have hspot : spot = none := by simpa [Addr.add] using World.cell?_spot hu0
        subst hspot
        rfl
      refine ⟨a.block, a.off, by rw [← ha], ?_, fun j u hj => ?_⟩
      · have := World.block_lt_of_cell? w _ hu0
        rw [ha] at this
        simpa [Addr.add] using this
      · have hjl : j < len * ks.length := by
          have := (List.getElem?_eq_some_iff.1 hj).1
          simpa using this
        obtain ⟨u', hu', _⟩ := hcell j hjl
        have hju : u = u' := by
          simp [hjl, hu'] at hj
          exact hj.symm
        subst hju
        refine ⟨?_, ?_⟩
        · rw [ha, Addr.add_lit] at hu'
          exact hu'
        · refine hz _ _ ?_
          have hx2 : ps = MemPlace.row a (m * P.cellsOf e) ++ (List.range m).flatMap Pl := (Prod.ext_iff.1 hx).2
          rw [hx2, List.mem_append]
          left
          unfold MemPlace.row
          rw [List.mem_map]
          refine ⟨j, List.mem_range.2 ?_, rfl⟩
          rw [hce]
          exact Nat.lt_of_lt_of_le hjl (Nat.mul_le_mul_right _ hlm)
  · intro j hj
    obtain ⟨u', hu', hok⟩ := hcell j hj
    have hg : ((List.range (len * ks.length)).map fun j => (w.cell? (a.add j)).getD undef).getD j undef = u' := by
      rw [List.getD_eq_getElem?_getD]
      simp only [List.getElem?_map, List.getElem?_range hj, Option.map_some, Option.getD_some, hu']
    rw [hg]
    exact hok

theorem float_list {n : Nat} {xs : List Value} (hl : xs.length = n) (h : ∀ j, j < n → okKind true (xs.getD j undef)) : ∃ l : List Nat, xs = fl l ∧ ∀ x ∈ l, x < 4294967296 := by
  have key : ∀ (ys : List Value), (∀ v ∈ ys, okKind true v) → ∃ l : List Nat, ys = fl l ∧ ∀ x ∈ l, x < 4294967296 := by
    intro ys
    induction ys with
    | nil => intro _; exact ⟨[], rfl, by simp⟩
    | cons y ys ih =>
      intro hy
      obtain ⟨b, rfl, hb⟩ := hy y (by simp)
      obtain ⟨l, h1, h2⟩ := ih (fun v hv => hy v (by simp [hv]))
      refine ⟨b :: l, by rw [h1]; rfl, ?_⟩
      intro x hx
      rcases List.mem_cons.1 hx with rfl | hx
      · exact hb
      · exact h2 x hx
  refine key xs fun v hv => ?_
  obtain ⟨j, hj, rfl⟩ := List.mem_iff_getElem.1 hv
  have := h j (by omega)
  rw [List.getD_eq_getElem?_getD, List.getElem?_eq_getElem hj] at this
  exact this

/-- A SLICE OF FLOATS, OR OF STRUCTS OF FLOATS, OPENED. -/
theorem open_floatrow {t e : TypeId} {c : Nat} {fuel : Nat} {v : Value} {d : DataW H} {ps : List MemPlace} (ht : P.underlying t = some (.slice e)) (hk : flatT P e (List.replicate c true) = true) (hc : 0 < c)
    (h : DataW.trod enc P w base spare held fuel t [v] = some (d, ps)) (hz : w.noneFrozen ps) : ∃ n l, RowAt w v c n (fl l) ∧ ∀ x ∈ l, x < 4294967296 := by
  obtain ⟨n, xs, h1, h2⟩ := open_row ht hk (by simpa using hc) h hz
  rw [List.length_replicate] at h1 h2
  obtain ⟨l, rfl, h3⟩ := float_list h1.1 (fun j hj => by
    have := h2 j hj
    rwa [List.getD_eq_getElem?_getD, List.getElem?_replicate, if_pos (Nat.mod_lt _ hc)] at this)
  exact ⟨n, l, h1, h3⟩
theorem open_rodrow {t e : TypeId} {fuel : Nat} {v : Value} {d : DataW H} {ps : List MemPlace} (ht : P.underlying t = some (.slice e)) (hk : flatT P e [false, false, true] = true)
    (h : DataW.trod enc P w base spare held fuel t [v] = some (d, ps)) (hz : w.noneFrozen ps) : ∃ n xs, RowAt w v 3 n xs ∧ RodL xs ∧ (∀ (j : Nat) (x : Nat), xs[j]? = some (Value.float FloatKind.f32 x) → x < 4294967296) := by
  obtain ⟨n, xs, h1, h2⟩ := open_row ht hk (by decide) h hz
  refine ⟨n, xs, h1, fun k hlt => ?_, fun j x hj => ?_⟩
  case refine_2 =>
    have hjl : j < xs.length := (List.getElem?_eq_some_iff.1 hj).1
    have hl : xs.length = n * 3 := h1.1
    have a := h2 j (by simp; omega)
    rw [show xs.getD j undef = .float .f32 x by rw [List.getD_eq_getElem?_getD, hj]; rfl] at a
    have h3 : j % 3 < 3 := Nat.mod_lt _ (by decide)
    simp only [List.length_cons, List.length_nil, Nat.zero_add, Nat.reduceAdd] at a
    rcases (show j % 3 = 0 ∨ j % 3 = 1 ∨ j % 3 = 2 by omega) with e | e | e <;> rw [e] at a
    · obtain ⟨_, ha⟩ := a; cases ha
    · obtain ⟨_, ha⟩ := a; cases ha
    · obtain ⟨_, ha, hb⟩ := a; cases ha; exact hb
  have hl : xs.length = n * 3 := h1.1
  have g : ∀ j, j < xs.length → xs[j]? = some (xs.getD j undef) := fun j hj => by rw [List.getD_eq_getElem?_getD, List.getElem?_eq_getElem hj]; rfl
  have a0 := h2 (k * 3) (by simp; omega)
  have a1 := h2 (k * 3 + 1) (by simp; omega)
  have a2 := h2 (k * 3 + 2) (by simp; omega)
  simp only [List.length_cons, List.length_nil, Nat.zero_add, Nat.reduceAdd] at a0 a1 a2
  rw [show k * 3 % 3 = 0 by omega] at a0
  rw [show (k * 3 + 1) % 3 = 1 by omega] at a1
  rw [show (k * 3 + 2) % 3 = 2 by omega] at a2
  obtain ⟨p, hp⟩ := a0
  obtain ⟨q, hq⟩ := a1
  obtain ⟨x, hx, _⟩ := a2
  exact ⟨p, q, x, by rw [g _ (by omega), hp], by rw [g _ (by omega), hq], by rw [g _ (by omega), hx]⟩

/-- A STRUCT OF ONE-CELL FIELDS, OPENED. -/
theorem open_fields {r : Reach} {b0 : Nat} {t : TypeId} {fs : Array Field} {T : List TypeId} {v : Value} {d : DataW H} {ps : List MemPlace} (ht : P.underlying t = some (.struct fs))
    (hf : (P.cellsOf t == T.length && fs.size == T.length && (List.range T.length).all fun i => match fs[i]? with
      | some f => f.offset == i && P.cellsOf f.type == 1 && f.type == T.getD i 0
      | none => false) = true)
    (hval : Value.okWide P w r b0 t v) (hd : DataW.Trod enc P w base spare held t v d ps) :
    ∃ cs : List Value, v = .agg cs.toArray ∧ cs.length = T.length ∧ ∀ i, i < T.length → ∃ n di pi, DataW.trod enc P w base spare held n (T.getD i 0) [cs.getD i undef] = some (di, pi) ∧ ∀ x ∈ pi, x ∈ ps := by
  simp only [Bool.and_eq_true, beq_iff_eq, List.all_eq_true, List.mem_range] at hf
  obtain ⟨⟨hc, hs⟩, hf⟩ := hf
  simp only [Value.okWide, ht] at hval
  obtain ⟨cs, rfl, hsz, _⟩ := hval
  obtain ⟨fuel, hd⟩ := hd
  obtain ⟨xs, n, rfl, hx, hl, hxl, hel⟩ := DataW.trod_struct ht hd
  have hx2 : ps = xs.flatMap (·.2) := (Prod.ext_iff.1 hx).2
  change cs.toList.length = _ at hl
  refine ⟨cs.toList, by simp, by simp; omega, fun i hi => ?_⟩
  have h1 := hf i hi
  have hfi : fs[i]? = some fs[i] := Array.getElem?_eq_getElem (by omega)
  rw [hfi] at h1
  simp only [Bool.and_eq_true, beq_iff_eq] at h1
  obtain ⟨⟨h2, h3⟩, h4⟩ := h1
  have h5 := hel i _ hfi
  rw [h2, h3, h4] at h5
  obtain ⟨y, h6⟩ : ∃ y, xs[i]? = some y := ⟨_, List.getElem?_eq_getElem (by omega)⟩
  rw [h6] at h5
  have hci : i < cs.toList.length := by simp; omega
  have h7 : (cs.toList.drop i).take 1 = [cs.toList.getD i undef] := by
    rw [List.getD_eq_getElem?_getD, List.getElem?_eq_getElem hci]
    rw [List.drop_eq_getElem_cons hci]
    simp
  change DataW.trod enc P w base spare held n _ ((cs.toList.drop i).take 1) = some y at h5
  rw [h7] at h5
  refine ⟨n, y.1, y.2, h5, fun x hx => ?_⟩
  rw [hx2, List.mem_flatMap]
  exact ⟨y, List.mem_of_getElem? h6, hx⟩
theorem open_f32 {t : TypeId} {fuel : Nat} {v : Value} {x : DataW H × List MemPlace} (hk : cellKind P t = some true) (h : DataW.trod enc P w base spare held fuel t [v] = some x) : ∃ b, v = .float .f32 b ∧ b < 4294967296 := by
  obtain ⟨u, hu, b, rfl, hb⟩ := trod_kind hk h
  simp only [List.cons.injEq, and_true] at hu
  exact ⟨b, hu, hb⟩
end
theorem vals2 {l : List Value} (h : l.length = 2) : ∃ a b, l = [a, b] := by
  match l, h with | [a, b], _ => exact ⟨a, b, rfl⟩
theorem vals4 {l : List Value} (h : l.length = 4) : ∃ a b c d, l = [a, b, c, d] := by
  match l, h with | [a, b, c, d], _ => exact ⟨a, b, c, d, rfl⟩

end Go.Proofs.Ytoiomgofbohmoaa
