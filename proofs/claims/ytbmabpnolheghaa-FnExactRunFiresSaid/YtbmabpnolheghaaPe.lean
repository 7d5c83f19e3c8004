/-
  slices.Sort and slices.Contains at []int64; the set and the sorted list.
-/
import Derived.Test.YtbmabpnolheghaaPc
import Derived.Shelf.SortM.Plain
import Derived.Shelf.SlicesG.Turned
import Derived.Ground.SlgmProg
import Derived.Ground.SlgnProg
set_option linter.unusedVariables false
set_option linter.unusedSimpArgs false
namespace Go.Proofs.Ytbmabpnolheghaa
open Go.RowKit

theorem putI_mem (k x : Int) : ∀ l : List Int, x ∈ putI k l ↔ x = k ∨ x ∈ l
  | [] => by simp [putI]
  | y :: l => by
    have ih := putI_mem k x l
    unfold putI
    split
    · simp only [List.mem_cons, ih]
      constructor
      · rintro (h | h | h)
        · exact .inr (.inl h)
        · exact .inl h
        · exact .inr (.inr h)
      · rintro (h | h | h)
        · exact .inr (.inl h)
        · exact .inl h
        · exact .inr (.inr h)
    · split
      · next h =>
        simp only [List.mem_cons]
        constructor
        · exact .inr
        · rintro (h2 | h2)
          · exact .inl (h2.trans h.symm)
          · exact h2
      · simp only [List.mem_cons]
theorem putI_sorted (k : Int) : ∀ l : List Int, l.Pairwise (· < ·) → (putI k l).Pairwise (· < ·)
  | [], _ => by simp [putI]
  | y :: l, h => by
    rw [List.pairwise_cons] at h
    unfold putI
    split
    · next h1 =>
      rw [List.pairwise_cons]
      refine ⟨?_, putI_sorted k l h.2⟩
      intro x hx
      rcases (putI_mem k x l).1 hx with rfl | h2
      · exact h1
      · exact h.1 x h2
    · split
      · exact List.pairwise_cons.2 h
      · next h1 h2 =>
        refine List.pairwise_cons.2 ⟨?_, List.pairwise_cons.2 h⟩
        intro x hx
        rcases List.mem_cons.1 hx with rfl | h3
        · omega
        · have := h.1 x h3
          omega
theorem setF_parts : ∀ (os acc : List Int), acc.Pairwise (· < ·) → (os.foldl (fun l n => putI n l) acc).Pairwise (· < ·) ∧ ∀ x, x ∈ os.foldl (fun l n => putI n l) acc ↔ x ∈ os ∨ x ∈ acc
  | [], acc, h => ⟨h, fun x => by simp⟩
  | k :: os, acc, h => by
    obtain ⟨h1, h2⟩ := setF_parts os (putI k acc) (putI_sorted k acc h)
    refine ⟨h1, fun x => ?_⟩
    rw [List.foldl_cons, h2 x, putI_mem, List.mem_cons]
    constructor
    · rintro (h | h | h)
      · exact .inl (.inr h)
      · exact .inl (.inl h)
      · exact .inr h
    · rintro ((h | h) | h)
      · exact .inr (.inl h)
      · exact .inl h
      · exact .inr (.inr h)
/-- Two lists that rise and have the same members are one. -/
theorem rise_one : ∀ {a b : List Int}, a.Pairwise (· < ·) → b.Pairwise (· < ·) → (∀ x, x ∈ a ↔ x ∈ b) → a = b
  | [], [], _, _, _ => rfl
  | [], y :: b, _, _, h => absurd ((h y).2 (by simp)) (by simp)
  | x :: a, [], _, _, h => absurd ((h x).1 (by simp)) (by simp)
  | x :: a, y :: b, ha, hb, h => by
    rw [List.pairwise_cons] at ha hb
    have hxy : x = y := by
      have h1 := (h x).1 (by simp)
      have h2 := (h y).2 (by simp)
      rcases List.mem_cons.1 h1 with h1 | h1
      · exact h1
      · rcases List.mem_cons.1 h2 with h2 | h2
        · exact h2.symm
        · have h3 := hb.1 x h1
          have h4 := ha.1 y h2
          omega
    subst hxy
    rw [rise_one ha.2 hb.2 (fun z => ?_)]
    have hz := h z
    rw [List.mem_cons, List.mem_cons] at hz
    constructor
    · intro h1
      rcases hz.1 (.inr h1) with rfl | h2
      · exact absurd (ha.1 z h1) (Int.lt_irrefl _)
      · exact h2
    · intro h1
      rcases hz.2 (.inr h1) with rfl | h2
      · exact absurd (hb.1 z h1) (Int.lt_irrefl _)
      · exact h2
def sortI (os : List Int) : List Int := os.mergeSort fun x y => decide (x ≤ y)
theorem sort_set {os : List Int} (h : os.Nodup) : sortI os = setF os := by
  obtain ⟨h1, h2⟩ := setF_parts os [] List.Pairwise.nil
  have hp : (sortI os).Perm os := List.mergeSort_perm _ _
  refine rise_one ?_ h1 (fun x => ?_)
  · have hs : (sortI os).Pairwise (fun a b => decide (a ≤ b) = true) := List.pairwise_mergeSort (fun a b c hab hbc => by simp at hab hbc ⊢; omega) (fun a b => by simp; omega) os
    have hn : (sortI os).Pairwise (· ≠ ·) := hp.symm.nodup h
    exact (hs.and hn).imp (fun hab => by obtain ⟨h3, h4⟩ := hab; simp at h3; omega)
  · rw [hp.mem_iff]
    show x ∈ os ↔ x ∈ os.foldl (fun l n => putI n l) []
    rw [h2 x]
    simp
theorem sortI_length (os : List Int) : (sortI os).length = os.length := (List.mergeSort_perm _ _).length_eq

open Go.Shelf
def sortRen : Go.Shelf.Ren := ⟨fun | 5 => 160 | 8 => 180 | 7 => 179 | 19 => 200 | 20 => 201 | 10 => 191 | 11 => 192 | 12 => 193 | 13 => 194 | 14 => 195 | 15 => 196 | 16 => 197 | 17 => 198 | 18 => 199 | 30 => 207 | 31 => 208 | 32 => 209 | 33 => 210 | 34 => 211 | 35 => 212 | 40 => 218 | n => n, fun | 23 => 80 | 25 => 2 | 3 => 3 | 32 => 196 | 22 => 80 | 0 => 0 | 44 => 154 | 46 => 209 | 4 => 4 | 36 => 213 | 35 => 212 | 41 => 218 | 5 => 5 | 9 => 9 | 53 => 223 | 57 => 227 | 63 => 237 | 64 => 238 | n => n, fun | n => n⟩
theorem sortLays : SlLaysM.n5 Try.prog sortRen := {
  mixed := by kernel_rfl
  f5 := ⟨Try.f160.name, by decide, Try.func160.trans (congrArg some (by kernel_rfl))⟩
  f7 := ⟨Try.f179.name, by decide, Try.func179.trans (congrArg some (by kernel_rfl))⟩
  f8 := Try.func180.trans (congrArg some (by kernel_rfl))
  f10 := ⟨Try.f191.name, by decide, Try.func191.trans (congrArg some (by kernel_rfl))⟩
  f11 := ⟨Try.f192.name, by decide, Try.func192.trans (congrArg some (by kernel_rfl))⟩
  f12 := ⟨Try.f193.name, by decide, Try.func193.trans (congrArg some (by kernel_rfl))⟩
  f13 := ⟨Try.f194.name, by decide, Try.func194.trans (congrArg some (by kernel_rfl))⟩
  f14 := ⟨Try.f195.name, by decide, Try.func195.trans (congrArg some (by kernel_rfl))⟩
  f15 := ⟨Try.f196.name, by decide, Try.func196.trans (congrArg some (by kernel_rfl))⟩
  f16 := ⟨Try.f197.name, by decide, Try.func197.trans (congrArg some (by kernel_rfl))⟩
  f17 := ⟨Try.f198.name, by decide, Try.func198.trans (congrArg some (by kernel_rfl))⟩
  f18 := ⟨Try.f199.name, by decide, Try.func199.trans (congrArg some (by kernel_rfl))⟩
  f19 := Try.func200.trans (congrArg some (by kernel_rfl))
  f20 := Try.func201.trans (congrArg some (by kernel_rfl))
  f30 := ⟨Try.f207.name, by decide, Try.func207.trans (congrArg some (by kernel_rfl))⟩
  f31 := Try.func208.trans (congrArg some (by kernel_rfl))
  f32 := Try.func209.trans (congrArg some (by kernel_rfl))
  f33 := ⟨Try.f210.name, by decide, Try.func210.trans (congrArg some (by kernel_rfl))⟩
  f34 := ⟨Try.f211.name, by decide, Try.func211.trans (congrArg some (by kernel_rfl))⟩
  f35 := ⟨Try.f212.name, by decide, Try.func212.trans (congrArg some (by kernel_rfl))⟩
  f40 := ⟨Try.f218.name, by decide, Try.func218.trans (congrArg some (by kernel_rfl))⟩
  t0 := Try.underlying0
  a0 := Try.isAgg0
  z0 := Try.sizeOf0
  v0 := Try.zeroValue0
  t3 := Try.underlying3
  a3 := Try.isAgg3
  z3 := Try.sizeOf3
  v3 := Try.zeroValue3
  t4 := Try.underlying4
  a4 := Try.isAgg4
  z4 := Try.sizeOf4
  v4 := Try.zeroValue4
  t5 := Try.underlying5
  a5 := Try.isAgg5
  z5 := Try.sizeOf5
  v5 := Try.zeroValue5
  t9 := Try.underlying9
  a9 := Try.isAgg9
  z9 := Try.sizeOf9
  v9 := Try.zeroValue9
  t22 := Try.underlying80
  a22 := Try.isAgg80
  z22 := Try.sizeOf80
  v22 := Try.zeroValue80
  t23 := Try.underlying80
  a23 := Try.isAgg80
  z23 := Try.sizeOf80
  v23 := Try.zeroValue80
  t25 := Try.underlying2
  a25 := Try.isAgg2
  z25 := Try.sizeOf2
  v25 := Try.zeroValue2
  t32 := Try.underlying196
  a32 := Try.isAgg196
  z32 := Try.sizeOf196
  v32 := Try.zeroValue196
  t35 := Try.underlying212
  a35 := Try.isAgg212
  z35 := Try.sizeOf212
  v35 := Try.zeroValue212
  t36 := Try.underlying213
  a36 := Try.isAgg213
  z36 := Try.sizeOf213
  v36 := Try.zeroValue213
  t41 := Try.underlying218
  a41 := Try.isAgg218
  z41 := Try.sizeOf218
  v41 := Try.zeroValue218
  t44 := Try.underlying154
  a44 := Try.isAgg154
  z44 := Try.sizeOf154
  v44 := Try.zeroValue154
  t46 := Try.underlying209
  a46 := Try.isAgg209
  z46 := Try.sizeOf209
  v46 := Try.zeroValue209
  t53 := Try.underlying223
  a53 := Try.isAgg223
  z53 := Try.sizeOf223
  v53 := Try.zeroValue223
  t57 := Try.underlying227
  a57 := Try.isAgg227
  z57 := Try.sizeOf227
  v57 := Try.zeroValue227
  t63 := Try.underlying237
  a63 := Try.isAgg237
  z63 := Try.sizeOf237
  v63 := Try.zeroValue237
  t64 := Try.underlying238
  a64 := Try.isAgg238
  z64 := Try.sizeOf238
  v64 := Try.zeroValue238 }
def contRen : Go.Shelf.Ren := ⟨fun | 31 => 159 | 29 => 178 | n => n, fun | 22 => 80 | 23 => 2 | 4 => 4 | 3 => 3 | 0 => 0 | n => n, fun | n => n⟩
theorem contLays : SlLaysN.n31 Try.prog contRen := {
  mixed := by kernel_rfl
  f29 := ⟨Try.f178.name, by decide, Try.func178.trans (congrArg some (by kernel_rfl))⟩
  f31 := ⟨Try.f159.name, by decide, Try.func159.trans (congrArg some (by kernel_rfl))⟩
  t0 := Try.underlying0
  a0 := Try.isAgg0
  z0 := Try.sizeOf0
  v0 := Try.zeroValue0
  t3 := Try.underlying3
  a3 := Try.isAgg3
  z3 := Try.sizeOf3
  v3 := Try.zeroValue3
  t4 := Try.underlying4
  a4 := Try.isAgg4
  z4 := Try.sizeOf4
  v4 := Try.zeroValue4
  t22 := Try.underlying80
  a22 := Try.isAgg80
  z22 := Try.sizeOf80
  v22 := Try.zeroValue80
  t23 := Try.underlying2
  a23 := Try.isAgg2
  z23 := Try.sizeOf2
  v23 := Try.zeroValue2 }
theorem sorted_own {B g n cap : Nat} {os : List Int} {w : World} {e : TypeId} (ho : w.ownsRow B e 1 (.slice (some ⟨g, 0, none⟩) n cap) n (il os)) (k : Nat) (xs : List Int) (hx : xs.length = n) (ob : Array Obj) :
    (Go.Sort.grow (Go.Sort.putRow (Value.int .i64) (Go.Sort.ahead w k) g 0 xs.toArray) ob).ownsRow B e 1 (.slice (some ⟨g, 0, none⟩) n cap) n (il xs) ∧ Kept w (Go.Sort.grow (Go.Sort.putRow (Value.int .i64) (Go.Sort.ahead w k) g 0 xs.toArray) ob) [some g] := by
  have hg := (ownsRow_lt ho g rfl).2
  obtain ⟨h1, h2⟩ := ho
  rcases h2 with ⟨h3, _⟩ | ⟨g', cap', cur, h3, h4, h5, h6, h7, h8, h9⟩
  · cases h3
  cases h3
  have hh : (Go.Sort.putRow (Value.int .i64) (Go.Sort.ahead w k) g 0 xs.toArray).heap[g]? = some (.cells (Go.Sort.putCells (Value.int .i64) 0 xs.toArray cur) e (0, 0)) := by
    unfold Go.Sort.putRow Go.Sort.mapBlock Go.Sort.ahead
    simp [Array.getElem?_modify, h5, Go.Sort.onCells]
  have hsz : (Go.Sort.putRow (Value.int .i64) (Go.Sort.ahead w k) g 0 xs.toArray).heap.size = w.heap.size := by
    unfold Go.Sort.putRow Go.Sort.mapBlock Go.Sort.ahead
    simp
  refine ⟨⟨by rw [il_length]; omega, .inr ⟨g, cap, _, rfl, h4, by rw [Go.Sort.heap_grow_old _ _ (by rw [hsz]; exact hg)]; exact hh, h6, h7, by unfold Go.Sort.putCells; simpa using h8, ?_⟩⟩, ⟨rfl, rfl, rfl, by rw [← hsz]; unfold Go.Sort.grow; simp, ?_⟩⟩
  · apply List.ext_getElem?
    intro j
    rw [List.getElem?_take, Nat.mul_one]
    unfold Go.Sort.putCells
    rcases Nat.lt_or_ge j n with hj | hj
    · rw [if_pos hj, il_get (by omega)]
      have hc : j < cur.size := by omega
      simp [hc, hx, hj, List.getD_eq_getElem?_getD, List.getElem?_eq_getElem (show j < xs.length by omega)]
    · rw [if_neg (by omega), List.getElem?_eq_none (by rw [il_length]; omega)]
  · intro i hi hne
    rw [Go.Sort.heap_grow_old _ _ (by rw [hsz]; exact hi)]
    unfold Go.Sort.putRow Go.Sort.mapBlock Go.Sort.ahead
    have : ¬ g = i := fun e => hne (by simp [e])
    simp [Array.getElem?_modify, this]
theorem slicesSort_any (B g n cap : Nat) (os : List Int) (w : World) (ho : w.ownsRow B 2 1 (.slice (some ⟨g, 0, none⟩) n cap) n (il os)) (hn : n ≤ 100) : Calls Try.prog 160 #[.slice (some ⟨g, 0, none⟩) n cap] w fun e w' => e = .returned (.tuple #[]) ∧ w'.ownsRow B 2 1 (.slice (some ⟨g, 0, none⟩) n cap) n (il (sortI os)) ∧ Kept w w' [some g] := by
  have hl : os.length = n := by have := ho.1; rw [il_length] at this; omega
  have hg := (ownsRow_lt ho g rfl).2
  have hH : Go.Sort.Holds (Value.int .i64) w g 0 os.toArray := by
    intro j hj
    have hj' : j < os.length := by simpa using hj
    rw [Nat.zero_add]
    refine ⟨?_, ho.frozenAt j⟩
    rw [(ho.cellAt j (by omega)).trans (il_get hj')]
    simp [hj', List.getD_eq_getElem?_getD, List.getElem?_eq_getElem hj']
  have key := AnyM.slices_Sort_int sortLays g 0 cap os w hH hg (by omega)
  rw [hl] at key
  refine Calls.mono (show Calls Try.prog 160 _ w _ from key) ?_
  rintro e w' ⟨rfl, k, ob, rfl⟩
  have h9 := sorted_own ho k (sortI os) (by rw [sortI_length]; exact hl) ob
  exact ⟨rfl, h9.1, h9.2⟩
theorem slicesContains_any (u : Value) (n : Nat) (os : List Int) (k : Int) (w : World) (h : RowAt w u 1 n (il os)) (hu : ∃ g c, u = .slice (some ⟨g, 0, none⟩) n c) : Calls Try.prog 159 #[u, .int .i64 k] w fun e w' => e = .returned (.bool (decide (k ∈ os))) ∧ w' = w := by
  obtain ⟨g, c, rfl⟩ := hu
  obtain ⟨h1, h2, ao, cap, e9, h3⟩ := h
  cases e9
  rw [il_length, Nat.mul_one] at h1
  have key := AnyG.slices_Contains_int contLays g 0 n c os k w (by omega) h2 (fun j hj => by
    obtain ⟨b, o, e8, _, hc⟩ := h3.resolve_left (by omega)
    cases e8
    exact (hc j _ (il_get hj)).1)
  refine Calls.mono (show Calls Try.prog 159 _ w _ from key) ?_
  rintro e w' ⟨rfl, rfl⟩
  refine ⟨ret_bool ?_, rfl⟩
  rw [List.take_of_length_le (by omega)]
  rw [Bool.eq_iff_iff, List.contains_iff_mem, decide_eq_true_eq]

end Go.Proofs.Ytbmabpnolheghaa
