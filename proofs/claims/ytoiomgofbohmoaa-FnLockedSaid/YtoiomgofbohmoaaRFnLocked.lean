/-
  The law FnLocked returns true at every input, and its arguments read behind the call as they read before: the given row 'Rows.FnLockedSaid', without a condition.
-/
import Derived.Test.YtoiomgofbohmoaaRows
import Derived.Test.YtoiomgofbohmoaaLk
import Derived.Test.YtoiomgofbohmoaaRw
import Derived.Test.YtoiomgofbohmoaaRx
import Derived.Test.YtoiomgofbohmoaaLl
import Derived.WalkKit
import Derived.ProofKit
import Derived.OpenShut
import Derived.ShutString
import Derived.ChangeOld
import Derived.Below
import Derived.SizedLaws
set_option linter.unusedVariables false
namespace Go.Proofs.Ytoiomgofbohmoaa.fnLocked
open Go.ChangeShapes Go.WideShapes Go.ChangeAt Go.RowKit
open Go.ChangeMaps (open_string shut_string)
theorem own : ownKnob Try.prog.godebug = none := by kernel_rfl
theorem laidOut : laidOutB Try.prog = true := by kernel_rfl
set_option maxRecDepth 100000 in
theorem lifted (os : Os) (started : os.Started) (H : Type) (enc : TypeId × Value → H) :
    ReturnsInHanded {} Try.checked os 3 .any (Rows.fnLockedSpec.pre6 enc Try.prog Try.f3 Rows.fnLockedRow.domain false) (Rows.fnLockedSpec.post enc Try.prog Try.f3 false true false false) := by
  refine returnsInHanded_of_change (C := Try.checked) own started (by kernel_rfl) Try.func3
    (ChangeSpec.witness6 (enc := enc) (C := Try.checked) false ⟨#[], #[.slice none 0 0, .slice none 0 0], []⟩ 8 (by kernel_rfl) (by kernel_rfl) (by kernel_rfl) (by kernel_rfl)) ?_
  intro W base args ds gs before hval0 hW hcnd _
  have hval : ∀ (j : Nat) t v, Try.f3.params[j]? = some t → args[j]? = some v → Value.okWide Try.prog W .any base t v := hval0
  have hW' := hW
  obtain ⟨p, q, hA0, hV, rfl, hfz, hnd⟩ := hW
  have hA : DataW.TrodAll enc Try.prog W 0 (fun _ => true) true Try.f3.params.toList args.toList ds p := hA0
  rw [Try.params3] at hA hval
  obtain ⟨v0, vs0, d0, ds0, p0, q0, hargs, rfl, rfl, h0, r0⟩ := trodAll_cons hA
  obtain ⟨v1, vs1, d1, ds1, p1, q1, rfl, rfl, rfl, h1, r1⟩ := trodAll_cons r0
  obtain ⟨rfl, rfl, rfl⟩ := trodAll_nil r1
  obtain rfl : args = #[v0, v1] := by cases args; simp_all
  obtain ⟨rfl, rfl⟩ := trodVars_none hV
  have lt0 : ∀ x ∈ p0, x.block < W.heap.size := by obtain ⟨m, hm⟩ := h0; exact DataW.trod_lt m _ _ _ hm
  obtain ⟨f0, hf0⟩ := h0
  obtain ⟨sa0, sl0, sc0, hsh0⟩ := okWide_slice Try.underlying22 (hval 0 22 v0 rfl rfl)
  have hg0 : DataW.trod enc Try.prog W 0 (fun _ => true) true f0 22 [v0] = some (d0, p0) := by rw [hsh0] at hf0 ⊢; exact hf0
  obtain ⟨n0_0, y0_0, R0_0, B0_0⟩ := open_byterow (t := 22) (e := 5) (v := v0) Try.underlying22 Try.underlying5 (by kernel_rfl) hg0 (fun a b hm => hfz a b (by have := hm; simp [this]))
  have h0 : DataW.Trod enc Try.prog W 0 (fun _ => true) true 22 v0 d0 p0 := ⟨_, hf0⟩
  have lt1 : ∀ x ∈ p1, x.block < W.heap.size := by obtain ⟨m, hm⟩ := h1; exact DataW.trod_lt m _ _ _ hm
  obtain ⟨f1, hf1⟩ := h1
  obtain ⟨sa1, sl1, sc1, hsh1⟩ := okWide_slice Try.underlying22 (hval 1 22 v1 rfl rfl)
  have hg1 : DataW.trod enc Try.prog W 0 (fun _ => true) true f1 22 [v1] = some (d1, p1) := by rw [hsh1] at hf1 ⊢; exact hf1
  obtain ⟨n1_0, y1_0, R1_0, B1_0⟩ := open_byterow (t := 22) (e := 5) (v := v1) Try.underlying22 Try.underlying5 (by kernel_rfl) hg1 (fun a b hm => hfz a b (by have := hm; simp [this]))
  have h1 : DataW.Trod enc Try.prog W 0 (fun _ => true) true 22 v1 d1 p1 := ⟨_, hf1⟩
  clear hA0 hval0
  refine (lawLocked_walk v0 n0_0 y0_0 v1 n1_0 y1_0 W R0_0 R1_0 B0_0 B1_0).mono fun e W' ⟨he, bel⟩ => ?_
  subst he
  exact ⟨_, rfl, _, _, _, [], _, [], hW', trodAll_mk1 (shut_bool Try.underlying4 _), (trodAll_cons_mk (Below.trod laidOut (by kernel_rfl) (of_decide_eq_true (by kernel_rfl)) h0 bel lt0) (trodAll_cons_mk (Below.trod laidOut (by kernel_rfl) (of_decide_eq_true (by kernel_rfl)) h1 bel lt1) trodAll_mk0)), rfl, bel.frame _, fun h => by cases h⟩
theorem proved : Rows.FnLockedSaid :=
  OpenClaim.holds_of_wide 3 Try.f3 rfl rfl rfl rfl rfl rfl rfl ⟨rfl, rfl, rfl, rfl, rfl⟩ rfl rfl rfl rfl rfl (by kernel_rfl) Try.func3 (by kernel_rfl)
    (of_decide_eq_true (by kernel_rfl)) (by unfold Func.isWrapper; first | (rw [if_pos (by decide +kernel)]; kernel_rfl) | (rw [if_neg (by decide +kernel)]; exact ⟨rfl, rfl⟩))
    (fun os started H enc _ => lifted os started H enc)
#print axioms proved
end Go.Proofs.Ytoiomgofbohmoaa.fnLocked
