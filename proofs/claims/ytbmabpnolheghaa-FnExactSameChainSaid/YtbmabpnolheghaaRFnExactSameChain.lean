/-
  The law FnExactSameChain returns true at every input, and its arguments read behind the call as they read before: the given row 'Rows.FnExactSameChainSaid', without a condition.
-/
import Derived.Test.YtbmabpnolheghaaRows
import Derived.Test.YtbmabpnolheghaaSl
import Derived.Test.YtbmabpnolheghaaRw
import Derived.Test.YtbmabpnolheghaaRx
import Derived.WalkKit
import Derived.ProofKit
import Derived.OpenShut
import Derived.ShutString
import Derived.ChangeOld
import Derived.Below
import Derived.SizedLaws
set_option linter.unusedVariables false
namespace Go.Proofs.Ytbmabpnolheghaa.fnExactSameChain
open Go.ChangeShapes Go.WideShapes Go.ChangeAt Go.RowKit
open Go.ChangeMaps (open_string shut_string)
theorem own : ownKnob Try.prog.godebug = none := by kernel_rfl
theorem laidOut : laidOutB Try.prog = true := by kernel_rfl
set_option maxRecDepth 100000 in
theorem lifted (os : Os) (started : os.Started) (H : Type) (enc : TypeId × Value → H) :
    ReturnsInHanded {} Try.checked os 9 .any (Rows.fnExactSameChainSpec.pre6 enc Try.prog Try.f9 Rows.fnExactSameChainRow.domain false) (Rows.fnExactSameChainSpec.post enc Try.prog Try.f9 false true false false) := by
  refine returnsInHanded_of_change (C := Try.checked) own started (by kernel_rfl) Try.func9
    (ChangeSpec.witness6 (enc := enc) (C := Try.checked) false ⟨#[], #[.agg #[.slice none 0 0, .slice none 0 0, .slice none 0 0, .slice none 0 0], .agg #[.slice none 0 0, .slice none 0 0, .slice none 0 0, .slice none 0 0]], []⟩ 8 (by kernel_rfl) (by kernel_rfl) (by kernel_rfl) (by kernel_rfl)) ?_
  intro W base args ds gs before hval0 hW hcnd _
  have hval : ∀ (j : Nat) t v, Try.f9.params[j]? = some t → args[j]? = some v → Value.okWide Try.prog W .any base t v := hval0
  have hW' := hW
  obtain ⟨p, q, hA0, hV, rfl, hfz, hnd⟩ := hW
  have hA : DataW.TrodAll enc Try.prog W 0 (fun _ => true) true Try.f9.params.toList args.toList ds p := hA0
  rw [Try.params9] at hA hval
  obtain ⟨v0, vs0, d0, ds0, p0, q0, hargs, rfl, rfl, h0, r0⟩ := trodAll_cons hA
  obtain ⟨v1, vs1, d1, ds1, p1, q1, rfl, rfl, rfl, h1, r1⟩ := trodAll_cons r0
  obtain ⟨rfl, rfl, rfl⟩ := trodAll_nil r1
  obtain rfl : args = #[v0, v1] := by cases args; simp_all
  obtain ⟨rfl, rfl⟩ := trodVars_none hV
  have lt0 : ∀ x ∈ p0, x.block < W.heap.size := by obtain ⟨m, hm⟩ := h0; exact DataW.trod_lt m _ _ _ hm
  obtain ⟨l0, rfl, hl0, hx0⟩ := open_fields (T := [54, 54, 42, 55]) Try.underlying57 (by kernel_rfl) (hval 0 57 v0 rfl rfl) h0
  obtain ⟨c0_0, c0_1, c0_2, c0_3, rfl⟩ := vals4 hl0
  obtain ⟨_, _, _, e0_0, s0_0⟩ := hx0 0 (by simp)
  obtain ⟨n0_0, y0_0, R0_0, B0_0⟩ := open_floatrow (c := 3) (t := 54) (e := 36) (v := c0_0) Try.underlying54 (by kernel_rfl) (by decide) e0_0 (fun a b hm => hfz a b (by have := s0_0 _ hm; simp [this]))
  obtain ⟨_, _, _, e0_1, s0_1⟩ := hx0 1 (by simp)
  obtain ⟨n0_1, y0_1, R0_1, B0_1⟩ := open_floatrow (c := 3) (t := 54) (e := 36) (v := c0_1) Try.underlying54 (by kernel_rfl) (by decide) e0_1 (fun a b hm => hfz a b (by have := s0_1 _ hm; simp [this]))
  obtain ⟨_, _, _, e0_2, s0_2⟩ := hx0 2 (by simp)
  obtain ⟨n0_2, y0_2, R0_2, B0_2⟩ := open_floatrow (c := 1) (t := 42) (e := 23) (v := c0_2) Try.underlying42 (by kernel_rfl) (by decide) e0_2 (fun a b hm => hfz a b (by have := s0_2 _ hm; simp [this]))
  obtain ⟨_, _, _, e0_3, s0_3⟩ := hx0 3 (by simp)
  obtain ⟨n0_3, y0_3, R0_3, B0_3, Q0_3⟩ := open_rodrow (t := 55) (e := 166) (v := c0_3) Try.underlying55 (by kernel_rfl) e0_3 (fun a b hm => hfz a b (by have := s0_3 _ hm; simp [this]))
  have lt1 : ∀ x ∈ p1, x.block < W.heap.size := by obtain ⟨m, hm⟩ := h1; exact DataW.trod_lt m _ _ _ hm
  obtain ⟨l1, rfl, hl1, hx1⟩ := open_fields (T := [54, 54, 42, 55]) Try.underlying57 (by kernel_rfl) (hval 1 57 v1 rfl rfl) h1
  obtain ⟨c1_0, c1_1, c1_2, c1_3, rfl⟩ := vals4 hl1
  obtain ⟨_, _, _, e1_0, s1_0⟩ := hx1 0 (by simp)
  obtain ⟨n1_0, y1_0, R1_0, B1_0⟩ := open_floatrow (c := 3) (t := 54) (e := 36) (v := c1_0) Try.underlying54 (by kernel_rfl) (by decide) e1_0 (fun a b hm => hfz a b (by have := s1_0 _ hm; simp [this]))
  obtain ⟨_, _, _, e1_1, s1_1⟩ := hx1 1 (by simp)
  obtain ⟨n1_1, y1_1, R1_1, B1_1⟩ := open_floatrow (c := 3) (t := 54) (e := 36) (v := c1_1) Try.underlying54 (by kernel_rfl) (by decide) e1_1 (fun a b hm => hfz a b (by have := s1_1 _ hm; simp [this]))
  obtain ⟨_, _, _, e1_2, s1_2⟩ := hx1 2 (by simp)
  obtain ⟨n1_2, y1_2, R1_2, B1_2⟩ := open_floatrow (c := 1) (t := 42) (e := 23) (v := c1_2) Try.underlying42 (by kernel_rfl) (by decide) e1_2 (fun a b hm => hfz a b (by have := s1_2 _ hm; simp [this]))
  obtain ⟨_, _, _, e1_3, s1_3⟩ := hx1 3 (by simp)
  obtain ⟨n1_3, y1_3, R1_3, B1_3, Q1_3⟩ := open_rodrow (t := 55) (e := 166) (v := c1_3) Try.underlying55 (by kernel_rfl) e1_3 (fun a b hm => hfz a b (by have := s1_3 _ hm; simp [this]))
  clear hA0 hval0
  refine (lawSameChain_walk c0_0 n0_0 y0_0 c0_1 n0_1 y0_1 c0_2 n0_2 y0_2 c0_3 n0_3 y0_3 c1_0 n1_0 y1_0 c1_1 n1_1 y1_1 c1_2 n1_2 y1_2 c1_3 n1_3 y1_3 W R0_0 R0_1 R0_2 R0_3 B0_3 Q0_3 R1_0 R1_1 R1_2 R1_3 B1_3 Q1_3 B0_0 B0_1 B0_2 B1_0 B1_1 B1_2).mono fun e W' ⟨he, bel⟩ => ?_
  subst he
  exact ⟨_, rfl, _, _, _, [], _, [], hW', trodAll_mk1 (shut_bool Try.underlying4 _), (trodAll_cons_mk (Below.trod laidOut (by kernel_rfl) (of_decide_eq_true (by kernel_rfl)) h0 bel lt0) (trodAll_cons_mk (Below.trod laidOut (by kernel_rfl) (of_decide_eq_true (by kernel_rfl)) h1 bel lt1) trodAll_mk0)), rfl, bel.frame _, fun h => by cases h⟩
theorem proved : Rows.FnExactSameChainSaid :=
  OpenClaim.holds_of_wide 9 Try.f9 rfl rfl rfl rfl rfl rfl rfl ⟨rfl, rfl, rfl, rfl, rfl⟩ rfl rfl rfl rfl rfl (by kernel_rfl) Try.func9 (by kernel_rfl)
    (of_decide_eq_true (by kernel_rfl)) (by unfold Func.isWrapper; first | (rw [if_pos (by decide +kernel)]; kernel_rfl) | (rw [if_neg (by decide +kernel)]; exact ⟨rfl, rfl⟩))
    (fun os started H enc _ => lifted os started H enc)
#print axioms proved
end Go.Proofs.Ytbmabpnolheghaa.fnExactSameChain
