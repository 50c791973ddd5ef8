/-
  PartsDiffSets: of every two numbers of sixteen bits the law answers true: all that can be read as data; no condition.
-/
import Derived.Test.YtnfcnpdpfgcchaaGreatRows
import Derived.Test.YtnfcnpdpfgcchaaGreatPartsDiffSetsF
set_option linter.unusedVariables false
set_option linter.unusedSimpArgs false
namespace Go.Proofs.YtnfcnpdpfgcchaaGreat.partsDiffSets
open Go.ChangeShapes Go.WideShapes Go.ChangeAt Go.RowKit Go.MV
theorem own : ownKnob Tryz.prog.godebug = none := by kernel_rfl
theorem laidOut : laidOutB Tryz.prog = true := by kernel_rfl
theorem tok : okTypes Tryz.prog [46] = true := by kernel_rfl
set_option maxRecDepth 100000 in
theorem lifted (os : Os) (started : os.Started) (H : Type) (enc : TypeId × Value → H) :
    ReturnsInHanded {} Tryz.checked os 5 .any (Rows.partsDiffSetsSpec.pre6 enc Tryz.prog Tryz.f5 Rows.partsDiffSetsRow.domain false) (Rows.partsDiffSetsSpec.post enc Tryz.prog Tryz.f5 false true false false) := by
  refine returnsInHanded_of_change_sized (C := Tryz.checked) own started (by kernel_rfl) Tryz.func5
    (ChangeSpec.witness6 (enc := enc) (C := Tryz.checked) false ⟨#[], #[.int .u16 0, .int .u16 0], []⟩ 8 (by kernel_rfl) (by kernel_rfl) (by kernel_rfl) (by kernel_rfl)) ?_
  intro W base args ds gs before hval0 hW hcnd hsz0 _
  have hval : ∀ (j : Nat) t v, Tryz.f5.params[j]? = some t → args[j]? = some v → Value.okWide Tryz.prog W .any base t v := hval0
  have hW' := hW
  obtain ⟨p, q, hA0, hV, rfl, hfz, hnd⟩ := hW
  have hA : DataW.TrodAll enc Tryz.prog W 0 (fun _ => true) true Tryz.f5.params.toList args.toList ds p := hA0
  rw [Tryz.params5] at hA hval
  obtain ⟨v0, vs0, d0, ds0, p0, q0, hargs, rfl, rfl, h0, r0⟩ := trodAll_cons hA
  obtain ⟨v1, vs1, d1, ds1, p1, q1, rfl, rfl, rfl, h1, r1⟩ := trodAll_cons r0
  obtain ⟨rfl, rfl, rfl⟩ := trodAll_nil r1
  obtain rfl : args = #[v0, v1] := by cases args; simp_all
  obtain ⟨rfl, rfl⟩ := trodVars_none hV
  have lt0 : ∀ x ∈ p0, x.block < W.heap.size := by obtain ⟨m, hm⟩ := h0; exact DataW.trod_lt m _ _ _ hm
  have lt1 : ∀ x ∈ p1, x.block < W.heap.size := by obtain ⟨m, hm⟩ := h1; exact DataW.trod_lt m _ _ _ hm
  obtain ⟨n0, k0, w0⟩ := arg_int tok (by simp) Tryz.underlying46 (hval 0 _ v0 rfl rfl) h0
  obtain ⟨n1, k1, w1⟩ := arg_int tok (by simp) Tryz.underlying46 (hval 1 _ v1 rfl rfl) h1
  clear hA0 hval0 hsz0
  obtain ⟨m0, rfl, hm0⟩ := wf_u16 w0
  obtain ⟨m1, rfl, hm1⟩ := wf_u16 w1
  refine (law_calls (PartsDiffSets_spec m0 m1 (by omega) (by omega) []) (.cons k0 (.cons k1 (.nil _ _)))).mono fun e W' ⟨he, bel⟩ => ?_
  subst he
  exact ⟨_, rfl, _, _, _, [], _, [], hW', trodAll_mk1 (shut_bool Tryz.underlying4 _), (trodAll_cons_mk (Below.trod laidOut (by kernel_rfl) (of_decide_eq_true (by kernel_rfl)) h0 bel lt0) (trodAll_cons_mk (Below.trod laidOut (by kernel_rfl) (of_decide_eq_true (by kernel_rfl)) h1 bel lt1) trodAll_mk0)), rfl, bel.frame _, fun h => by cases h⟩
theorem over : Rows.partsDiffSetsRow.holds Tryz.pinned (OpenSpec.ofChange Rows.partsDiffSetsSpec) :=
  OpenClaim.holds_of_wide 5 Tryz.f5 rfl rfl rfl rfl rfl rfl rfl ⟨rfl, rfl, rfl, rfl, rfl⟩ rfl rfl rfl rfl rfl (by kernel_rfl) Tryz.func5 (by kernel_rfl)
    (of_decide_eq_true (by kernel_rfl)) (by unfold Func.isWrapper; first | (rw [if_pos (by decide +kernel)]; kernel_rfl) | (rw [if_neg (by decide +kernel)]; exact ⟨rfl, rfl⟩))
    (fun os started H enc _ => lifted os started H enc)
theorem proved : Rows.PartsDiffSetsSaid := over
#print axioms proved
end Go.Proofs.YtnfcnpdpfgcchaaGreat.partsDiffSets
namespace Go.Proofs.YtnfcnpdpfgcchaaGreat
theorem partsDiffSets_holds : Rows.PartsDiffSetsSaid := partsDiffSets.proved
end Go.Proofs.YtnfcnpdpfgcchaaGreat
