/-
  PostOrders: of every two numbers of eight bits and yes or no the law answers true, as a tied card: all that can be read as data; the two tables of unicode/utf8 as the text lays them.
-/
import Derived.Test.YtciimaabeabkdaaGreatDoorRows
import Derived.Test.YtciimaabeabkdaaGreatDoorPostOrdersG
import Derived.Test.YtciimaabeabkdaaGreatDoorCards
import Derived.Test.YtciimaabeabkdaaGreatDoorTie
import Derived.ChangeVars
import Derived.JoinedOf
import Derived.LaidLaws
import Derived.LaidHandle
import Derived.Stop.Joined
import Derived.SevenTiedAt
set_option linter.unusedVariables false
set_option linter.unusedSimpArgs false
namespace Go.Proofs.YtciimaabeabkdaaGreatDoor.postOrders
open Go Go.ChangeShapes Go.WideShapes Go.ChangeAt Go.RowKit Go.MV
theorem own : ownKnob Tryz.prog.godebug = none := by kernel_rfl
theorem laidOut : laidOutB Tryz.prog = true := by kernel_rfl
theorem tok : okTypes Tryz.prog [5, 4] = true := by kernel_rfl

abbrev laidL : List (String × DataW Unit) := [("unicode/utf8.acceptRanges", Rows.laid_unicode_utf8_acceptRanges), ("unicode/utf8.first", Rows.laid_unicode_utf8_first)]
def cell1 : DataW Unit → Value
  | .lit (.int k n) => .int k n
  | _ => .int .u8 0
def cells1 : DataW Unit → List Value
  | .agg l => l.map cell1
  | _ => []
def cells2 : DataW Unit → List Value
  | .agg l => l.flatMap cells1
  | _ => []
/-- A world that meets the condition. -/
noncomputable def laidWorld (os : Os) : World :=
  let w0 := World.holding Tryz.prog os ⟨#[], #[], []⟩
  { w0 with heap := (w0.heap.modify 2 fun
      | .cells _ t frozen => .cells (cells2 Rows.laid_unicode_utf8_acceptRanges).toArray t frozen
      | o => o).modify 1 fun
      | .cells _ t frozen => .cells (cells1 Rows.laid_unicode_utf8_first).toArray t frozen
      | o => o }
theorem laidWorld_met (os : Os) (args : Array Value) : laidMetH Tryz.prog laidL ((laidWorld os).forCall (fun _ _ => 0) ⟨#[], args, []⟩).memory :=
  laidMetH_of_parts (laidMet_of_run' 8 (by kernel_rfl) (by kernel_rfl)) (by kernel_rfl)
set_option maxRecDepth 100000 in
theorem lifted (os : Os) (started : os.Started) (H : Type) (enc : TypeId × Value → H) :
    ReturnsInHanded {} Tryz.checked os 9 .any (fun w args => (Rows.postOrdersSpec.pre enc Tryz.prog Tryz.f9 [] false w args ∧ laidMetH Tryz.prog laidL w) ∧ sizedMet enc Tryz.prog Tryz.f9 (OpenSpec.ofChange Rows.postOrdersSpec) false w args)
      (Rows.postOrdersSpec.post enc Tryz.prog Tryz.f9 false true false false) := by
  refine returnsInHanded_of_change_and (C := Tryz.checked) (X := fun w _ => laidMetH Tryz.prog laidL w) (fun _ _ _ hh h => h.of_heap hh) own started (by kernel_rfl) Tryz.func9
    (ChangeSpec.witness_at (enc := enc) (C := Tryz.checked) (os := os) (X := fun w _ => laidMetH Tryz.prog laidL w) false (laidWorld os) #[.int .u8 0, .int .u8 0, .bool false] 8 rfl (by kernel_rfl) (by kernel_rfl) (by kernel_rfl) (by kernel_rfl) (by kernel_rfl) (laidWorld_met os _)) ?_
  intro W base args ds gs before hval0 hW hcnd hsz0 hL _
  have hval : ∀ (j : Nat) t v, Tryz.f9.params[j]? = some t → args[j]? = some v → Value.okWide Tryz.prog W .any base t v := hval0
  have hW' := hW
  obtain ⟨p, q, hA0, hV, rfl, hfz, hnd⟩ := hW
  have hA : DataW.TrodAll enc Tryz.prog W 0 (fun _ => true) true Tryz.f9.params.toList args.toList ds p := hA0
  rw [Tryz.params9] at hA hval
  obtain ⟨v0, vs0, d0, ds0, p0, q0, hargs, rfl, rfl, h0, r0⟩ := trodAll_cons hA
  obtain ⟨v1, vs1, d1, ds1, p1, q1, rfl, rfl, rfl, h1, r1⟩ := trodAll_cons r0
  obtain ⟨v2, vs2, d2, ds2, p2, q2, rfl, rfl, rfl, h2, r2⟩ := trodAll_cons r1
  obtain ⟨rfl, rfl, rfl⟩ := trodAll_nil r2
  obtain rfl : args = #[v0, v1, v2] := by cases args; simp_all
  obtain ⟨rfl, rfl⟩ := trodVars_none hV
  have lt0 : ∀ x ∈ p0, x.block < W.heap.size := by obtain ⟨m, hm⟩ := h0; exact DataW.trod_lt m _ _ _ hm
  have lt1 : ∀ x ∈ p1, x.block < W.heap.size := by obtain ⟨m, hm⟩ := h1; exact DataW.trod_lt m _ _ _ hm
  have lt2 : ∀ x ∈ p2, x.block < W.heap.size := by obtain ⟨m, hm⟩ := h2; exact DataW.trod_lt m _ _ _ hm
  obtain ⟨n0, k0, w0⟩ := arg_int tok (by simp) Tryz.underlying5 (hval 0 _ v0 rfl rfl) h0
  obtain ⟨n1, k1, w1⟩ := arg_int tok (by simp) Tryz.underlying5 (hval 1 _ v1 rfl rfl) h1
  obtain ⟨b2, k2⟩ := arg_bool tok (by simp) Tryz.underlying4 (hval 2 _ v2 rfl rfl) h2
  clear hA0 hval0 hsz0
  obtain ⟨m0, rfl, hm0⟩ := wf_u8 w0
  obtain ⟨m1, rfl, hm1⟩ := wf_u8 w1
  refine (law_calls (PostOrders_spec m0 m1 b2 (by omega) (by omega) []) (.cons k0 (.cons k1 (.cons k2 (.nil _ _))))).mono fun e W' ⟨he, bel⟩ => ?_
  subst he
  exact ⟨_, rfl, _, _, _, [], _, [], hW', trodAll_mk1 (shut_bool Tryz.underlying4 _), (trodAll_cons_mk (Below.trod laidOut (by kernel_rfl) (of_decide_eq_true (by kernel_rfl)) h0 bel lt0) (trodAll_cons_mk (Below.trod laidOut (by kernel_rfl) (of_decide_eq_true (by kernel_rfl)) h1 bel lt1) (trodAll_cons_mk (Below.trod laidOut (by kernel_rfl) (of_decide_eq_true (by kernel_rfl)) h2 bel lt2) trodAll_mk0))), rfl, bel.frame _, fun h => by cases h⟩
theorem j1 : mapsRowed Tryz.prog = true := by kernel_rfl
theorem j2 : (Rows.postOrdersRow.inPlace == Tryz.prog.inPlace 9) = true := by kernel_rfl
theorem j3 : (Rows.postOrdersRow.unfollowed == Tryz.prog.unfollowed 9) = true := by kernel_rfl
theorem j4 : (Rows.postOrdersRow.recurses == Tryz.prog.recurses 9) = true := by kernel_rfl
theorem j5 : (Rows.postOrdersRow.named == Tryz.prog.varsNamed 9) = true := by kernel_rfl
theorem j6 : (Rows.postOrdersRow.plainKeys == Tryz.prog.plainKeys) = true := by kernel_rfl
theorem j7 : Tryz.prog.stopsHeard = true := by kernel_rfl
theorem j8 : Tryz.prog.mayEnter = true := by kernel_rfl
theorem j9 : (Rows.postOrdersRow.lifted == Tryz.prog.liftsFinal) = true := by kernel_rfl
theorem j10 : (Tryz.prog.make == some Rows.postOrdersRow.make) = true := by kernel_rfl
theorem facts : joinedFacts Tryz.prog 9 Tryz.f9 Rows.postOrdersSpec Rows.postOrdersRow = true := by
  unfold joinedFacts
  rw [laidOut, j1, j2, j3, j4, j5, j6, j7, j8, j9, j10]
  kernel_rfl
theorem over : Rows.postOrdersRow.holds Tryz.pinned (OpenSpec.ofChange Rows.postOrdersSpec) :=
  OpenClaim.holds_of_wide 9 Tryz.f9 rfl rfl rfl rfl rfl rfl rfl ⟨rfl, rfl, rfl, rfl, rfl⟩ rfl rfl rfl rfl rfl (by kernel_rfl) Tryz.func9 facts
    (of_decide_eq_true (by kernel_rfl)) (by unfold Func.isWrapper; first | (rw [if_pos (by decide +kernel)]; kernel_rfl) | (rw [if_neg (by decide +kernel)]; exact ⟨rfl, rfl⟩))
    (fun os started H enc _ => lifted os started H enc)
theorem noStand : (Tryz.f9.params.toList.all fun t => !Tryz.prog.wantsStandIn t) = true := by kernel_rfl
theorem w1 : Rows.postOrdersRow.wfByText (OpenSpec.ofChange Rows.postOrdersSpec) = true := by kernel_rfl
theorem w2 : Tryz.pinned.checked.prog.mainIs = some (Rows.postOrdersCard.stood.harness.1, Rows.postOrdersCard.stood.harness.2.toList) := by kernel_rfl
theorem w3 : true = Tryz.pinned.checked.prog.looks [] := by kernel_rfl
theorem w4 : false = Rows.postOrdersRow.goesBy Tryz.pinned.checked.prog := by kernel_rfl
theorem w5 : Tryz.prog.funcNamed "trefoil/trefoillaw20.PostOrders" = some 9 := by kernel_rfl
theorem proved : Rows.PostOrdersCardSaid :=
  Claim7.holds_tied_plain_at .later [] [.data, .pinned] true Rows.postOrdersCard.stood.harness true
    over (fun _ h => by cases h) w1 (fun _ h => by cases h) postOrders_row_tie rfl ⟨rfl, rfl⟩ w2 rfl
    (fun f fn hf hfn => by
      obtain rfl : f = 9 := Option.some.inj (w5.symm.trans hf) |>.symm
      obtain rfl : fn = Tryz.f9 := (Option.some.inj (Tryz.func9.symm.trans hfn)).symm
      exact ⟨w3, fun j t ht => by
        have h1 := noStand
        rw [List.all_eq_true] at h1
        have h2 := h1 t (List.mem_of_getElem? (by simpa using ht))
        have h3 : Tryz.prog.wantsStandIn t = false := by simpa using h2
        exact h3⟩)
    w4
#print axioms proved
end Go.Proofs.YtciimaabeabkdaaGreatDoor.postOrders
namespace Go.Proofs.YtciimaabeabkdaaGreatDoor
theorem postOrders_holds : Rows.PostOrdersCardSaid := postOrders.proved
end Go.Proofs.YtciimaabeabkdaaGreatDoor
