/-
  errors.Is of an error number and itself: yes.
-/
import Derived.Test.YtddcpfbmoahnpaaFacts
import Derived.Test.YtddcpfbmoahnpaaCel
import Derived.WalkKit
import Derived.LaidEql
import Derived.RowKitTokens
set_option linter.unusedVariables false
set_option linter.unusedSimpArgs false
set_option maxHeartbeats 1000000
set_option maxRecDepth 20000
namespace Go.Proofs.Ytddcpfbmoahnpaa
open Go Go.MV Go.RowKit Go.Extern.Stop Go.Extern
theorem tT (v : Value) (w : World) : (Extern.ReflectliteType.typeOf #[.iface 45 v]).run Try.prog w = .ok (.iface 82 (.agg #[.pointer (some ⟨Try.prog.globals.size, 45, none⟩)])) w := by kernel_rfl
theorem cT (w : World) : ((Extern.ReflectliteType.method fun t => do Extern.Rtype.noPackHeld "Comparable" t; pure (.bool (← typeInfo t).comparable)) #[.agg #[.pointer (some ⟨Try.prog.globals.size, 45, none⟩)]]).run Try.prog w = .ok (.bool true) w := by kernel_rfl
theorem mR (v : Value) (w : World) : (Go.method 227 82 v "Comparable").run Try.prog w = .ok (66, v) w := by kernel_rfl
theorem errComp : (Try.prog.info? 45).map (·.comparable) = some true := by kernel_rfl
theorem eqErr (n : Int) (w : World) : (binOp .eql 34 (.iface 45 (.int .i64 n)) (.iface 45 (.int .i64 n))).run Try.prog w = .ok (.bool true) w := by
  obtain ⟨i, hi, hcmp⟩ := Option.map_eq_some_iff.1 errComp
  have h : ∀ d : Nat, (Op.equalIn (d + 2) 34 (.iface 45 (.int .i64 n)) (.iface 45 (.int .i64 n))).run Try.prog w = .ok true w := fun d => by
    simp [Op.equalIn, run_underlying Try.underlying34, run_underlying Try.underlying45, typeInfo, hi, hcmp]
  simp only [binOp]
  simp [Op.equal, Op.maxDepth, h 9998]
theorem nilErr (v : Value) (w : World) : (binOp .eql 34 (.iface 45 v) .nilIface).run Try.prog w = .ok (.bool false) w := by
  have h : ∀ d : Nat, (Op.equalIn (d + 1) 34 (.iface 45 v) .nilIface).run Try.prog w = .ok false w := fun d => by simp [Op.equalIn, run_underlying Try.underlying34]
  simp only [binOp]
  simp [Op.equal, Op.maxDepth, h 9999]
theorem isSame (n : Int) (w : World) : Calls Try.prog 22 #[.iface 45 (.int .i64 n), .iface 45 (.int .i64 n)] w fun e w' => e = .returned (.bool true) ∧ w' = w := by
  have h8 := @run_callFunc_extern Try.prog 32 _ Extern.ReflectliteType.typeOf Try.func32 (by kernel_rfl) (by kernel_rfl) (by kernel_rfl) (by kernel_rfl)
  have h32 := @run_callFunc_extern Try.prog 66 _ (Extern.ReflectliteType.method fun t => do Extern.Rtype.noPackHeld "Comparable" t; pure (.bool (← typeInfo t).comparable)) Try.func66 (by kernel_rfl) (by kernel_rfl) (by kernel_rfl) (by kernel_rfl)
  obtain ⟨H, hT, hC⟩ : ∃ H : Value, (∀ (v : Value) (w : World), (callFunc 32 #[.iface 45 v]).run Try.prog w = .ok (.value (.iface 82 H)) w) ∧ (∀ w : World, (callFunc 66 #[H]).run Try.prog w = .ok (.value (.bool true)) w) := ⟨_, fun v w => by rw [h8, tT]; rfl, fun w => by rw [h32, cT]; rfl⟩
  clear h8 h32
  have mR := mR
  have heq := eqErr n w
  have hnil := nilErr (.int .i64 n) w
  go_enter Try.func22, Try.ntmps22
  go_wp2
  refine wp_loop_rounds 1 ?_
  rw [rounds_succ]
  go_wp2
  go_ret
  exact ⟨rfl, rfl⟩
theorem errIs_spec (n : Int) (S : MS) : MCalls Try.prog 22 [.iface 45 (.int .i64 n), .iface 45 (.int .i64 n)] S fun v σ' => v = .bool true ∧ σ' = S := by
  intro g w vs hrel hrd
  obtain ⟨u, us, rfl, h1, h2⟩ := hrd.uncons
  obtain ⟨u2, us2, rfl, h3, h4⟩ := h2.uncons
  obtain ⟨a, rfl, ha⟩ := h1.inv_iface
  obtain ⟨b, rfl, hb⟩ := h3.inv_iface
  have e1 := ha.inv_int
  have e2 := hb.inv_int
  have e3 : us2 = [] := List.eq_nil_of_length_eq_zero h4.1
  subst e1 e2 e3
  refine (callsIn_wide.2 (isSame n w)).mono ?_
  rintro e w' ⟨rfl, rfl⟩
  exact ⟨_, rfl, .bool true, S, g, ⟨rfl, rfl⟩, hrel, .bool _, .refl _ _⟩
end Go.Proofs.Ytddcpfbmoahnpaa
