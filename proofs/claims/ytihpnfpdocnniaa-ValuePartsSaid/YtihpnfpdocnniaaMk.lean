/-
  make of a row of zeros. No program.
-/
import Derived.Test.YtihpnfpdocnniaaCel
import Derived.Laws.MakeOwn
set_option linter.unusedVariables false
set_option linter.unusedSimpArgs false
namespace Go.MV
open Go Go.RowKit
theorem replicate_flat {z : MV} (hz : [z] = z.cells) : ∀ n, flat (List.replicate n z) = List.replicate n z
  | 0 => rfl
  | n + 1 => by rw [List.replicate_succ, flat_cons, replicate_flat hz n, ← hz]; rfl
section
variable {P : Program} {rd : Option Nat} {o : Oper} {env : Env} {σ : MS} {K : MV → MS → Prop}
theorem op_makeSlice1 {t e n bytes : Nat} {x y : Operand} {kx ky : IntKind} {m : Int} {z : MV} (ho : o.op = .makeSlice t x y) (hu : P.underlying t = some (.slice e)) (he : elemOk P e 1 bytes = true) (hz : zeroMV P e = some [z]) (hx : evo env x = some (.int kx m)) (hy : evo env y = some (.int ky m)) (hm : m = (n : Int))
    (hb : bytes * n ≤ 281474976710656) (hn : n ≤ maxLen) (hone : z.one = true) (h : K (.lst none 1 (List.replicate n z)) σ) : OpWp P rd o env σ K := by
  subst hm
  refine OpWp.of_run (by simp [ho]) fun g w a hr hop => ?_
  obtain ⟨i, v, hi, hv, hs, hby, hvs, _⟩ := elemOk_spec he
  have e1 := (hop x (by simp [ho, Op.operands]) _ hx).inv_int
  have e2 := (hop y (by simp [ho, Op.operands]) _ hy).inv_int
  have hn' : (n : Int) ≤ 9223372036854775807 := by simp only [maxLen] at hn; omega
  have hb' : (i.bytes : Int) * (n : Int) ≤ 281474976710656 := by
    rw [hby]
    have : ((bytes * n : Nat) : Int) ≤ 281474976710656 := by omega
    rwa [Int.natCast_mul] at this
  have hrun := run_make (P := P) w t e i v hu hi hv kx ky (n : Int) (n : Int) (by omega) (Int.le_refl _) hb' hn'
  rw [hs, Nat.mul_one, Int.toNat_natCast] at hrun
  obtain ⟨u, hu1⟩ : ∃ u, v.cells = #[u] := Array.size_eq_one_iff.1 hvs
  have hm : madeCells v.cells n = (List.replicate n u).toArray := by
    unfold madeCells
    rw [hu1]
    apply Array.ext
    · simp
    · intro j h1 h2
      simp [Nat.mod_one]
  rw [hm] at hrun
  have hzu : Rd g w z u := by
    obtain ⟨v', k0, k1⟩ := zeroMV_some hz
    have hvv : v' = v := by
      have := k0 w
      simp [zeroValue, typeInfo, hi, hv] at this
      exact this.symm
    subst hvv
    have := k1 g w
    rw [hu1] at this
    exact this.2 0 _ _ rfl rfl
  have hzc : [z] = z.cells := by cases z <;> first | rfl | (simp [MV.one] at hone)
  refine ⟨_, _, ?_, gets_stable hr (ms := List.replicate n z) (us := List.replicate n u) e (fun y hy => ?_) ?_ (fun y hy => ?_) (by simp) hn h⟩
  · simp only [execOp, ho, Sem.run_bind, e1, e2]
    simp [hrun]
  · rw [List.eq_of_mem_replicate hy, ← hzc]; rfl
  · rw [replicate_flat hzc]
    refine ⟨by simp, fun j y w' hy hw => ?_⟩
    rw [List.eq_of_mem_replicate (List.mem_of_getElem? hy), List.eq_of_mem_replicate (List.mem_of_getElem? hw)]
    exact hzu
  · rw [List.eq_of_mem_replicate hy]
    exact one_cell hzu hone
end
end Go.MV
