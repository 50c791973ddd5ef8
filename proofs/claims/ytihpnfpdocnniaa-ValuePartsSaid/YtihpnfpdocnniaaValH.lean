/-
  Walks of the laws on values made by hand: siblings, limits (layer 4).
-/
import Derived.Test.YtihpnfpdocnniaaValG
import Derived.Test.YtihpnfpdocnniaaMk
set_option linter.unusedVariables false
set_option linter.unusedSimpArgs false
set_option maxHeartbeats 400000
namespace Go.Proofs.Ytihpnfpdocnniaa
open Go Go.MV
theorem sib_pair (p q x y : Int) : pairF [(p, x)] [(q, y)] = decide (p < q) := by
  unfold pairF
  simp only [byTicksF, tickC, cmpI]
  by_cases h : p < q
  · have h1 : cmpF [(p, x)] [(q, y)] = 2 := by
      unfold cmpF
      have hj : joinF [(p, x)] [(q, y)] = [(p, x), (q, y)] := by rw [join_cons, if_pos h]; simp [joinF, mergeF]
      rw [hj, if_neg (by simp; omega), if_neg (by simp), if_neg (by simp)]
    rw [h1]
    simp [h]
  · by_cases h2 : q < p
    · simp [h, h2]
    · have e : p = q := by omega
      subst e
      have h1 : ¬ cmpF [(p, x)] [(p, y)] = 2 := by
        unfold cmpF
        have hj : joinF [(p, x)] [(p, y)] = [(p, if y > x then y else x)] := by rw [join_cons, if_neg h, if_neg h]; simp [joinF, mergeF, bothT]
        rw [hj]
        intro hh
        by_cases hyx : y > x
        · rw [if_pos hyx, if_neg (by simp; omega), if_pos rfl] at hh
          omega
        · rw [if_neg hyx] at hh
          by_cases hxy : x = y
          · subst hxy
            simp at hh
          · rw [if_neg (by simp; omega), if_neg (by simp; omega), if_pos rfl] at hh
            omega
      rw [decide_eq_false h1]
      simp
theorem clock_one {p x : Int} (hp : 0 ≤ p ∧ p ≤ 1000000) (hx : 0 < x) : isClockF [(p, x)] = true := by
  unfold isClockF
  rw [Bool.and_eq_true, decide_eq_true_iff, decide_eq_true_iff]
  refine ⟨fun j hj => ?_, by simp⟩
  have : j = 0 := by simp at hj; omega
  subst this
  simp [okAt]
  omega
theorem sib_is {p q x y : Int} (hp : 0 ≤ p ∧ p ≤ 1000000) (hq : 0 ≤ q ∧ q ≤ 1000000) (hx : 0 < x) (hy : 0 < y) : (isF 16 (.mk 8 [.mk 1 []]) && isVF (.mk 8 [.mk 1 []]) (.mk 0 0 [] [[(p, x)], [(q, y)]] [.mk 1 0 [] [] [], noV])) = decide (p < q) := by
  have h0 : isF 16 (.mk 8 [.mk 1 []]) = true := by decide
  have h1 : isVF (.mk 1 []) (.mk 1 0 [] [] []) = true := by rw [isVF_mk 1]; rfl
  have h2 : isVF (.mk 1 []) noV = true := by unfold noV; rw [isVF_mk 1]; rfl
  rw [h0, isVF_mk 8]
  simp [isVL, h1, h2, bareF, numsK, textsK, clocksK, valuesK, Val.nv, Val.mv, Val.sv, Val.cv, Val.vv, isCauseF, clock_one hp hx, clock_one hq hy, pairsF, sib_pair]
theorem rem_nat (a b : Nat) : Int.tmod (a : Int) (b : Int) = ((a % b : Nat) : Int) := rfl
theorem i64_nat {m : Nat} (h : m < 9223372036854775808) : IntKind.i64.wrap (m : Int) = (m : Int) := wrap_i64 (by omega)
theorem u64_nat {m : Nat} (h : m < 18446744073709551616) : IntKind.u64.wrap (m : Int) = (m : Int) := wrap_u64 (by omega)
theorem uadd {a b c : Nat} (h : a + b = c) (hc : c < 18446744073709551616) : intArith .add .u64 (a : Int) (b : Int) = some (c : Int) := by
  show some (IntKind.u64.wrap ((a : Int) + (b : Int))) = _
  rw [show (a : Int) + (b : Int) = (c : Int) by omega, wrap_u64 (by omega)]


theorem of_spec (k : Int) (ins : List Sch) (S : MS) : MCalls Try.prog 20 [.int .i64 k, .lst none 2 (encSs ins)] S fun v σ' => v = encS (.mk k ins) ∧ σ' = S := by
  refine mcalls_body Try.func20 rfl Try.ntmps20 (Nat.le_of_ble_eq_true rfl) ?_
  refine mwp_seq ?_
  refine mwp_region rfl ?_
  refine wOps_op rfl (op_alloc' rfl zm24 rfl rfl ?_)
  refine wOps_nil ?_
  refine mwp_seq ?_
  refine mwp_region rfl ?_
  refine wOps_op rfl (op_move rfl rfl ?_)
  refine wOps_op rfl (op_move rfl rfl ?_)
  refine wOps_op rfl (op_build rfl Try.underlying24 zm24 (.cons fo24_0 sz3 rfl rfl (Nat.le_of_ble_eq_true rfl) (.cons fo24_1 sz22 rfl rfl (Nat.le_of_ble_eq_true rfl) .nil)) (by kernel_rfl) ?_)
  refine wOps_op rfl (op_store' rfl rfl rfl rfl sz24 rfl rfl (Nat.le_of_ble_eq_true rfl) rfl ?_)
  refine wOps_nil ?_
  refine mwp_ret ?_
  exact ret_cell (y := encS (.mk k ins)) (.inr rfl) Try.results20 rfl rfl ta24 rfl (.refl _) (cl_encS _ _) ⟨rfl, rfl⟩

theorem ValueSiblings_spec (a b n m : Nat) (S : MS) : MCalls Try.prog 6 [.int .u8 (a : Int), .int .u8 (b : Int), .int .u8 (n : Int), .int .u8 (m : Int)] S fun v σ' => v = .bool true ∧ σ' = S := by
  have hok : okV (Val.mk 0 0 [] [[(((a % 4 : Nat) : Int), ((n % 3 + 1 : Nat) : Int))], [(((b % 4 : Nat) : Int), ((m % 3 + 1 : Nat) : Int))]] [.mk 1 0 [] [] [], noV]) := by
    simp [okV, okVs, noV, okTk]
    omega
  refine mcalls_body Try.func6 rfl Try.ntmps6 (Nat.le_of_ble_eq_true rfl) ?_
  refine mwp_seq ?_
  refine mwp_region rfl ?_
  refine wOps_op rfl (op_assign rfl rfl ?_)
  refine wOps_nil ?_
  refine mwp_seq ?_
  refine mwp_seq ?_
  refine mwp_region rfl ?_
  refine wOps_op rfl (op_call rfl rfl rfl co8 ((knownV_spec _).mono ?_))
  rintro _ _ ⟨rfl, rfl⟩
  refine wOps_op rfl (op_not rfl rfl ?_)
  refine wOps_nil ?_
  refine mwp_cond_f rfl (rfl) ?_
  refine mwp_skip ?_
  refine mwp_seq ?_
  refine mwp_region rfl ?_
  refine wOps_op rfl (op_move rfl rfl ?_)
  refine wOps_op rfl (op_rem rfl rfl rfl (by decide) (rem_nat a 4) ?_)
  refine wOps_op rfl (op_convInt rfl Try.underlying5 Try.underlying3 rfl (i64_nat (show a % 4 < _ by omega)) ?_)
  refine wOps_op rfl (op_move rfl rfl ?_)
  refine wOps_op rfl (op_rem rfl rfl rfl (by decide) (rem_nat b 4) ?_)
  refine wOps_op rfl (op_convInt rfl Try.underlying5 Try.underlying3 rfl (i64_nat (show b % 4 < _ by omega)) ?_)
  refine wOps_op rfl (op_assign rfl rfl ?_)
  refine wOps_op rfl (op_assign rfl rfl ?_)
  refine wOps_nil ?_
  refine mwp_seq ?_
  refine mwp_region rfl ?_
  refine wOps_op rfl (op_move rfl rfl ?_)
  refine wOps_op rfl (op_rem rfl rfl rfl (by decide) (rem_nat n 3) ?_)
  refine wOps_op rfl (op_convInt rfl Try.underlying5 Try.underlying25 rfl (u64_nat (show n % 3 < _ by omega)) ?_)
  refine wOps_op rfl (op_arith rfl rfl rfl (uadd (a := n % 3) (b := 1) rfl (by omega)) ?_)
  refine wOps_op rfl (op_move rfl rfl ?_)
  refine wOps_op rfl (op_rem rfl rfl rfl (by decide) (rem_nat m 3) ?_)
  refine wOps_op rfl (op_convInt rfl Try.underlying5 Try.underlying25 rfl (u64_nat (show m % 3 < _ by omega)) ?_)
  refine wOps_op rfl (op_arith rfl rfl rfl (uadd (a := m % 3) (b := 1) rfl (by omega)) ?_)
  refine wOps_op rfl (op_assign rfl rfl ?_)
  refine wOps_op rfl (op_assign rfl rfl ?_)
  refine wOps_nil ?_
  refine mwp_seq ?_
  refine mwp_region rfl ?_
  refine wOps_op rfl (op_move rfl rfl ?_)
  refine wOps_op rfl (op_move rfl rfl ?_)
  refine wOps_op rfl (op_build rfl Try.underlying39 zm39 (.cons fo39_0 sz3 rfl rfl (Nat.le_of_ble_eq_true rfl) (.cons fo39_1 sz25 rfl rfl (Nat.le_of_ble_eq_true rfl) .nil)) (by kernel_rfl) ?_)
  refine wOps_op rfl (op_buildSlice rfl Try.underlying40 el39 rfl rfl (by decide) (by decide) rfl rfl ?_)
  refine wOps_op rfl (op_move rfl rfl ?_)
  refine wOps_op rfl (op_move rfl rfl ?_)
  refine wOps_op rfl (op_build rfl Try.underlying39 zm39 (.cons fo39_0 sz3 rfl rfl (Nat.le_of_ble_eq_true rfl) (.cons fo39_1 sz25 rfl rfl (Nat.le_of_ble_eq_true rfl) .nil)) (by kernel_rfl) ?_)
  refine wOps_op rfl (op_buildSlice rfl Try.underlying40 el39 rfl rfl (by decide) (by decide) rfl rfl ?_)
  refine wOps_op rfl (op_buildSlice rfl Try.underlying27 el40 rfl rfl (by decide) (by decide) rfl rfl ?_)
  refine wOps_op rfl (op_viewTo (y := encV (.mk 1 0 [] [] [])) (op_build rfl Try.underlying30 zm30 (.cons fo30_0 sz25 rfl rfl (Nat.le_of_ble_eq_true rfl) .nil) (by kernel_rfl) ⟨rfl, rfl⟩) (.agg (.cons (.refl _) (.cons (.refl _) (.cons (.nil 1) (.cons (.nil 1) (.cons (.nil 5) .nil)))))) ?_)
  refine wOps_op rfl (op_viewTo (y := encV noV) (op_build rfl Try.underlying30 zm30 .nil (by kernel_rfl) ⟨rfl, rfl⟩) (.agg (.cons (.refl _) (.cons (.refl _) (.cons (.nil 1) (.cons (.nil 1) (.cons (.nil 5) .nil)))))) ?_)
  refine wOps_op rfl (op_buildSlice rfl Try.underlying28 el30 rfl rfl (by decide) (by decide) rfl rfl ?_)
  refine wOps_op rfl (op_viewTo (y := encV (Val.mk 0 0 [] [[(((a % 4 : Nat) : Int), ((n % 3 + 1 : Nat) : Int))], [(((b % 4 : Nat) : Int), ((m % 3 + 1 : Nat) : Int))]] [.mk 1 0 [] [] [], noV])) (op_build rfl Try.underlying30 zm30 (.cons fo30_3 sz27 rfl rfl (Nat.le_of_ble_eq_true rfl) (.cons fo30_4 sz28 rfl rfl (Nat.le_of_ble_eq_true rfl) .nil)) (by kernel_rfl) ⟨rfl, rfl⟩) (.agg (.cons (.refl _) (.cons (.refl _) (.cons (.nil 1) (.cons (.refl _) (.cons (.refl _) .nil)))))) ?_)
  refine wOps_op rfl (op_alloc' rfl zm30 rfl rfl ?_)
  refine wOps_op rfl (op_store' rfl rfl rfl rfl sz30 rfl rfl (Nat.le_of_ble_eq_true rfl) rfl ?_)
  refine wOps_nil ?_
  refine mwp_seq ?_
  refine mwp_draw [] [_] mo (by decide) rfl rfl rfl rfl ?_
  refine dOps_op rfl rfl (.cons (op_call rfl rfl rfl co20 ((of_spec 1 [] _).sub (.cons (.refl _) (.cons (.nil 2) .nil)))) .nil) ?_
  refine dOps_op rfl rfl (.cons (op_buildSlice rfl Try.underlying22 el24 rfl rfl (by decide) (by decide) rfl rfl ⟨rfl, rfl⟩) .nil) ?_
  refine dOps_op rfl rfl (.cons (op_call rfl rfl rfl co20 (of_spec 8 [.mk 1 []] _)) .nil) ?_
  refine dOps_op rfl rfl (.cons (op_load' rfl rfl rfl ta30 rfl ⟨rfl, rfl⟩) .nil) ?_
  refine dOps_op rfl rfl (.cons (op_call rfl rfl rfl co9 (valIs_spec (.mk 8 [.mk 1 []]) (Val.mk 0 0 [] [[(((a % 4 : Nat) : Int), ((n % 3 + 1 : Nat) : Int))], [(((b % 4 : Nat) : Int), ((m % 3 + 1 : Nat) : Int))]] [.mk 1 0 [] [] [], noV]) hok _)) .nil) ?_
  rw [sib_is (by omega) (by omega) (by omega) (by omega)]
  refine dOps_op rfl rfl (.cons (op_move rfl rfl ⟨rfl, rfl⟩) .nil) ?_
  refine dOps_op rfl rfl (.cons (op_move rfl rfl ⟨rfl, rfl⟩) .nil) ?_
  refine dOps_op rfl rfl (.cons (op_cmp rfl rfl rfl rfl ⟨rfl, rfl⟩) .nil) ?_
  refine dOps_op rfl rfl (.cons (op_booleq rfl Try.underlying4 rfl rfl ⟨rfl, rfl⟩) .nil) ?_
  rw [beq_self_eq_true]
  refine dOps_op rfl rfl (.cons (op_assign rfl rfl ⟨rfl, rfl⟩) .nil) ?_
  refine dOps_nil ?_
  refine mwp_ret ?_
  exact ret_tmp (.inr rfl) Try.results6 rfl (.of_eq (rfl)) (.bool _) ⟨rfl, rfl⟩

def lit2 (i : Nat) : Bs := [UInt8.ofNat (97 + i / 26), UInt8.ofNat (97 + i % 26)]
def txtN (k : Nat) : List Bs := (List.range k).map lit2
theorem txtN_succ (k : Nat) : txtN (k + 1) = txtN k ++ [lit2 k] := by unfold txtN; rw [List.range_succ, List.map_append]; rfl
theorem txtN_len (k : Nat) : (txtN k).length = k := by simp [txtN]
theorem lim_row {k : Nat} (h : k = 39 ∨ k = 40 ∨ k = 41) : (isF 16 (.mk 3 []) && isVF (.mk 3 []) (.mk 0 0 (txtN k) [] [])) = decide ((k : Int) ≤ 40) := by
  rw [isVF_mk 3]
  rcases h with rfl | rfl | rfl <;> decide +kernel
theorem lim_text {j : Nat} (h : j = 15 ∨ j = 16 ∨ j = 17) : (isF 16 (.mk 3 []) && isVF (.mk 3 []) (.mk 0 0 [List.replicate j 0] [] [])) = decide ((j : Int) ≤ 16) := by
  rw [isVF_mk 3]
  rcases h with rfl | rfl | rfl <;> decide +kernel
theorem lim_last {j : Nat} (h : j = 15 ∨ j = 16 ∨ j = 17) : (isF 16 (.mk 6 []) && isVF (.mk 6 []) (.mk 1 0 [List.replicate j 0] [] [])) = decide ((j : Int) ≤ 16) := by
  rw [isVF_mk 6]
  rcases h with rfl | rfl | rfl <;> decide +kernel
theorem u8_cv {m : Nat} (h : m < 256) : IntKind.u8.wrap (m : Int) = ((UInt8.ofNat m).toNat : Int) := by
  have e : (UInt8.ofNat m).toNat = m := by simp [UInt8.toNat_ofNat']; omega
  rw [wrap_u8 (by omega), e]
theorem quo_nat {a b c : Nat} (h : a / b = c) (hc : c < 9223372036854775808) : IntKind.i64.wrap (Int.tdiv (a : Int) (b : Int)) = (c : Int) := by
  rw [show Int.tdiv (a : Int) (b : Int) = (c : Int) by rw [← h]; rfl]
  exact wrap_i64 (by omega)


theorem ValueLimits_spec (n m : Nat) (S : MS) : MCalls Try.prog 7 [.int .u8 (n : Int), .int .u8 (m : Int)] S fun v σ' => v = .bool true ∧ σ' = S := by
  have ok1 : okV (Val.mk 0 0 (txtN (39 + n % 3)) [] []) := by simp [okV, okVs]
  have ok2 : okV (Val.mk 0 0 [List.replicate (15 + m % 3) 0] [] []) := by simp [okV, okVs]
  have ok3 : okV (Val.mk 1 0 [List.replicate (15 + m % 3) 0] [] []) := by simp [okV, okVs]
  refine mcalls_body Try.func7 rfl Try.ntmps7 (Nat.le_of_ble_eq_true rfl) ?_
  refine mwp_seq ?_
  refine mwp_region rfl ?_
  refine wOps_op rfl (op_assign rfl rfl ?_)
  refine wOps_nil ?_
  refine mwp_seq ?_
  refine mwp_seq ?_
  refine mwp_region rfl ?_
  refine wOps_op rfl (op_call rfl rfl rfl co8 ((knownV_spec _).mono ?_))
  rintro _ _ ⟨rfl, rfl⟩
  refine wOps_op rfl (op_not rfl rfl ?_)
  refine wOps_nil ?_
  refine mwp_cond_f rfl (rfl) ?_
  refine mwp_skip ?_
  refine mwp_seq ?_
  refine mwp_region rfl ?_
  refine wOps_op rfl (op_move rfl rfl ?_)
  refine wOps_op rfl (op_rem rfl rfl rfl (by decide) (rem_nat n 3) ?_)
  refine wOps_op rfl (op_convInt rfl Try.underlying5 Try.underlying3 rfl (i64_nat (show n % 3 < _ by omega)) ?_)
  refine wOps_op rfl (op_arith rfl rfl rfl (wadd (a := 39) (b := n % 3) rfl (by omega)) ?_)
  refine wOps_op rfl (op_move rfl rfl ?_)
  refine wOps_op rfl (op_rem rfl rfl rfl (by decide) (rem_nat m 3) ?_)
  refine wOps_op rfl (op_convInt rfl Try.underlying5 Try.underlying3 rfl (i64_nat (show m % 3 < _ by omega)) ?_)
  refine wOps_op rfl (op_arith rfl rfl rfl (wadd (a := 15) (b := m % 3) rfl (by omega)) ?_)
  refine wOps_op rfl (op_assign rfl rfl ?_)
  refine wOps_op rfl (op_assign rfl rfl ?_)
  refine wOps_nil ?_
  refine mwp_seq ?_
  refine mwp_region rfl ?_
  refine wOps_op rfl (op_build rfl Try.underlying30 zm30 .nil (by kernel_rfl) ?_)
  refine wOps_op rfl (op_alloc' rfl zm30 rfl rfl ?_)
  refine wOps_op rfl (op_store' rfl rfl rfl rfl sz30 rfl rfl (Nat.le_of_ble_eq_true rfl) rfl ?_)
  refine wOps_nil ?_
  refine mwp_seq ?_
  refine mwp_seq ?_
  refine mwp_region rfl ?_
  refine wOps_op rfl (op_assign rfl rfl ?_)
  refine wOps_nil ?_
  refine mwp_block ?_
  refine mwp_cellrowAt 0 2 9 1 rfl rfl (Nat.le_refl _) rfl rfl ?_
  refine mwp_loopK (α := Nat) [(5, _), (6, _), (7, _)] (fun i => [(8, .int .i64 (i : Int))]) (fun i => [.cells [.int .u64 0, .int .u64 0, .lst (some (S.length + 1)) 1 ((txtN i).map encX), .lst0, .lst0], .row 9 1 (txtN i).length]) (fun i => i ≤ 39 + n % 3) (fun i => 39 + n % 3 - i) (0) (.keep rfl (.keep rfl (.keep rfl (.nil)))) (.keep rfl (.nil)) (by omega) (rfl) ?_
  rintro i hi
  refine mwp_seq ?_
  refine mwp_seq ?_
  refine mwp_region rfl ?_
  refine wOps_op rfl (op_move rfl rfl ?_)
  refine wOps_op rfl (op_move rfl rfl ?_)
  refine wOps_op rfl (op_cmp rfl rfl rfl rfl ?_)
  refine wOps_nil ?_
  refine mwp_cond_split rfl (fun h23 => ?_) (fun h23 => ?_)
  · -- yes
    have hlt : i < 39 + n % 3 := by simp at h23; omega
    have hil := txtN_len i
    refine mwp_skip ?_
    refine mwp_seq ?_
    refine mwp_block ?_
    refine mwp_region rfl ?_
    refine wOps_op rfl (op_fieldAddr_ref rfl rfl fo30_2 ?_)
    refine wOps_op rfl (op_load' rfl rfl rfl ta26 rfl ?_)
    refine wOps_op rfl (op_move rfl rfl ?_)
    refine wOps_op rfl (op_quo rfl rfl rfl (by decide) (quo_nat (a := i) (b := 26) rfl (by omega)) ?_)
    refine wOps_op rfl (op_arith rfl rfl rfl (wadd (a := 97) (b := i / 26) rfl (by omega)) ?_)
    refine wOps_op rfl (op_convInt rfl Try.underlying3 Try.underlying5 rfl (u8_cv (show 97 + i / 26 < 256 by omega)) ?_)
    refine wOps_op rfl (op_move rfl rfl ?_)
    refine wOps_op rfl (op_rem rfl rfl rfl (by decide) (rem_nat i 26) ?_)
    refine wOps_op rfl (op_arith rfl rfl rfl (wadd (a := 97) (b := i % 26) rfl (by omega)) ?_)
    refine wOps_op rfl (op_convInt rfl Try.underlying3 Try.underlying5 rfl (u8_cv (show 97 + i % 26 < 256 by omega)) ?_)
    refine wOps_op rfl (op_buildSlice rfl Try.underlying44 el5 rfl rfl (by decide) (by decide) rfl rfl ?_)
    refine wOps_op rfl (op_conv_bytes (l := lit2 i) rfl Try.underlying44 Try.underlying5 Try.underlying9 rfl (rfl) ?_)
    refine wOps_op rfl (op_buildSlice rfl Try.underlying26 el9 rfl rfl (by decide) (by decide) rfl rfl ?_)
    refine wOps_op rfl (op_append' rfl Try.underlying26 el9 rfl rfl rfl (by simp) (by simp only [List.length_map, List.length_cons, List.length_nil]; omega) (by simp only [List.length_map, List.length_cons, List.length_nil]; omega) rfl ?_)
    refine wOps_op rfl (op_fieldAddr_ref rfl rfl fo30_2 ?_)
    refine wOps_op rfl (op_store' rfl rfl rfl rfl sz26 rfl rfl (Nat.le_of_ble_eq_true rfl) rfl ?_)
    refine wOps_nil ?_
    refine mwp_region rfl ?_
    refine wOps_op rfl (op_move rfl rfl ?_)
    refine wOps_op rfl (op_arith rfl rfl rfl rfl ?_)
    refine wOps_op rfl (op_assign rfl rfl ?_)
    refine wOps_nil ?_
    refine ⟨i + 1, by omega, by omega, by rw [txtN_succ, List.map_append, List.length_append]; rfl, (.keep rfl (.keep rfl (.keep rfl (.nil)))), (.eq rfl (int_succ (show i < 41 by omega) (by decide)) (.nil))⟩
  · -- no
    have hge : i = 39 + n % 3 := by simp at h23; omega
    subst hge
    refine mwp_exit ?_
    refine mwp_seq ?_
    refine mwp_region rfl ?_
    refine wOps_op rfl (op_move rfl rfl ?_)
    refine wOps_op rfl (op_makeSlice1 rfl Try.underlying44 el5 zm5 rfl rfl rfl (by omega) (by simp only [maxLen]; omega) rfl ?_)
    refine wOps_op rfl (op_conv_bytes (l := List.replicate (15 + m % 3) 0) rfl Try.underlying44 Try.underlying5 Try.underlying9 rfl (by rw [List.map_replicate]; rfl) ?_)
    refine wOps_op rfl (op_buildSlice rfl Try.underlying26 el9 rfl rfl (by decide) (by decide) rfl rfl ?_)
    refine wOps_op rfl (op_viewTo (y := encV (Val.mk 0 0 [List.replicate (15 + m % 3) 0] [] [])) (op_build rfl Try.underlying30 zm30 (.cons fo30_2 sz26 rfl rfl (Nat.le_of_ble_eq_true rfl) .nil) (by kernel_rfl) ⟨rfl, rfl⟩) (.agg (.cons (.refl _) (.cons (.refl _) (.cons (.refl _) (.cons (.nil 1) (.cons (.nil 5) .nil)))))) ?_)
    refine wOps_op rfl (op_alloc' rfl zm30 rfl rfl ?_)
    refine wOps_op rfl (op_store' rfl rfl rfl rfl sz30 rfl rfl (Nat.le_of_ble_eq_true rfl) rfl ?_)
    refine wOps_nil ?_
    refine mwp_seq ?_
    refine mwp_draw [] [_] mo (by decide) rfl rfl rfl rfl ?_
    refine dOps_op rfl rfl (.cons (op_call rfl rfl rfl co20 ((of_spec 3 [] _).sub (.cons (.refl _) (.cons (.nil 2) .nil)))) .nil) ?_
    refine dOps_op rfl rfl (.cons (op_load' rfl rfl rfl ta30 rfl ⟨rfl, rfl⟩) .nil) ?_
    refine dOps_op rfl rfl (.cons (op_call rfl rfl rfl co9 ((valIs_spec (.mk 3 []) (Val.mk 0 0 (txtN (39 + n % 3)) [] []) ok1 _).sub (.cons (.refl _) (.cons (.agg (.cons (.refl _) (.cons (.refl _) (.cons (.view _ _ _) (.cons (.nil 1) (.cons (.nil 5) .nil)))))) .nil)))) .nil) ?_
    rw [lim_row (by omega)]
    refine dOps_op rfl rfl (.cons (op_move rfl rfl ⟨rfl, rfl⟩) .nil) ?_
    refine dOps_op rfl rfl (.cons (op_cmp rfl rfl rfl rfl ⟨rfl, rfl⟩) .nil) ?_
    refine dOps_op rfl rfl (.cons (op_booleq rfl Try.underlying4 rfl rfl ⟨rfl, rfl⟩) .nil) ?_
    rw [beq_self_eq_true]
    refine dOps_op rfl rfl (.cons (op_move rfl rfl ⟨rfl, rfl⟩) .nil) ?_
    refine dOps_op rfl rfl (.cons (op_call rfl rfl rfl co20 ((of_spec 3 [] _).sub (.cons (.refl _) (.cons (.nil 2) .nil)))) .nil) ?_
    refine dOps_op rfl rfl (.cons (op_load' rfl rfl rfl ta30 rfl ⟨rfl, rfl⟩) .nil) ?_
    refine dOps_op rfl rfl (.cons (op_call rfl rfl rfl co9 (valIs_spec (.mk 3 []) (Val.mk 0 0 [List.replicate (15 + m % 3) 0] [] []) ok2 _)) .nil) ?_
    rw [lim_text (by omega)]
    refine dOps_op rfl rfl (.cons (op_move rfl rfl ⟨rfl, rfl⟩) .nil) ?_
    refine dOps_op rfl rfl (.cons (op_cmp rfl rfl rfl rfl ⟨rfl, rfl⟩) .nil) ?_
    refine dOps_op rfl rfl (.cons (op_booleq rfl Try.underlying4 rfl rfl ⟨rfl, rfl⟩) .nil) ?_
    rw [beq_self_eq_true]
    refine dOps_op rfl rfl (.cons (op_pick rfl rfl rfl ⟨rfl, rfl⟩) .nil) ?_
    refine dOps_op rfl rfl (.cons (op_move rfl rfl ⟨rfl, rfl⟩) .nil) ?_
    refine dOps_op rfl rfl (.cons (op_call rfl rfl rfl co20 ((of_spec 6 [] _).sub (.cons (.refl _) (.cons (.nil 2) .nil)))) .nil) ?_
    refine dOps_op rfl rfl (.cons (op_fieldAddr_ref rfl rfl fo30_2 ⟨rfl, rfl⟩) .nil) ?_
    refine dOps_op rfl rfl (.cons (op_load' rfl rfl rfl ta26 rfl ⟨rfl, rfl⟩) .nil) ?_
    refine dOps_op rfl rfl (.cons (op_viewTo (y := encV (Val.mk 1 0 [List.replicate (15 + m % 3) 0] [] [])) (op_build rfl Try.underlying30 zm30 (.cons fo30_0 sz25 rfl rfl (Nat.le_of_ble_eq_true rfl) (.cons fo30_2 sz26 rfl rfl (Nat.le_of_ble_eq_true rfl) .nil)) (by kernel_rfl) ⟨rfl, rfl⟩) (.agg (.cons (.refl _) (.cons (.refl _) (.cons (.refl _) (.cons (.nil 1) (.cons (.nil 5) .nil)))))) ⟨rfl, rfl⟩) .nil) ?_
    refine dOps_op rfl rfl (.cons (op_call rfl rfl rfl co9 (valIs_spec (.mk 6 []) (Val.mk 1 0 [List.replicate (15 + m % 3) 0] [] []) ok3 _)) .nil) ?_
    rw [lim_last (by omega)]
    refine dOps_op rfl rfl (.cons (op_move rfl rfl ⟨rfl, rfl⟩) .nil) ?_
    refine dOps_op rfl rfl (.cons (op_cmp rfl rfl rfl rfl ⟨rfl, rfl⟩) .nil) ?_
    refine dOps_op rfl rfl (.cons (op_booleq rfl Try.underlying4 rfl rfl ⟨rfl, rfl⟩) .nil) ?_
    rw [beq_self_eq_true]
    refine dOps_op rfl rfl (.cons (op_pick rfl rfl rfl ⟨rfl, rfl⟩) .nil) ?_
    refine dOps_op rfl rfl (.cons (op_assign rfl rfl ⟨rfl, rfl⟩) .nil) ?_
    refine dOps_nil ?_
    refine mwp_ret ?_
    exact ret_tmp (.inr rfl) Try.results7 rfl (.of_eq (rfl)) (.bool _) ⟨rfl, rfl⟩
end Go.Proofs.Ytihpnfpdocnniaa
