/-
  Walks of the laws on values (layer 4).
-/
import Derived.Test.YtihpnfpdocnniaaValF
set_option linter.unusedVariables false
set_option linter.unusedSimpArgs false
set_option maxHeartbeats 400000
namespace Go.Proofs.Ytihpnfpdocnniaa
open Go Go.MV
def pS : Sch := .mk 5 [.mk 3 [], .mk 1 []]
def vA : Val := .mk 0 0 [[97]] [] []
def v3 : Val := .mk 3 0 [] [] []
def vP : Val := .mk 0 0 [] [] [vA, v3]
def bP : Val := .mk 0 0 [] [] [noV, noV]
def vBA : Val := .mk 0 0 [[98], [97]] [] []
theorem kF : isF 16 pS = true ∧ isF 16 (.mk 3 []) = true := by decide
theorem kB : BottomF pS = bP := by
  unfold BottomF
  rw [if_pos kF.1]
  simp [pS, bP, bottomF, bottomL]
theorem kI : isVF pS vP = true := by
  have h1 : isVF (.mk 3 []) vA = true := by unfold vA; rw [isVF_mk 3]; rfl
  have h2 : isVF (.mk 1 []) v3 = true := by unfold v3; rw [isVF_mk 1]; rfl
  unfold pS vP
  rw [isVF_mk 5]
  simp [isVL, h1, h2, bareF, numsK, textsK, clocksK, valuesK, Val.nv, Val.mv, Val.sv, Val.cv, Val.vv]
theorem kN : isVF (.mk 3 []) vP = false := by
  unfold vP
  rw [isVF_mk 3]
  rfl
theorem kBA : isVF (.mk 3 []) vBA = false := by
  unfold vBA
  rw [isVF_mk 3]
  rfl
theorem kNe : vP ≠ bP := by simp [vP, bP, vA, noV]
theorem kS : sizeF vP = 3 := by decide
theorem okv : okV vP ∧ okV vBA := by
  refine ⟨?_, ?_⟩ <;> simp [vP, vBA, vA, v3, okV, okVs]


theorem knownV_spec (S : MS) : MCalls Try.prog 8 [] S fun v σ' => v = .bool true ∧ σ' = S := by
  refine mcalls_body Try.func8 rfl Try.ntmps8 (Nat.le_of_ble_eq_true rfl) ?_
  refine mwp_seq ?_
  refine mwp_region rfl ?_
  refine wOps_op rfl (op_assign rfl rfl ?_)
  refine wOps_nil ?_
  refine mwp_seq ?_
  refine mwp_region rfl ?_
  refine wOps_op rfl (op_viewTo (y := encS (.mk 3 [])) (op_build rfl Try.underlying24 zm24 (.cons fo24_0 sz3 rfl rfl (Nat.le_of_ble_eq_true rfl) .nil) (by kernel_rfl) ⟨rfl, rfl⟩) (.agg (.cons (.refl _) (.cons (.nil 2) .nil))) ?_)
  refine wOps_op rfl (op_alloc' rfl zm24 rfl rfl ?_)
  refine wOps_op rfl (op_store' rfl rfl rfl rfl sz24 rfl rfl (Nat.le_of_ble_eq_true rfl) rfl ?_)
  refine wOps_nil ?_
  refine mwp_seq ?_
  refine mwp_region rfl ?_
  refine wOps_op rfl (op_load' rfl rfl rfl ta24 rfl ?_)
  refine wOps_op rfl (op_viewTo (y := encS (.mk 1 [])) (op_build rfl Try.underlying24 zm24 (.cons fo24_0 sz3 rfl rfl (Nat.le_of_ble_eq_true rfl) .nil) (by kernel_rfl) ⟨rfl, rfl⟩) (.agg (.cons (.refl _) (.cons (.nil 2) .nil))) ?_)
  refine wOps_op rfl (op_buildSlice rfl Try.underlying22 el24 rfl rfl (by decide) (by decide) rfl rfl ?_)
  refine wOps_op rfl (op_build rfl Try.underlying24 zm24 (.cons fo24_0 sz3 rfl rfl (Nat.le_of_ble_eq_true rfl) (.cons fo24_1 sz22 rfl rfl (Nat.le_of_ble_eq_true rfl) .nil)) (by kernel_rfl) ?_)
  refine wOps_op rfl (op_alloc' rfl zm24 rfl rfl ?_)
  refine wOps_op rfl (op_store' rfl rfl rfl rfl sz24 rfl rfl (Nat.le_of_ble_eq_true rfl) rfl ?_)
  refine wOps_nil ?_
  refine mwp_seq ?_
  refine mwp_region rfl ?_
  refine wOps_op rfl (op_buildSlice rfl Try.underlying26 el9 rfl rfl (by decide) (by decide) rfl rfl ?_)
  refine wOps_op rfl (op_viewTo (y := encV vA) (op_build rfl Try.underlying30 zm30 (.cons fo30_2 sz26 rfl rfl (Nat.le_of_ble_eq_true rfl) .nil) (by kernel_rfl) ⟨rfl, rfl⟩) (.agg (.cons (.refl _) (.cons (.refl _) (.cons (.refl _) (.cons (.nil 1) (.cons (.nil 5) .nil)))))) ?_)
  refine wOps_op rfl (op_viewTo (y := encV v3) (op_build rfl Try.underlying30 zm30 (.cons fo30_0 sz25 rfl rfl (Nat.le_of_ble_eq_true rfl) .nil) (by kernel_rfl) ⟨rfl, rfl⟩) (.agg (.cons (.refl _) (.cons (.refl _) (.cons (.nil 1) (.cons (.nil 1) (.cons (.nil 5) .nil)))))) ?_)
  refine wOps_op rfl (op_buildSlice rfl Try.underlying28 el30 rfl rfl (by decide) (by decide) rfl rfl ?_)
  refine wOps_op rfl (op_viewTo (y := encV vP) (op_build rfl Try.underlying30 zm30 (.cons fo30_4 sz28 rfl rfl (Nat.le_of_ble_eq_true rfl) .nil) (by kernel_rfl) ⟨rfl, rfl⟩) (.agg (.cons (.refl _) (.cons (.refl _) (.cons (.nil 1) (.cons (.nil 1) (.cons (.refl _) .nil)))))) ?_)
  refine wOps_op rfl (op_alloc' rfl zm30 rfl rfl ?_)
  refine wOps_op rfl (op_store' rfl rfl rfl rfl sz30 rfl rfl (Nat.le_of_ble_eq_true rfl) rfl ?_)
  refine wOps_nil ?_
  refine mwp_seq ?_
  refine mwp_region rfl ?_
  refine wOps_op rfl (op_load' rfl rfl rfl ta24 rfl ?_)
  refine wOps_op rfl (op_call rfl rfl rfl co12 ((Bottom_spec pS _).mono ?_))
  rintro _ _ ⟨rfl, rfl⟩
  rw [kB]
  refine wOps_op rfl (op_alloc' rfl zm30 rfl rfl ?_)
  refine wOps_op rfl (op_store' rfl rfl rfl rfl sz30 rfl rfl (Nat.le_of_ble_eq_true rfl) rfl ?_)
  refine wOps_nil ?_
  refine mwp_seq ?_
  refine mwp_region rfl ?_
  refine wOps_op rfl (op_load' rfl rfl rfl ta24 rfl ?_)
  refine wOps_op rfl (op_load' rfl rfl rfl ta30 rfl ?_)
  refine wOps_op rfl (op_call rfl rfl rfl co9 ((valIs_spec pS vP okv.1 _).mono ?_))
  rintro _ _ ⟨rfl, rfl⟩
  rw [show (isF 16 pS && isVF pS vP) = true by rw [kF.1, kI]; rfl]
  refine wOps_op rfl (op_move rfl rfl ?_)
  refine wOps_op rfl (op_load' rfl rfl rfl ta24 rfl ?_)
  refine wOps_op rfl (op_load' rfl rfl rfl ta30 rfl ?_)
  refine wOps_op rfl (op_call rfl rfl rfl co9 ((valIs_spec (.mk 3 []) vP okv.1 _).mono ?_))
  rintro _ _ ⟨rfl, rfl⟩
  rw [show (isF 16 (.mk 3 []) && isVF (.mk 3 []) vP) = false by rw [kN, Bool.and_false]]
  refine wOps_op rfl (op_not rfl rfl ?_)
  refine wOps_op rfl (op_pick rfl rfl rfl ?_)
  refine wOps_op rfl (op_move rfl rfl ?_)
  refine wOps_op rfl (op_fieldAddr_ref rfl rfl fo30_4 ?_)
  refine wOps_op rfl (op_load' rfl rfl rfl ta28 rfl ?_)
  refine wOps_op rfl (op_len_lst rfl Try.underlying28 rfl ?_)
  refine wOps_op rfl (op_cmp rfl rfl rfl (show _ = some true from rfl) ?_)
  refine wOps_op rfl (op_pick rfl rfl rfl ?_)
  refine wOps_op rfl (op_move rfl rfl ?_)
  refine wOps_op rfl (op_load' rfl rfl rfl ta24 rfl ?_)
  refine wOps_op rfl (op_load' rfl rfl rfl ta30 rfl ?_)
  refine wOps_op rfl (op_call rfl rfl rfl co14 ((None_spec pS bP _).mono ?_))
  rintro _ _ ⟨rfl, rfl⟩
  rw [show noneF pS bP = true by unfold noneF; rw [kB]; exact decide_eq_true rfl]
  refine wOps_op rfl (op_pick rfl rfl rfl ?_)
  refine wOps_op rfl (op_move rfl rfl ?_)
  refine wOps_op rfl (op_load' rfl rfl rfl ta24 rfl ?_)
  refine wOps_op rfl (op_load' rfl rfl rfl ta30 rfl ?_)
  refine wOps_op rfl (op_call rfl rfl rfl co14 ((None_spec pS vP _).mono ?_))
  rintro _ _ ⟨rfl, rfl⟩
  rw [show noneF pS vP = false by unfold noneF; rw [kB]; exact decide_eq_false (fun e => kNe e.symm)]
  refine wOps_op rfl (op_not rfl rfl ?_)
  refine wOps_op rfl (op_pick rfl rfl rfl ?_)
  refine wOps_op rfl (op_move rfl rfl ?_)
  refine wOps_op rfl (op_load' rfl rfl rfl ta30 rfl ?_)
  refine wOps_op rfl (op_load' rfl rfl rfl ta30 rfl ?_)
  refine wOps_op rfl (op_call rfl rfl rfl co16 ((valSame_spec vP vP _).mono ?_))
  rintro _ _ ⟨rfl, rfl⟩
  rw [show decide (vP = vP) = true from decide_eq_true rfl]
  refine wOps_op rfl (op_pick rfl rfl rfl ?_)
  refine wOps_op rfl (op_move rfl rfl ?_)
  refine wOps_op rfl (op_load' rfl rfl rfl ta30 rfl ?_)
  refine wOps_op rfl (op_load' rfl rfl rfl ta30 rfl ?_)
  refine wOps_op rfl (op_call rfl rfl rfl co16 ((valSame_spec vP bP _).mono ?_))
  rintro _ _ ⟨rfl, rfl⟩
  rw [show decide (vP = bP) = false from decide_eq_false kNe]
  refine wOps_op rfl (op_not rfl rfl ?_)
  refine wOps_op rfl (op_pick rfl rfl rfl ?_)
  refine wOps_op rfl (op_move rfl rfl ?_)
  refine wOps_op rfl (op_load' rfl rfl rfl ta30 rfl ?_)
  refine wOps_op rfl (op_call rfl rfl rfl co17 ((valSize_spec vP _).mono ?_))
  rintro _ _ ⟨rfl, rfl⟩
  rw [kS]
  refine wOps_op rfl (op_cmp rfl rfl rfl (show _ = some true from rfl) ?_)
  refine wOps_op rfl (op_pick rfl rfl rfl ?_)
  refine wOps_op rfl (op_move rfl rfl ?_)
  refine wOps_op rfl (op_load' rfl rfl rfl ta24 rfl ?_)
  refine wOps_op rfl (op_buildSlice rfl Try.underlying26 el9 rfl rfl (by decide) (by decide) rfl rfl ?_)
  refine wOps_op rfl (op_viewTo (y := encV vBA) (op_build rfl Try.underlying30 zm30 (.cons fo30_2 sz26 rfl rfl (Nat.le_of_ble_eq_true rfl) .nil) (by kernel_rfl) ⟨rfl, rfl⟩) (.agg (.cons (.refl _) (.cons (.refl _) (.cons (.refl _) (.cons (.nil 1) (.cons (.nil 5) .nil)))))) ?_)
  refine wOps_op rfl (op_call rfl rfl rfl co9 ((valIs_spec (.mk 3 []) vBA okv.2 _).mono ?_))
  rintro _ _ ⟨rfl, rfl⟩
  rw [show (isF 16 (.mk 3 []) && isVF (.mk 3 []) vBA) = false by rw [kBA, Bool.and_false]]
  refine wOps_op rfl (op_not rfl rfl ?_)
  refine wOps_op rfl (op_pick rfl rfl rfl ?_)
  refine wOps_op rfl (op_assign rfl rfl ?_)
  refine wOps_nil ?_
  refine mwp_ret ?_
  exact ret_tmp (.inr rfl) Try.results8 rfl (.of_eq (rfl)) (.bool _) ⟨rfl, rfl⟩

theorem ValueTells_spec (s : Sch) (a b : Val) (ha : okV a) (S : MS) : MCalls Try.prog 3 [encS s, encV a, encV b] S fun v σ' => v = .bool true ∧ σ' = S := by
  obtain ⟨k, ins⟩ := s
  obtain ⟨n, m, s, c, w⟩ := a
  obtain ⟨n2, m2, s2, c2, w2⟩ := b
  refine mcalls_body Try.func3 rfl Try.ntmps3 (Nat.le_of_ble_eq_true rfl) ?_
  refine mwp_seq ?_
  refine mwp_region rfl ?_
  refine wOps_op rfl (op_box' rfl rfl rfl rfl ?_)
  refine wOps_op rfl (op_box' rfl rfl rfl rfl ?_)
  refine wOps_op rfl (op_box' rfl rfl rfl rfl ?_)
  refine wOps_op rfl (op_assign rfl rfl ?_)
  refine wOps_nil ?_
  refine mwp_seq ?_
  refine mwp_seq ?_
  refine mwp_region rfl ?_
  refine wOps_op rfl (op_call rfl rfl rfl co8 ((knownV_spec _).mono ?_))
  rintro _ _ ⟨rfl, rfl⟩
  refine wOps_op rfl (op_not rfl rfl ?_)
  refine wOps_nil ?_
  refine mwp_cond_f rfl (rfl) ?_
  refine mwp_skip ?_
  refine mwp_seq ?_
  refine mwp_draw [] [_] mo (by decide) rfl rfl rfl rfl ?_
  refine dOps_op rfl rfl (.cons (op_load' rfl rfl rfl ta24 rfl ⟨rfl, rfl⟩) .nil) ?_
  refine dOps_op rfl rfl (.cons (op_load' rfl rfl rfl ta30 rfl ⟨rfl, rfl⟩) .nil) ?_
  refine dOps_op rfl rfl (.cons (op_call rfl rfl rfl co9 (valIs_spec (.mk k ins) (.mk n m s c w) ha _)) .nil) ?_
  refine dOps_op rfl rfl (.cons (op_load' rfl rfl rfl ta24 rfl ⟨rfl, rfl⟩) .nil) ?_
  refine dOps_op rfl rfl (.cons (op_load' rfl rfl rfl ta30 rfl ⟨rfl, rfl⟩) .nil) ?_
  refine dOps_op rfl rfl (.cons (op_call rfl rfl rfl co10 (rValIs_spec (.mk k ins) (.mk n m s c w) ha _)) .nil) ?_
  refine dOps_op rfl rfl (.cons (op_booleq rfl Try.underlying4 rfl rfl ⟨rfl, rfl⟩) .nil) ?_
  rw [beq_self_eq_true]
  refine dOps_op rfl rfl (.cons (op_move rfl rfl ⟨rfl, rfl⟩) .nil) ?_
  refine dOps_op rfl rfl (.cons (op_load' rfl rfl rfl ta24 rfl ⟨rfl, rfl⟩) .nil) ?_
  refine dOps_op rfl rfl (.cons (op_call rfl rfl rfl co12 (Bottom_spec (.mk k ins) _)) .nil) ?_
  refine dOps_op rfl rfl (.cons (op_load' rfl rfl rfl ta24 rfl ⟨rfl, rfl⟩) .nil) ?_
  refine dOps_op rfl rfl (.cons (op_call rfl rfl rfl co13 (rBottom_spec (.mk k ins) _)) .nil) ?_
  refine dOps_op rfl rfl (.cons (op_call rfl rfl rfl co11 (rSame_spec (BottomF (.mk k ins)) (BottomF (.mk k ins)) _)) .nil) ?_
  rw [decide_eq_true rfl]
  refine dOps_op rfl rfl (.cons (op_pick rfl rfl rfl ⟨rfl, rfl⟩) .nil) ?_
  refine dOps_op rfl rfl (.cons (op_move rfl rfl ⟨rfl, rfl⟩) .nil) ?_
  refine dOps_op rfl rfl (.cons (op_load' rfl rfl rfl ta24 rfl ⟨rfl, rfl⟩) .nil) ?_
  refine dOps_op rfl rfl (.cons (op_load' rfl rfl rfl ta30 rfl ⟨rfl, rfl⟩) .nil) ?_
  refine dOps_op rfl rfl (.cons (op_call rfl rfl rfl co14 (None_spec (.mk k ins) (.mk n m s c w) _)) .nil) ?_
  refine dOps_op rfl rfl (.cons (op_load' rfl rfl rfl ta24 rfl ⟨rfl, rfl⟩) .nil) ?_
  refine dOps_op rfl rfl (.cons (op_load' rfl rfl rfl ta30 rfl ⟨rfl, rfl⟩) .nil) ?_
  refine dOps_op rfl rfl (.cons (op_call rfl rfl rfl co15 (rNone_spec (.mk k ins) (.mk n m s c w) _)) .nil) ?_
  refine dOps_op rfl rfl (.cons (op_booleq rfl Try.underlying4 rfl rfl ⟨rfl, rfl⟩) .nil) ?_
  rw [beq_self_eq_true]
  refine dOps_op rfl rfl (.cons (op_pick rfl rfl rfl ⟨rfl, rfl⟩) .nil) ?_
  refine dOps_op rfl rfl (.cons (op_move rfl rfl ⟨rfl, rfl⟩) .nil) ?_
  refine dOps_op rfl rfl (.cons (op_load' rfl rfl rfl ta30 rfl ⟨rfl, rfl⟩) .nil) ?_
  refine dOps_op rfl rfl (.cons (op_load' rfl rfl rfl ta30 rfl ⟨rfl, rfl⟩) .nil) ?_
  refine dOps_op rfl rfl (.cons (op_call rfl rfl rfl co16 (valSame_spec (.mk n m s c w) (.mk n2 m2 s2 c2 w2) _)) .nil) ?_
  refine dOps_op rfl rfl (.cons (op_load' rfl rfl rfl ta30 rfl ⟨rfl, rfl⟩) .nil) ?_
  refine dOps_op rfl rfl (.cons (op_load' rfl rfl rfl ta30 rfl ⟨rfl, rfl⟩) .nil) ?_
  refine dOps_op rfl rfl (.cons (op_call rfl rfl rfl co11 (rSame_spec (.mk n m s c w) (.mk n2 m2 s2 c2 w2) _)) .nil) ?_
  refine dOps_op rfl rfl (.cons (op_booleq rfl Try.underlying4 rfl rfl ⟨rfl, rfl⟩) .nil) ?_
  rw [beq_self_eq_true]
  refine dOps_op rfl rfl (.cons (op_pick rfl rfl rfl ⟨rfl, rfl⟩) .nil) ?_
  refine dOps_op rfl rfl (.cons (op_move rfl rfl ⟨rfl, rfl⟩) .nil) ?_
  refine dOps_op rfl rfl (.cons (op_load' rfl rfl rfl ta30 rfl ⟨rfl, rfl⟩) .nil) ?_
  refine dOps_op rfl rfl (.cons (op_call rfl rfl rfl co17 (valSize_spec (.mk n m s c w) _)) .nil) ?_
  refine dOps_op rfl rfl (.cons (op_load' rfl rfl rfl ta30 rfl ⟨rfl, rfl⟩) .nil) ?_
  refine dOps_op rfl rfl (.cons (op_call rfl rfl rfl co18 (rSize_spec (.mk n m s c w) _)) .nil) ?_
  refine dOps_op rfl rfl (.cons (op_cmp rfl rfl rfl rfl ⟨rfl, rfl⟩) .nil) ?_
  rw [beq_self_eq_true]
  refine dOps_op rfl rfl (.cons (op_pick rfl rfl rfl ⟨rfl, rfl⟩) .nil) ?_
  refine dOps_op rfl rfl (.cons (op_assign rfl rfl ⟨rfl, rfl⟩) .nil) ?_
  refine dOps_nil ?_
  refine mwp_ret ?_
  exact ret_tmp (.inr rfl) Try.results3 rfl (.of_eq (rfl)) (.bool _) ⟨rfl, rfl⟩

theorem bottom_is : ∀ (d : Nat) (s : Sch), isF d s = true → isVF s (bottomF s) = true ∧ okV (bottomF s)
  | 0, s, h => by simp [isF] at h
  | d + 1, .mk k ins, h => by
    rw [isF] at h
    simp only [Bool.and_eq_true, List.all_eq_true, beq_iff_eq] at h
    by_cases h5 : k = 5
    · subst h5
      obtain ⟨a, b, rfl⟩ := two_of h.1
      obtain ⟨h1, h2⟩ := bottom_is d a (h.2 a (by simp))
      obtain ⟨h3, h4⟩ := bottom_is d b (h.2 b (by simp))
      rw [bottomF, if_pos rfl, bottomL, bottomL, bottomL]
      refine ⟨?_, ?_⟩
      · rw [isVF_mk 5]
        simp [isVL, h1, h3, bareF, numsK, textsK, clocksK, valuesK, Val.nv, Val.mv, Val.sv, Val.cv, Val.vv]
      · simp [okV, okVs, h2, h4]
    · rw [bottomF, if_neg h5]
      refine ⟨?_, by simp [noV, okV, okVs]⟩
      have hk := k8_of h.1
      unfold noV
      rw [isVF_mk k]
      rcases hk with rfl | rfl | rfl | rfl | rfl | rfl | rfl | rfl
      · rfl
      · rfl
      · rfl
      · simp [bareF, numsK, textsK, clocksK, valuesK, Val.nv, Val.mv, Val.sv, Val.cv, Val.vv, isRowF, risesF, shortF]
      · exact absurd rfl h5
      · rfl
      · rfl
      · simp [bareF, numsK, textsK, clocksK, valuesK, Val.nv, Val.mv, Val.sv, Val.cv, Val.vv, isCauseF, pairsF]


theorem ValueBottoms_spec (s : Sch) (x : Val) (hx : okV x) (S : MS) : MCalls Try.prog 4 [encS s, encV x] S fun v σ' => v = .bool true ∧ σ' = S := by
  obtain ⟨k, ins⟩ := s
  obtain ⟨n, m, s, c, w⟩ := x
  obtain ⟨⟨n2, m2, s2, c2, w2⟩, e1⟩ : ∃ v, BottomF (.mk k ins) = v := ⟨_, rfl⟩
  have bs := Bottom_spec (.mk k ins)
  simp only [e1] at bs
  have hb : okV (.mk n2 m2 s2 c2 w2) := by
    rw [← e1]
    unfold BottomF
    split
    · rename_i h; exact (bottom_is 16 _ h).2
    · simp [noV, okV, okVs]
  refine mcalls_body Try.func4 rfl Try.ntmps4 (Nat.le_of_ble_eq_true rfl) ?_
  refine mwp_seq ?_
  refine mwp_region rfl ?_
  refine wOps_op rfl (op_box' rfl rfl rfl rfl ?_)
  refine wOps_op rfl (op_box' rfl rfl rfl rfl ?_)
  refine wOps_op rfl (op_assign rfl rfl ?_)
  refine wOps_nil ?_
  refine mwp_seq ?_
  refine mwp_seq ?_
  refine mwp_region rfl ?_
  refine wOps_op rfl (op_call rfl rfl rfl co8 ((knownV_spec _).mono ?_))
  rintro _ _ ⟨rfl, rfl⟩
  refine wOps_op rfl (op_not rfl rfl ?_)
  refine wOps_nil ?_
  refine mwp_cond_f rfl (rfl) ?_
  refine mwp_skip ?_
  refine mwp_seq ?_
  refine mwp_region rfl ?_
  refine wOps_op rfl (op_load' rfl rfl rfl ta24 rfl ?_)
  refine wOps_op rfl (op_call rfl rfl rfl co12 ((bs _).mono ?_))
  rintro _ _ ⟨rfl, rfl⟩
  refine wOps_op rfl (op_alloc' rfl zm30 rfl rfl ?_)
  refine wOps_op rfl (op_store' rfl rfl rfl rfl sz30 rfl rfl (Nat.le_of_ble_eq_true rfl) rfl ?_)
  refine wOps_nil ?_
  refine mwp_seq ?_
  refine mwp_seq ?_
  refine mwp_region rfl ?_
  refine wOps_op rfl (op_load' rfl rfl rfl ta24 rfl ?_)
  refine wOps_op rfl (op_call rfl rfl rfl co19 ((rIsSchema_spec (.mk k ins) _).mono ?_))
  rintro _ _ ⟨rfl, rfl⟩
  refine wOps_op rfl (op_not rfl rfl ?_)
  refine wOps_nil ?_
  refine mwp_cond_split rfl (fun h12 => ?_) (fun h12 => ?_)
  · -- yes
    have hs : isF 16 (.mk k ins) = false := by simpa using h12
    refine mwp_seq ?_
    refine mwp_region rfl ?_
    refine wOps_op rfl (op_load' rfl rfl rfl ta24 rfl ?_)
    refine wOps_op rfl (op_load' rfl rfl rfl ta30 rfl ?_)
    refine wOps_op rfl (op_call rfl rfl rfl co9 ((valIs_spec (.mk k ins) (Val.mk n m s c w) hx _).mono ?_))
    rintro _ _ ⟨rfl, rfl⟩
    rw [hs, Bool.false_and]
    refine wOps_op rfl (op_not rfl rfl ?_)
    refine wOps_op rfl (op_move rfl rfl ?_)
    refine wOps_op rfl (op_load' rfl rfl rfl ta24 rfl ?_)
    refine wOps_op rfl (op_load' rfl rfl rfl ta30 rfl ?_)
    refine wOps_op rfl (op_call rfl rfl rfl co9 ((valIs_spec (.mk k ins) (Val.mk n2 m2 s2 c2 w2) hb _).mono ?_))
    rintro _ _ ⟨rfl, rfl⟩
    rw [hs, Bool.false_and]
    refine wOps_op rfl (op_not rfl rfl ?_)
    refine wOps_op rfl (op_pick rfl rfl rfl ?_)
    refine wOps_op rfl (op_assign rfl rfl ?_)
    refine wOps_nil ?_
    refine mwp_ret ?_
    exact ret_tmp (.inr rfl) Try.results4 rfl (.of_eq (by first | rfl | simp)) (.bool _) ⟨rfl, rfl⟩
  · -- no
    have hs : isF 16 (.mk k ins) = true := by simpa using h12
    have hbi := (bottom_is 16 _ hs).1
    have hbe : bottomF (.mk k ins) = (Val.mk n2 m2 s2 c2 w2) := by rw [← e1]; unfold BottomF; rw [if_pos hs]
    rw [hbe] at hbi
    refine mwp_skip ?_
    refine mwp_seq ?_
    refine mwp_draw [] [_] mo (by decide) rfl rfl rfl rfl ?_
    refine dOps_op rfl rfl (.cons (op_load' rfl rfl rfl ta24 rfl ⟨rfl, rfl⟩) .nil) ?_
    refine dOps_op rfl rfl (.cons (op_load' rfl rfl rfl ta30 rfl ⟨rfl, rfl⟩) .nil) ?_
    refine dOps_op rfl rfl (.cons (op_call rfl rfl rfl co9 (valIs_spec (.mk k ins) (Val.mk n2 m2 s2 c2 w2) hb _)) .nil) ?_
    rw [hs, hbi, Bool.true_and]
    refine dOps_op rfl rfl (.cons (op_move rfl rfl ⟨rfl, rfl⟩) .nil) ?_
    refine dOps_op rfl rfl (.cons (op_load' rfl rfl rfl ta24 rfl ⟨rfl, rfl⟩) .nil) ?_
    refine dOps_op rfl rfl (.cons (op_load' rfl rfl rfl ta30 rfl ⟨rfl, rfl⟩) .nil) ?_
    refine dOps_op rfl rfl (.cons (op_call rfl rfl rfl co14 (None_spec (.mk k ins) (Val.mk n2 m2 s2 c2 w2) _)) .nil) ?_
    rw [show noneF (.mk k ins) (Val.mk n2 m2 s2 c2 w2) = true by unfold noneF; rw [e1]; exact decide_eq_true rfl]
    refine dOps_op rfl rfl (.cons (op_pick rfl rfl rfl ⟨rfl, rfl⟩) .nil) ?_
    refine dOps_op rfl rfl (.cons (op_move rfl rfl ⟨rfl, rfl⟩) .nil) ?_
    refine dOps_op rfl rfl (.cons (op_load' rfl rfl rfl ta24 rfl ⟨rfl, rfl⟩) .nil) ?_
    refine dOps_op rfl rfl (.cons (op_load' rfl rfl rfl ta30 rfl ⟨rfl, rfl⟩) .nil) ?_
    refine dOps_op rfl rfl (.cons (op_call rfl rfl rfl co14 (None_spec (.mk k ins) (Val.mk n m s c w) _)) .nil) ?_
    refine dOps_op rfl rfl (.cons (op_load' rfl rfl rfl ta30 rfl ⟨rfl, rfl⟩) .nil) ?_
    refine dOps_op rfl rfl (.cons (op_load' rfl rfl rfl ta30 rfl ⟨rfl, rfl⟩) .nil) ?_
    refine dOps_op rfl rfl (.cons (op_call rfl rfl rfl co16 (valSame_spec (Val.mk n m s c w) (Val.mk n2 m2 s2 c2 w2) _)) .nil) ?_
    refine dOps_op rfl rfl (.cons (op_booleq rfl Try.underlying4 rfl rfl ⟨rfl, rfl⟩) .nil) ?_
    rw [show noneF (.mk k ins) (Val.mk n m s c w) = decide ((Val.mk n m s c w) = (Val.mk n2 m2 s2 c2 w2)) by unfold noneF; rw [e1]; rw [Bool.eq_iff_iff]; simp only [decide_eq_true_eq]; exact eq_comm, beq_self_eq_true]
    refine dOps_op rfl rfl (.cons (op_pick rfl rfl rfl ⟨rfl, rfl⟩) .nil) ?_
    refine dOps_op rfl rfl (.cons (op_move rfl rfl ⟨rfl, rfl⟩) .nil) ?_
    refine dOps_op rfl rfl (.cons (op_load' rfl rfl rfl ta24 rfl ⟨rfl, rfl⟩) .nil) ?_
    refine dOps_op rfl rfl (.cons (op_load' rfl rfl rfl ta30 rfl ⟨rfl, rfl⟩) .nil) ?_
    refine dOps_op rfl rfl (.cons (op_call rfl rfl rfl co14 (None_spec (.mk k ins) (Val.mk n m s c w) _)) .nil) ?_
    refine dOps_op rfl rfl (.cons (op_not rfl rfl ⟨rfl, rfl⟩) .nil) ?_
    refine dOps_op rfl rfl (.cons (op_move rfl rfl ⟨rfl, rfl⟩) .nil) ?_
    refine dOps_case (fun h45 => ?_) (fun h45 => ?_)
    ·
      refine dOps_skip rfl rfl ?_
      refine dOps_skip rfl rfl ?_
      refine dOps_skip rfl rfl ?_
      refine dOps_op rfl rfl (.cons (op_pick rfl rfl rfl ⟨rfl, rfl⟩) .nil) ?_
      refine dOps_op rfl rfl (.cons (op_pick rfl rfl rfl ⟨rfl, rfl⟩) .nil) ?_
      refine dOps_op rfl rfl (.cons (op_assign rfl rfl ⟨rfl, rfl⟩) .nil) ?_
      refine dOps_nil ?_
      refine mwp_ret ?_
      exact ret_tmp (.inr rfl) Try.results4 rfl (.of_eq (by first | rfl | simp)) (.bool _) ⟨rfl, rfl⟩
    ·
      refine dOps_op rfl rfl (.cons (op_load' rfl rfl rfl ta24 rfl ⟨rfl, rfl⟩) .nil) ?_
      refine dOps_op rfl rfl (.cons (op_load' rfl rfl rfl ta30 rfl ⟨rfl, rfl⟩) .nil) ?_
      refine dOps_op rfl rfl (.cons (op_call rfl rfl rfl co9 (valIs_spec (.mk k ins) (Val.mk n m s c w) hx _)) .nil) ?_
      rw [show (isF 16 (.mk k ins) && isVF (.mk k ins) (Val.mk n m s c w)) = true by (have e : (Val.mk n m s c w) = (Val.mk n2 m2 s2 c2 w2) := by (unfold noneF at h45; rw [e1] at h45; simp at h45; simp [h45])); rw [e, hs, hbi]; rfl]
      refine dOps_op rfl rfl (.cons (op_pick rfl rfl rfl ⟨rfl, rfl⟩) .nil) ?_
      refine dOps_op rfl rfl (.cons (op_pick rfl rfl rfl ⟨rfl, rfl⟩) .nil) ?_
      refine dOps_op rfl rfl (.cons (op_assign rfl rfl ⟨rfl, rfl⟩) .nil) ?_
      refine dOps_nil ?_
      refine mwp_ret ?_
      exact ret_tmp (.inr rfl) Try.results4 rfl (.of_eq (by first | rfl | simp)) (.bool _) ⟨rfl, rfl⟩
end Go.Proofs.Ytihpnfpdocnniaa
