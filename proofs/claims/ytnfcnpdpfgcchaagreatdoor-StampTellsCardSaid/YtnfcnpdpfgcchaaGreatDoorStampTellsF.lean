/-
  Texts on which the proof of StampTells leans: part 6.
-/
import Derived.Test.YtnfcnpdpfgcchaaGreatDoorStampTellsE
import Derived.Stop.Asserts
import Derived.Deep.Slices
import Derived.ChangeSame
import Derived.ProofKit
import Derived.OpenShut
import Derived.ChangeOld
import Derived.SizedLaws
import Derived.Carry
import Derived.Laws.Tables
section
set_option linter.unusedVariables false
set_option linter.unusedSimpArgs false
set_option maxRecDepth 20000
set_option maxHeartbeats 400000
namespace Go.Proofs.YtnfcnpdpfgcchaaGreatDoor
open Go Go.MV
theorem stampLater_spec (a b : Val) (ha : okV a) (hb : okV b) (S : MS) : MCalls Tryz.prog 26 [encV a, encV b] S fun v σ' => v = .bool (laterVF a b) ∧ σ' = S := by
 obtain ⟨n1, m1, s1, c1, w1⟩ := a
 obtain ⟨n2, m2, s2, c2, w2⟩ := b
 refine mcalls_body Tryz.func26 rfl Tryz.ntmps26 (Nat.le_of_ble_eq_true rfl) ?_
 refine mwp_seq <| qR rfl <| qB rfl rfl rfl rfl rfl <| qB rfl rfl rfl rfl rfl <| qA rfl rfl rfl <| qN <| mwp_seq ?_
 have hof := join_spec (.mk 6 []) (.mk n1 m1 s1 c1 w1) (.mk n2 m2 s2 c2 w2) ha hb
 rcases joinR (.mk 6 []) (.mk n1 m1 s1 c1 w1) (.mk n2 m2 s2 c2 w2) with ⟨n3, m3, s3, c3, w3, hj⟩ | hj | hj <;> rw [hj] at hof
 ·
  refine mwp_draw [7, 8] [_, S ++ [.cells (encV (.mk n1 m1 s1 c1 w1)).cells, .cells (encV (.mk n2 m2 s2 c2 w2)).cells, .cells [.int .u64 0, .int .u64 0, .lst0, .lst0, .lst0]], S ++ [.cells (encV (.mk n1 m1 s1 c1 w1)).cells, .cells (encV (.mk n2 m2 s2 c2 w2)).cells, .cells (encV (.mk n3 m3 s3 c3 w3)).cells]] mo (by decide) rfl rfl rfl rfl ?_
  refine dOps_op rfl rfl (.cons (op_call rfl rfl rfl co45 (sLast_spec _)) (.cons (op_call rfl rfl rfl co45 (sLast_spec _)) (.nil))) <| dOps_op rfl rfl (.cons (op_load' rfl rfl rfl ta30 rfl ⟨rfl, rfl⟩) (.cons (op_load' rfl rfl rfl ta30 rfl ⟨rfl, rfl⟩) (.nil))) <| dOps_op rfl rfl (.cons (op_load' rfl rfl rfl ta30 rfl ⟨rfl, rfl⟩) (.cons (op_load' rfl rfl rfl ta30 rfl ⟨rfl, rfl⟩) (.nil))) <| dOps_op rfl rfl (.cons (op_call rfl rfl rfl co7 (hof _)) (.cons (op_call rfl rfl rfl co7 (hof _)) (.nil))) <| dOps_op rfl rfl (.cons (op_move rfl rfl ⟨rfl, rfl⟩) (.cons (op_move rfl rfl ⟨rfl, rfl⟩) (.nil))) <| dOps_op rfl rfl (.cons (op_extract rfl rfl rfl ⟨rfl, rfl⟩) (.cons (op_extract rfl rfl rfl ⟨rfl, rfl⟩) (.nil))) <| dOps_op rfl rfl (.cons (op_extract rfl rfl rfl ⟨rfl, rfl⟩) (.cons (op_extract rfl rfl rfl ⟨rfl, rfl⟩) (.cons (op_extract rfl rfl rfl ⟨rfl, rfl⟩) (.nil)))) <| dOps_eff rfl rfl rfl rfl (op_alloc' rfl zm30 rfl rfl ⟨rfl, rfl⟩) <| dOps_eff rfl rfl rfl rfl (op_store' rfl rfl rfl rfl sz30 rfl rfl (Nat.le_of_ble_eq_true rfl) rfl ⟨rfl, rfl⟩) <| dO rfl rfl rfl (op_assign rfl rfl ⟨rfl, rfl⟩) <| dOps_nil <| mwp_seq <| qR rfl <| qM rfl rfl rfl <| qO rfl <| op_if0 rfl Tryz.underlying33 rfl rfl (.inl ⟨rfl, rfl⟩) <| qM rfl rfl rfl <| qL rfl rfl rfl rfl ta30 rfl <| qL rfl rfl rfl rfl ta30 rfl ?_
  refine wOps_op rfl (op_call rfl rfl rfl co41 ((valSame_spec (.mk n3 m3 s3 c3 w3) (.mk n1 m1 s1 c1 w1) _).mono ?_))
  rintro _ _ ⟨rfl, rfl⟩
  refine qP rfl rfl rfl rfl <| qM rfl rfl rfl ?_
  refine wOps_case (fun h21 => ?_) (fun h21 => ?_)
  ·
   refine qL rfl rfl rfl rfl ta30 rfl <| qL rfl rfl rfl rfl ta30 rfl ?_
   refine wOps_op rfl (op_call rfl rfl rfl co41 ((valSame_spec (.mk n1 m1 s1 c1 w1) (.mk n2 m2 s2 c2 w2) _).mono ?_))
   rintro _ _ ⟨rfl, rfl⟩
   refine qO rfl <| op_not rfl rfl <| qP rfl rfl rfl rfl <| qA rfl rfl rfl <| qN <| mwp_ret ?_
   exact ret_tmp (.inr rfl) Tryz.results26 rfl (.of_eq (by unfold laterVF; rw [hj]; simp_all [Bool.and_comm])) (.bool _) ⟨rfl, rfl⟩
  ·
   refine qS rfl <| qS rfl <| qS rfl <| qS rfl <| qP rfl rfl rfl rfl <| qA rfl rfl rfl <| qN <| mwp_ret ?_
   exact ret_tmp (.inr rfl) Tryz.results26 rfl (.of_eq (by unfold laterVF; rw [hj]; simp_all [Bool.and_comm])) (.bool _) ⟨rfl, rfl⟩
 ·
  refine mwp_draw [7, 8] [_, S ++ [.cells (encV (.mk n1 m1 s1 c1 w1)).cells, .cells (encV (.mk n2 m2 s2 c2 w2)).cells, .cells [.int .u64 0, .int .u64 0, .lst0, .lst0, .lst0]], S ++ [.cells (encV (.mk n1 m1 s1 c1 w1)).cells, .cells (encV (.mk n2 m2 s2 c2 w2)).cells, .cells (encV noV).cells]] mo (by decide) rfl rfl rfl rfl ?_
  refine dOps_op rfl rfl (.cons (op_call rfl rfl rfl co45 (sLast_spec _)) (.cons (op_call rfl rfl rfl co45 (sLast_spec _)) (.nil))) <| dOps_op rfl rfl (.cons (op_load' rfl rfl rfl ta30 rfl ⟨rfl, rfl⟩) (.cons (op_load' rfl rfl rfl ta30 rfl ⟨rfl, rfl⟩) (.nil))) <| dOps_op rfl rfl (.cons (op_load' rfl rfl rfl ta30 rfl ⟨rfl, rfl⟩) (.cons (op_load' rfl rfl rfl ta30 rfl ⟨rfl, rfl⟩) (.nil))) <| dOps_op rfl rfl (.cons (op_call rfl rfl rfl co7 (hof _)) (.cons (op_call rfl rfl rfl co7 (hof _)) (.nil))) <| dOps_op rfl rfl (.cons (op_move rfl rfl ⟨rfl, rfl⟩) (.cons (op_move rfl rfl ⟨rfl, rfl⟩) (.nil))) <| dOps_op rfl rfl (.cons (op_extract rfl rfl rfl ⟨rfl, rfl⟩) (.cons (op_extract rfl rfl rfl ⟨rfl, rfl⟩) (.nil))) <| dOps_op rfl rfl (.cons (op_extract rfl rfl rfl ⟨rfl, rfl⟩) (.cons (op_extract rfl rfl rfl ⟨rfl, rfl⟩) (.cons (op_extract rfl rfl rfl ⟨rfl, rfl⟩) (.nil)))) <| dOps_eff rfl rfl rfl rfl (op_alloc' rfl zm30 rfl rfl ⟨rfl, rfl⟩) <| dOps_eff rfl rfl rfl rfl (op_store' rfl rfl rfl rfl sz30 rfl rfl (Nat.le_of_ble_eq_true rfl) rfl ⟨rfl, rfl⟩) <| dO rfl rfl rfl (op_assign rfl rfl ⟨rfl, rfl⟩) <| dOps_nil <| mwp_seq <| qR rfl <| qM rfl rfl rfl <| qO rfl <| op_ifnil rfl Tryz.underlying33 rfl rfl (.inl ⟨rfl, rfl⟩) <| qM rfl rfl rfl <| qS rfl <| qS rfl <| qS rfl <| qP rfl rfl rfl rfl <| qM rfl rfl rfl <| qS rfl <| qS rfl <| qS rfl <| qS rfl ?_
  refine qP rfl rfl rfl rfl <| qA rfl rfl rfl <| qN <| mwp_ret ?_
  exact ret_tmp (.inr rfl) Tryz.results26 rfl (.of_eq (by unfold laterVF; rw [hj])) (.bool _) ⟨rfl, rfl⟩
 ·
  refine mwp_draw [7, 8] [_, S ++ [.cells (encV (.mk n1 m1 s1 c1 w1)).cells, .cells (encV (.mk n2 m2 s2 c2 w2)).cells, .cells [.int .u64 0, .int .u64 0, .lst0, .lst0, .lst0]], S ++ [.cells (encV (.mk n1 m1 s1 c1 w1)).cells, .cells (encV (.mk n2 m2 s2 c2 w2)).cells, .cells (encV noV).cells]] mo (by decide) rfl rfl rfl rfl ?_
  refine dOps_op rfl rfl (.cons (op_call rfl rfl rfl co45 (sLast_spec _)) (.cons (op_call rfl rfl rfl co45 (sLast_spec _)) (.nil))) <| dOps_op rfl rfl (.cons (op_load' rfl rfl rfl ta30 rfl ⟨rfl, rfl⟩) (.cons (op_load' rfl rfl rfl ta30 rfl ⟨rfl, rfl⟩) (.nil))) <| dOps_op rfl rfl (.cons (op_load' rfl rfl rfl ta30 rfl ⟨rfl, rfl⟩) (.cons (op_load' rfl rfl rfl ta30 rfl ⟨rfl, rfl⟩) (.nil))) <| dOps_op rfl rfl (.cons (op_call rfl rfl rfl co7 (hof _)) (.cons (op_call rfl rfl rfl co7 (hof _)) (.nil))) <| dOps_op rfl rfl (.cons (op_move rfl rfl ⟨rfl, rfl⟩) (.cons (op_move rfl rfl ⟨rfl, rfl⟩) (.nil))) <| dOps_op rfl rfl (.cons (op_extract rfl rfl rfl ⟨rfl, rfl⟩) (.cons (op_extract rfl rfl rfl ⟨rfl, rfl⟩) (.nil))) <| dOps_op rfl rfl (.cons (op_extract rfl rfl rfl ⟨rfl, rfl⟩) (.cons (op_extract rfl rfl rfl ⟨rfl, rfl⟩) (.cons (op_extract rfl rfl rfl ⟨rfl, rfl⟩) (.nil)))) <| dOps_eff rfl rfl rfl rfl (op_alloc' rfl zm30 rfl rfl ⟨rfl, rfl⟩) <| dOps_eff rfl rfl rfl rfl (op_store' rfl rfl rfl rfl sz30 rfl rfl (Nat.le_of_ble_eq_true rfl) rfl ⟨rfl, rfl⟩) <| dO rfl rfl rfl (op_assign rfl rfl ⟨rfl, rfl⟩) <| dOps_nil <| mwp_seq <| qR rfl <| qM rfl rfl rfl <| qO rfl <| op_ifnil rfl Tryz.underlying33 rfl rfl (.inl ⟨rfl, rfl⟩) <| qM rfl rfl rfl <| qS rfl <| qS rfl <| qS rfl <| qP rfl rfl rfl rfl <| qM rfl rfl rfl <| qS rfl <| qS rfl <| qS rfl <| qS rfl ?_
  refine qP rfl rfl rfl rfl <| qA rfl rfl rfl <| qN <| mwp_ret ?_
  exact ret_tmp (.inr rfl) Tryz.results26 rfl (.of_eq (by unfold laterVF; rw [hj])) (.bool _) ⟨rfl, rfl⟩
theorem laterVF_eq {a b : Val} (ha : isLV a = true) (hb : isLV b = true) : laterVF a b = (decide (laterF a b = a) && !decide (a = b)) := by
 unfold laterVF
 rw [join_ok_of (by decide) ha hb (both_lv a b ha hb)]
def sV : Val := .mk 1 7 [[97]] [] []
def sW : Val := .mk 2 3 [[98]] [] []
def sM : Val := .mk 18446744073709551615 0 [[120]] [] []
theorem lv_no : isLV noV = true := is_last0
theorem lv_sV : isLV sV = true := by unfold isLV sV; rw [isVF_mk 6]; rfl
theorem lv_sW : isLV sW = true := by unfold isLV sW; rw [isVF_mk 6]; rfl
theorem lv_sM : isLV sM = true := by unfold isLV sM; rw [isVF_mk 6]; rfl
theorem ks_1 : nextVF noV 7 [97] = .ok sV := by unfold nextVF; rw [lv_no]; rfl
theorem ks_2 : nextVF sV 3 [98] = .ok sW := by unfold nextVF; rw [lv_sV]; rfl
theorem ks_3 : nextVF (.mk 3 0 [] [] []) 1 [99] = .error 14 := by
 unfold nextVF
 rw [show isLV (.mk 3 0 [] [] []) = false by unfold isLV; rw [isVF_mk 6]; rfl]
 rfl
theorem ks_4 : nextVF sM 1 [99] = .error 15 := by unfold nextVF; rw [lv_sM]; rfl
theorem ks_5 : laterVF sW sV = true ∧ laterVF sV sW = false ∧ laterVF sV sV = false := by
 have h : laterF sW sV = sW := rfl
 have h2 : laterF sV sW = sW := rfl
 have hne : ¬ sW = sV := by simp [sW, sV]
 have hne2 : ¬ sV = sW := by simp [sW, sV]
 refine ⟨?_, ?_, ?_⟩
 ·rw [laterVF_eq lv_sW lv_sV, h]; simp [hne]
 ·rw [laterVF_eq lv_sV lv_sW, h2]; simp [hne]
 ·rw [laterVF_eq lv_sV lv_sV]; simp
theorem ok_ks : okV sV ∧ okV sW ∧ okV sM := by refine ⟨?_, ?_, ?_⟩ <;> simp [sV, sW, sM, okV, okVs]
theorem later_at {a b : Val} {r : Bool} (ha : okV a) (hb : okV b) (h : laterVF a b = r) (S : MS) : MCalls Tryz.prog 26 [encV a, encV b] S fun v σ' => v = .bool r ∧ σ' = S := h ▸ stampLater_spec a b ha hb S
theorem next_at {a : Val} {w : Int} {t : Bs} {r : Except Int Val} (ha : okV a) (h : nextVF a w t = r) (S : MS) : MCalls Tryz.prog 20 [encV a, .int .i64 w, encX t] S fun v σ' => v = encJ r ∧ σ' = S := h ▸ stampNext_spec a w t ha S
theorem isAt {a : Val} {r : Bool} (ha : okV a) (h : isLV a = r) (S : MS) : MCalls Tryz.prog 22 [encV a] S fun v σ' => v = .bool r ∧ σ' = S := h ▸ stampIs_spec a ha S
theorem rLater_spec (a b : Val) (S : MS) : MCalls Tryz.prog 59 [encV a, encV b] S fun v σ' => v = encV (laterF a b) ∧ σ' = S := by
 obtain ⟨n1, m1, s1, c1, w1⟩ := a
 obtain ⟨n2, m2, s2, c2, w2⟩ := b
 refine mcalls_body Tryz.func59 rfl Tryz.ntmps59 (Nat.le_of_ble_eq_true rfl) ?_
 refine mwp_seq <| qR rfl <| qB rfl rfl rfl rfl rfl <| qB rfl rfl rfl rfl rfl <| qO rfl <| op_alloc' rfl zm30 rfl rfl <| qN <| mwp_seq <| mwp_block <| mwp_seq ?_
 rcases s1 with _ | ⟨x, s1⟩
 rotate_left
 rcases s2 with _ | ⟨y, s2⟩
 rotate_left 2
 ·
  refine qR rfl <| qF rfl rfl rfl fo30_2 <| qL rfl rfl rfl rfl ta26 rfl <| qE rfl rfl Tryz.underlying26 rfl <| qC rfl rfl rfl rfl (eqlI rfl) <| qA rfl rfl rfl <| qN <| mwp_cond_t rfl (rfl) <| mwp_seq <| qR rfl <| qL rfl rfl rfl rfl ta30 rfl <| qO rfl <| op_store' rfl rfl rfl rfl sz30 rfl rfl (Nat.le_of_ble_eq_true rfl) rfl <| qN <| mwp_ret ?_
  exact ret_cell (y := encV (.mk n2 m2 s2 c2 w2)) (.inr rfl) Tryz.results59 rfl rfl ta30 rfl (.refl _) (cl_encV _ _) ⟨congrArg encV (if_pos (.inl rfl)).symm, rfl⟩
 ·
  refine qR rfl <| qF rfl rfl rfl fo30_2 <| qL rfl rfl rfl rfl ta26 rfl <| qE rfl rfl Tryz.underlying26 rfl <| qC rfl rfl rfl rfl (eq_cons) <| qA rfl rfl rfl <| qN <| mwp_cond_f rfl (rfl) <| mwp_seq <| qR rfl <| qF rfl rfl rfl fo30_2 <| qL rfl rfl rfl rfl ta26 rfl <| qE rfl rfl Tryz.underlying26 rfl <| qC rfl rfl rfl rfl (eqlI rfl) <| qA rfl rfl rfl <| qN <| mwp_cond_t rfl (rfl) <| mwp_seq <| qR rfl <| qL rfl rfl rfl rfl ta30 rfl ?_
  refine qO rfl <| op_store' rfl rfl rfl rfl sz30 rfl rfl (Nat.le_of_ble_eq_true rfl) rfl <| qN <| mwp_ret ?_
  exact ret_cell (y := encV (.mk n1 m1 (x :: s1) c1 w1)) (.inr rfl) Tryz.results59 rfl rfl ta30 rfl (.refl _) (cl_encV _ _) ⟨congrArg encV (if_neg (by simp [Val.sv])).symm, rfl⟩
 ·
  refine qR rfl <| qF rfl rfl rfl fo30_2 <| qL rfl rfl rfl rfl ta26 rfl <| qE rfl rfl Tryz.underlying26 rfl <| qC rfl rfl rfl rfl (eq_cons) <| qA rfl rfl rfl <| qN <| mwp_cond_f rfl (rfl) <| mwp_seq <| qR rfl <| qF rfl rfl rfl fo30_2 <| qL rfl rfl rfl rfl ta26 rfl <| qE rfl rfl Tryz.underlying26 rfl <| qC rfl rfl rfl rfl (eq_cons) <| qA rfl rfl rfl <| qN <| mwp_cond_f rfl (rfl) <| mwp_seq <| qR rfl <| qF rfl rfl rfl fo30_0 ?_
  refine qL rfl rfl rfl rfl ta25 rfl <| qF rfl rfl rfl fo30_0 <| qL rfl rfl rfl rfl ta25 rfl <| qC rfl rfl rfl rfl rfl <| qA rfl rfl rfl <| qN ?_
  refine mwp_cond_split rfl (fun h17 => ?_) (fun h17 => ?_)
  ·
   have q17 : n1 ≠ n2 := by simpa using h17
   refine mwp_seq <| mwp_seq <| qR rfl <| qF rfl rfl rfl fo30_0 <| qL rfl rfl rfl rfl ta25 rfl <| qF rfl rfl rfl fo30_0 <| qL rfl rfl rfl rfl ta25 rfl <| qC rfl rfl rfl rfl rfl <| qN ?_
   refine mwp_cond_split rfl (fun h27 => ?_) (fun h27 => ?_)
   ·
    have q27 := of_decide_eq_true h27
    refine mwp_seq <| qR rfl <| qL rfl rfl rfl rfl ta30 rfl <| qO rfl <| op_store' rfl rfl rfl rfl sz30 rfl rfl (Nat.le_of_ble_eq_true rfl) rfl <| qN <| mwp_ret ?_
    exact ret_cell (y := encV (.mk n1 m1 (x :: s1) c1 w1)) (.inr rfl) Tryz.results59 rfl rfl ta30 rfl (.refl _) (cl_encV _ _) ⟨congrArg encV (laterF_not _ _ _ _ _ _ (by unfold LT3; rintro (h | ⟨_, h | ⟨_, _⟩⟩) <;> omega)).symm, rfl⟩
   ·
    have q27 := of_decide_eq_false h27
    refine mwp_skip <| mwp_seq <| qR rfl <| qL rfl rfl rfl rfl ta30 rfl <| qO rfl <| op_store' rfl rfl rfl rfl sz30 rfl rfl (Nat.le_of_ble_eq_true rfl) rfl <| qN <| mwp_ret ?_
    exact ret_cell (y := encV (.mk n2 m2 (y :: s2) c2 w2)) (.inr rfl) Tryz.results59 rfl rfl ta30 rfl (.refl _) (cl_encV _ _) ⟨congrArg encV (laterF_yes _ _ _ _ _ _ (by unfold LT3; first | (left; omega) | (right; exact ⟨by omega, .inl (by omega)⟩))).symm, rfl⟩
  ·
   have q17 : n1 = n2 := by simpa using h17
   refine mwp_seq <| qR rfl <| qF rfl rfl rfl fo30_1 <| qL rfl rfl rfl rfl ta25 rfl <| qF rfl rfl rfl fo30_1 <| qL rfl rfl rfl rfl ta25 rfl <| qC rfl rfl rfl rfl rfl <| qA rfl rfl rfl <| qN ?_
   refine mwp_cond_split rfl (fun h30 => ?_) (fun h30 => ?_)
   ·
    have q30 : m1 ≠ m2 := by simpa using h30
    refine mwp_seq <| mwp_seq <| qR rfl <| qF rfl rfl rfl fo30_1 <| qL rfl rfl rfl rfl ta25 rfl <| qF rfl rfl rfl fo30_1 <| qL rfl rfl rfl rfl ta25 rfl <| qC rfl rfl rfl rfl rfl <| qN ?_
    refine mwp_cond_split rfl (fun h40 => ?_) (fun h40 => ?_)
    ·
     have q40 := of_decide_eq_true h40
     refine mwp_seq <| qR rfl <| qL rfl rfl rfl rfl ta30 rfl <| qO rfl <| op_store' rfl rfl rfl rfl sz30 rfl rfl (Nat.le_of_ble_eq_true rfl) rfl <| qN <| mwp_ret ?_
     exact ret_cell (y := encV (.mk n1 m1 (x :: s1) c1 w1)) (.inr rfl) Tryz.results59 rfl rfl ta30 rfl (.refl _) (cl_encV _ _) ⟨congrArg encV (laterF_not _ _ _ _ _ _ (by unfold LT3; rintro (h | ⟨_, h | ⟨_, _⟩⟩) <;> omega)).symm, rfl⟩
    ·
     have q40 := of_decide_eq_false h40
     refine mwp_skip <| mwp_seq <| qR rfl <| qL rfl rfl rfl rfl ta30 rfl <| qO rfl <| op_store' rfl rfl rfl rfl sz30 rfl rfl (Nat.le_of_ble_eq_true rfl) rfl <| qN <| mwp_ret ?_
     exact ret_cell (y := encV (.mk n2 m2 (y :: s2) c2 w2)) (.inr rfl) Tryz.results59 rfl rfl ta30 rfl (.refl _) (cl_encV _ _) ⟨congrArg encV (laterF_yes _ _ _ _ _ _ (by unfold LT3; first | (left; omega) | (right; exact ⟨by omega, .inl (by omega)⟩))).symm, rfl⟩
   ·
    have q30 : m1 = m2 := by simpa using h30
    refine mwp_seq ?_
    refine mwp_draw [] [_] mo (by decide) rfl rfl rfl rfl ?_
    refine dO rfl rfl rfl (op_fieldAddr_ref rfl rfl fo30_2 ⟨rfl, rfl⟩) <| dO rfl rfl rfl (op_load' rfl rfl rfl ta26 rfl ⟨rfl, rfl⟩) <| dO rfl rfl rfl (op_indexAddr rfl Tryz.underlying26 sz9 (by decide) rfl rfl rfl (show _ = some (encX x) from rfl) ⟨rfl, rfl⟩) ?_
    refine dO rfl rfl rfl (op_load_sptr rfl rfl ta9 rfl ⟨rfl, rfl⟩) <| dO rfl rfl rfl (op_fieldAddr_ref rfl rfl fo30_2 ⟨rfl, rfl⟩) <| dO rfl rfl rfl (op_load' rfl rfl rfl ta26 rfl ⟨rfl, rfl⟩) <| dO rfl rfl rfl (op_indexAddr rfl Tryz.underlying26 sz9 (by decide) rfl rfl rfl (show _ = some (encX y) from rfl) ⟨rfl, rfl⟩) ?_
    refine dO rfl rfl rfl (op_load_sptr rfl rfl ta9 rfl ⟨rfl, rfl⟩) <| dO rfl rfl rfl (op_strcmp rfl rfl rfl rfl ⟨rfl, rfl⟩) <| dO rfl rfl rfl (op_assign rfl rfl ⟨rfl, rfl⟩) <| dOps_nil ?_
    refine mwp_cond_split rfl (fun h43 => ?_) (fun h43 => ?_)
    ·
     have q52 : ¬ ltB x y := fun h => by rw [show Op.bytesLess x y = true from h] at h43; cases h43
     refine mwp_seq <| qR rfl <| qL rfl rfl rfl rfl ta30 rfl <| qO rfl <| op_store' rfl rfl rfl rfl sz30 rfl rfl (Nat.le_of_ble_eq_true rfl) rfl <| qN <| mwp_ret ?_
     exact ret_cell (y := encV (.mk n1 m1 (x :: s1) c1 w1)) (.inr rfl) Tryz.results59 rfl rfl ta30 rfl (.refl _) (cl_encV _ _) ⟨congrArg encV (laterF_not _ _ _ _ _ _ (by unfold LT3; rintro (h | ⟨_, h | ⟨_, h⟩⟩) <;> first | omega | exact q52 h)).symm, rfl⟩
    ·
     have q52 : ltB x y := by simpa [ltB] using h43
     refine mwp_skip <| mwp_seq <| qR rfl <| qL rfl rfl rfl rfl ta30 rfl <| qO rfl <| op_store' rfl rfl rfl rfl sz30 rfl rfl (Nat.le_of_ble_eq_true rfl) rfl <| qN <| mwp_ret ?_
     exact ret_cell (y := encV (.mk n2 m2 (y :: s2) c2 w2)) (.inr rfl) Tryz.results59 rfl rfl ta30 rfl (.refl _) (cl_encV _ _) ⟨congrArg encV (laterF_yes _ _ _ _ _ _ (by unfold LT3; first | (left; omega) | (right; refine ⟨by omega, ?_⟩; first | (left; omega) | (right; exact ⟨by omega, q52⟩)))).symm, rfl⟩
theorem rjoin6_spec (a b : Val) (S : MS) : MCalls Tryz.prog 32 [encS (.mk 6 []), encV a, encV b] S fun v σ' => v = .tup [encV (laterF a b), .bool true] ∧ σ' = S := by
 obtain ⟨n1, m1, s1, c1, w1⟩ := a
 obtain ⟨n2, m2, s2, c2, w2⟩ := b
 have hlat := rLater_spec (.mk n1 m1 s1 c1 w1) (.mk n2 m2 s2 c2 w2)
 obtain ⟨⟨n3, m3, s3, c3, w3⟩, h3⟩ : ∃ v, laterF (.mk n1 m1 s1 c1 w1) (.mk n2 m2 s2 c2 w2) = v := ⟨_, rfl⟩
 rw [h3] at hlat ⊢
 refine mcalls_body Tryz.func32 rfl Tryz.ntmps32 (Nat.le_of_ble_eq_true rfl) ?_
 refine mwp_seq <| qR rfl <| qB rfl rfl rfl rfl rfl <| qB rfl rfl rfl rfl rfl <| qB rfl rfl rfl rfl rfl <| qO rfl <| op_alloc' rfl zm30 rfl rfl <| qA rfl rfl rfl <| qN <| mwp_seq <| mwp_seq <| qR rfl <| qF rfl rfl rfl fo24_0 <| qL rfl rfl rfl rfl ta3 rfl <| qN <| mwp_block <| mwp_seq <| mwp_seq <| qR rfl <| qC rfl rfl rfl rfl (show _ = some false from rfl) <| qA rfl rfl rfl <| qN ?_
 refine mwp_cond_f rfl (rfl) <| qR rfl <| qC rfl rfl rfl rfl (show _ = some false from rfl) <| qA rfl rfl rfl <| qN <| mwp_cond_f rfl (rfl) <| mwp_seq <| qR rfl <| qC rfl rfl rfl rfl (show _ = some false from rfl) <| qA rfl rfl rfl <| qN <| mwp_cond_f rfl (rfl) <| mwp_seq <| qR rfl <| qC rfl rfl rfl rfl (show _ = some false from rfl) <| qA rfl rfl rfl <| qN <| mwp_cond_f rfl (rfl) <| mwp_seq <| qR rfl <| qC rfl rfl rfl rfl (show _ = some false from rfl) <| qA rfl rfl rfl ?_
 refine qN <| mwp_cond_f rfl (rfl) <| mwp_seq <| qR rfl <| qC rfl rfl rfl rfl (show _ = some true from rfl) <| qA rfl rfl rfl <| qN <| mwp_cond_t rfl (rfl) <| mwp_seq <| qR rfl <| qL rfl rfl rfl rfl ta30 rfl <| qL rfl rfl rfl rfl ta30 rfl ?_
 refine wOps_op rfl (op_call rfl rfl rfl co59 ((hlat _).mono ?_))
 rintro _ _ ⟨rfl, rfl⟩
 refine qO rfl <| op_store' rfl rfl rfl rfl sz30 rfl rfl (Nat.le_of_ble_eq_true rfl) rfl <| qA rfl rfl rfl <| qN <| mwp_ret ?_
 exact ret_cell_tmp (.inr rfl) Tryz.results32 rfl rfl ta30 rfl (.refl _) (cl_encV _ (.mk n3 m3 s3 c3 w3)) rfl (.refl _) (.bool _) ⟨rfl, rfl⟩
theorem rIsAt {a : Val} {r : Bool} (ha : okV a) (h : isLV a = r) (S : MS) : MCalls Tryz.prog 23 [encS (.mk 6 []), encV a] S fun v σ' => v = .bool r ∧ σ' = S := by
 have := rValIs_spec (.mk 6 []) a ha S
 rwa [show isF 16 (.mk 6 []) = true by decide, Bool.true_and, show isVF (.mk 6 []) a = r from h] at this
theorem rJoin6_spec (a b : Val) (ha : isLV a = true) (hb : isLV b = true) (oa : okV a) (ob : okV b) (S : MS) : MCalls Tryz.prog 8 [encS (.mk 6 []), encV a, encV b] S fun v σ' => v = .tup [encV (laterF a b), .int .i64 0] ∧ σ' = S := by
 obtain ⟨n1, m1, s1, c1, w1⟩ := a
 obtain ⟨n2, m2, s2, c2, w2⟩ := b
 have hlat := rjoin6_spec (.mk n1 m1 s1 c1 w1) (.mk n2 m2 s2 c2 w2)
 obtain ⟨⟨n3, m3, s3, c3, w3⟩, h3⟩ : ∃ v, laterF (.mk n1 m1 s1 c1 w1) (.mk n2 m2 s2 c2 w2) = v := ⟨_, rfl⟩
 rw [h3] at hlat ⊢
 refine mcalls_body Tryz.func8 rfl Tryz.ntmps8 (Nat.le_of_ble_eq_true rfl) ?_
 refine mwp_seq <| qR rfl <| qB rfl rfl rfl rfl rfl <| qB rfl rfl rfl rfl rfl <| qB rfl rfl rfl rfl rfl <| qO rfl <| op_alloc' rfl zm30 rfl rfl <| qA rfl rfl rfl <| qN <| mwp_seq <| mwp_seq <| qR rfl <| qL rfl rfl rfl rfl ta24 rfl <| qL rfl rfl rfl rfl ta30 rfl ?_
 refine wOps_op rfl (op_call rfl rfl rfl co23 ((rIsAt oa ha _).mono ?_))
 rintro _ _ ⟨rfl, rfl⟩
 refine qO rfl <| op_not rfl rfl <| qM rfl rfl rfl <| qL rfl rfl rfl rfl ta24 rfl <| qL rfl rfl rfl rfl ta30 rfl ?_
 refine wOps_op rfl (op_call rfl rfl rfl co23 ((rIsAt ob hb _).mono ?_))
 rintro _ _ ⟨rfl, rfl⟩
 refine qO rfl <| op_not rfl rfl <| qP rfl rfl rfl rfl <| qN <| mwp_cond_f rfl (rfl) <| mwp_skip <| mwp_seq <| qR rfl <| qL rfl rfl rfl rfl ta24 rfl <| qL rfl rfl rfl rfl ta30 rfl <| qL rfl rfl rfl rfl ta30 rfl ?_
 refine wOps_op rfl (op_call rfl rfl rfl co32 ((hlat _).mono ?_))
 rintro _ _ ⟨rfl, rfl⟩
 refine qM rfl rfl rfl <| qO rfl <| op_extract rfl rfl rfl <| qO rfl <| op_extract rfl rfl rfl <| qO rfl <| op_alloc' rfl zm30 rfl rfl <| qO rfl <| op_store' rfl rfl rfl rfl sz30 rfl rfl (Nat.le_of_ble_eq_true rfl) rfl <| qA rfl rfl rfl <| qN <| mwp_seq <| mwp_seq <| qR rfl <| qM rfl rfl rfl <| qO rfl <| op_not rfl rfl <| qN <| mwp_cond_f rfl (rfl) <| mwp_skip <| mwp_seq <| qR rfl <| qL rfl rfl rfl rfl ta30 rfl <| qO rfl <| op_store' rfl rfl rfl rfl sz30 rfl rfl (Nat.le_of_ble_eq_true rfl) rfl <| qA rfl rfl rfl ?_
 refine qN <| mwp_ret ?_
 exact ret_cell_tmp (.inr rfl) Tryz.results8 rfl rfl ta30 rfl (.refl _) (cl_encV _ (.mk n3 m3 s3 c3 w3)) rfl (.refl _) (.int _ _) ⟨rfl, rfl⟩
theorem knownS_spec (S : MS) : MCalls Tryz.prog 19 [] S fun v σ' => v = .bool true ∧ σ' = S := by
 refine mcalls_body Tryz.func19 rfl Tryz.ntmps19 (Nat.le_of_ble_eq_true rfl) ?_
 refine mwp_seq <| qR rfl <| qA rfl rfl rfl <| qN <| mwp_seq <| qR rfl <| qO rfl <| op_viewTo (y := encV noV) (op_build rfl Tryz.underlying30 zm30 .nil (by kernel_rfl) ⟨rfl, rfl⟩) (.agg (.cons (.refl _) (.cons (.refl _) (.cons (.nil 1) (.cons (.nil 1) (.cons (.nil 5) .nil)))))) ?_
 refine wOps_op rfl (op_call rfl rfl rfl co20 ((next_at okV_no ks_1 _).mono ?_))
 rintro _ _ ⟨rfl, rfl⟩
 refine qM rfl rfl rfl <| qO rfl <| op_extract rfl rfl rfl <| qO rfl <| op_extract rfl rfl rfl <| qO rfl <| op_alloc' rfl zm30 rfl rfl <| qO rfl <| op_store' rfl rfl rfl rfl sz30 rfl rfl (Nat.le_of_ble_eq_true rfl) rfl <| qA rfl rfl rfl <| qN <| mwp_seq <| qR rfl <| qL rfl rfl rfl rfl ta30 rfl ?_
 refine wOps_op rfl (op_call rfl rfl rfl co20 ((next_at ok_ks.1 ks_2 _).mono ?_))
 rintro _ _ ⟨rfl, rfl⟩
 refine qM rfl rfl rfl <| qO rfl <| op_extract rfl rfl rfl <| qO rfl <| op_extract rfl rfl rfl <| qO rfl <| op_alloc' rfl zm30 rfl rfl <| qO rfl <| op_store' rfl rfl rfl rfl sz30 rfl rfl (Nat.le_of_ble_eq_true rfl) rfl <| qA rfl rfl rfl <| qN <| mwp_seq <| qR rfl <| qO rfl <| op_viewTo (y := encV (.mk 3 0 [] [] [])) (op_build rfl Tryz.underlying30 zm30 (.cons fo30_0 sz25 rfl rfl (Nat.le_of_ble_eq_true rfl) .nil) (by kernel_rfl) ⟨rfl, rfl⟩) (.agg (.cons (.refl _) (.cons (.refl _) (.cons (.nil 1) (.cons (.nil 1) (.cons (.nil 5) .nil)))))) ?_
 refine wOps_op rfl (op_call rfl rfl rfl co20 ((next_at (okV_num (by decide)) ks_3 _).mono ?_))
 rintro _ _ ⟨rfl, rfl⟩
 refine qM rfl rfl rfl <| qO rfl <| op_extract rfl rfl rfl <| qO rfl <| op_extract rfl rfl rfl <| qO rfl <| op_alloc' rfl zm30 rfl rfl <| qO rfl <| op_store' rfl rfl rfl rfl sz30 rfl rfl (Nat.le_of_ble_eq_true rfl) rfl <| qA rfl rfl rfl <| qN <| mwp_seq <| qR rfl <| qO rfl <| op_buildSlice rfl Tryz.underlying26 el9 rfl rfl (by decide) (by decide) rfl rfl ?_
 refine qO rfl <| op_viewTo (y := encV sM) (op_build rfl Tryz.underlying30 zm30 (.cons fo30_0 sz25 rfl rfl (Nat.le_of_ble_eq_true rfl) (.cons fo30_2 sz26 rfl rfl (Nat.le_of_ble_eq_true rfl) .nil)) (by kernel_rfl) ⟨rfl, rfl⟩) (.agg (.cons (.refl _) (.cons (.refl _) (.cons (.refl _) (.cons (.nil 1) (.cons (.nil 5) .nil)))))) ?_
 refine wOps_op rfl (op_call rfl rfl rfl co20 ((next_at ok_ks.2.2 ks_4 _).mono ?_))
 rintro _ _ ⟨rfl, rfl⟩
 refine qM rfl rfl rfl <| qO rfl <| op_extract rfl rfl rfl <| qO rfl <| op_extract rfl rfl rfl <| qO rfl <| op_alloc' rfl zm30 rfl rfl <| qO rfl <| op_store' rfl rfl rfl rfl sz30 rfl rfl (Nat.le_of_ble_eq_true rfl) rfl <| qA rfl rfl rfl <| qN <| mwp_seq <| qR rfl <| qM rfl rfl rfl <| qO rfl <| op_if0 rfl Tryz.underlying33 rfl rfl (.inl ⟨rfl, rfl⟩) <| qM rfl rfl rfl <| qF rfl rfl rfl fo30_0 <| qL rfl rfl rfl rfl ta25 rfl <| qC rfl rfl rfl rfl (eqlI rfl) <| qP rfl rfl rfl rfl <| qM rfl rfl rfl ?_
 refine qF rfl rfl rfl fo30_1 <| qL rfl rfl rfl rfl ta25 rfl <| qC rfl rfl rfl rfl (eqlI rfl) <| qP rfl rfl rfl rfl <| qM rfl rfl rfl <| qM rfl rfl rfl <| qO rfl <| op_if0 rfl Tryz.underlying33 rfl rfl (.inl ⟨rfl, rfl⟩) <| qP rfl rfl rfl rfl <| qM rfl rfl rfl <| qF rfl rfl rfl fo30_0 <| qL rfl rfl rfl rfl ta25 rfl <| qC rfl rfl rfl rfl (eqlI rfl) <| qP rfl rfl rfl rfl <| qM rfl rfl rfl <| qL rfl rfl rfl rfl ta30 rfl ?_
 refine qL rfl rfl rfl rfl ta30 rfl ?_
 refine wOps_op rfl (op_call rfl rfl rfl co26 ((later_at ok_ks.2.1 ok_ks.1 ks_5.1 _).mono ?_))
 rintro _ _ ⟨rfl, rfl⟩
 refine qP rfl rfl rfl rfl <| qM rfl rfl rfl <| qL rfl rfl rfl rfl ta30 rfl <| qL rfl rfl rfl rfl ta30 rfl ?_
 refine wOps_op rfl (op_call rfl rfl rfl co26 ((later_at ok_ks.1 ok_ks.2.1 ks_5.2.1 _).mono ?_))
 rintro _ _ ⟨rfl, rfl⟩
 refine qO rfl <| op_not rfl rfl <| qP rfl rfl rfl rfl <| qM rfl rfl rfl <| qL rfl rfl rfl rfl ta30 rfl <| qL rfl rfl rfl rfl ta30 rfl ?_
 refine wOps_op rfl (op_call rfl rfl rfl co26 ((later_at ok_ks.1 ok_ks.1 ks_5.2.2 _).mono ?_))
 rintro _ _ ⟨rfl, rfl⟩
 refine qO rfl <| op_not rfl rfl <| qP rfl rfl rfl rfl <| qM rfl rfl rfl <| qL rfl rfl rfl rfl ta30 rfl ?_
 refine wOps_op rfl (op_call rfl rfl rfl co22 ((isAt ok_ks.2.1 lv_sW _).mono ?_))
 rintro _ _ ⟨rfl, rfl⟩
 refine qP rfl rfl rfl rfl <| qM rfl rfl rfl <| qM rfl rfl rfl <| qO rfl <| op_makeInterface rfl rfl Tryz.underlying62 (by simp) ?_
 refine wOps_op rfl (op_call rfl rfl rfl co28 ((errIs_spec 14 _).mono ?_))
 rintro _ _ ⟨rfl, rfl⟩
 refine qP rfl rfl rfl rfl <| qM rfl rfl rfl <| qM rfl rfl rfl <| qO rfl <| op_makeInterface rfl rfl Tryz.underlying62 (by simp) ?_
 refine wOps_op rfl (op_call rfl rfl rfl co28 ((errIs_spec 15 _).mono ?_))
 rintro _ _ ⟨rfl, rfl⟩
 refine qP rfl rfl rfl rfl <| qA rfl rfl rfl <| qN <| mwp_ret ?_
 exact ret_tmp (.inr rfl) Tryz.results19 rfl (.of_eq (rfl)) (.bool _) ⟨rfl, rfl⟩
end Go.Proofs.YtnfcnpdpfgcchaaGreatDoor
end
section
set_option linter.unusedVariables false
set_option linter.unusedSimpArgs false
set_option maxHeartbeats 4000000
set_option maxRecDepth 20000
namespace Go.Proofs.YtnfcnpdpfgcchaaGreatDoor
open Go Go.MV Go.RowKit Go.Extern.Stop Go.Stop Go.Extern
abbrev hndE (t : Nat) : Value := .agg #[.pointer (some ⟨2, t, none⟩)]
abbrev rlV (t : Nat) (a : Addr) (f : Int) : Value := .agg #[.pointer (some ⟨2, t, none⟩), .pointer (some a), .int .u64 f]
theorem as_v1 (t : Addr) (w : World) : (ReflectliteValue.unpack (.iface 71 (.pointer (some t)))).run Tryz.prog w
    = .ok (rlV 71 ⟨w.heap.size, 0, none⟩ 150) (w.alloc (.cells #[.pointer (some t)] 71)) := by kernel_rfl
theorem as_type (a : Addr) (w : World) : (ReflectliteValue.methodAny (ReflectliteValue.valueError "reflectlite.Value.Type" 0) (fun t _ _ _ => ReflectliteType.toType t) #[rlV 71 a 150]).run Tryz.prog w
    = .ok (.iface 105 (hndE 71)) w := by kernel_rfl
theorem as_mKind (h : Value) (w : World) : (Go.method 312 105 (.agg #[h]) "Kind").run Tryz.prog w = .ok (166, h) w := by kernel_rfl
theorem as_kP (w : World) : ((ReflectliteType.abiMethod fun t => (fun a : Nat => Value.int IntKind.u8 (a : Int)) <$> Rtype.kind t) #[.pointer (some ⟨2, 71, none⟩)]).run Tryz.prog w = .ok (.int .u8 22) w := by kernel_rfl
theorem as_kE (w : World) : ((ReflectliteType.abiMethod fun t => (fun a : Nat => Value.int IntKind.u8 (a : Int)) <$> Rtype.kind t) #[.pointer (some ⟨2, 62, none⟩)]).run Tryz.prog w = .ok (.int .u8 2) w := by kernel_rfl
theorem as_rlm (z : Sem Value) (f : TypeId → Addr → Nat → Nat → Sem Value) (v : Value) :
    ReflectliteValue.method z f #[v] = (do match ← ReflectliteValue.parts v with | none => z | some (t, a, fl) => f t a fl (fl % 32)) := rfl
theorem as_pP (a : Addr) (w : World) : (ReflectliteValue.parts (rlV 71 a 150)).run Tryz.prog w = .ok (some (71, a, 150)) w := by kernel_rfl
theorem as_isNil (a p : Addr) (W : World) (ha : W.cell? a = some (.pointer (some p))) :
    (ReflectliteValue.method (ReflectliteValue.valueError "reflectlite.Value.IsNil" 0) ReflectliteValue.isNil #[rlV 71 a 150]).run Tryz.prog W = .ok (.bool false) W := by
  rw [as_rlm]
  simp only [Sem.run_bind, as_pP, Result.andThen]
  simp [ReflectliteValue.isNil, loadVar, isAgg, underlying, Tryz.underlying71, ha, Result.andThen]
theorem as_mElem (h : Value) (w : World) : (Go.method 312 105 (.agg #[h]) "Elem").run Tryz.prog w = .ok (176, .agg #[h]) w := by kernel_rfl
theorem as_mImpl (h : Value) (w : World) : (Go.method 312 105 (.agg #[h]) "Implements").run Tryz.prog w = .ok (177, .agg #[h]) w := by kernel_rfl
theorem as_mAss (h : Value) (w : World) : (Go.method 312 105 (.agg #[h]) "AssignableTo").run Tryz.prog w = .ok (174, .agg #[h]) w := by kernel_rfl
theorem as_elemT (w : World) : (ReflectliteType.method ReflectliteType.elem #[hndE 71]).run Tryz.prog w = .ok (.iface 105 (hndE 62)) w := by kernel_rfl
theorem as_impl (w : World) : (ReflectliteType.relation "Implements" ReflectliteType.implements_ #[hndE 62, .iface 105 (hndE 33)]).run Tryz.prog w = .ok (.bool true) w := by kernel_rfl
theorem as_typeOf (v : Value) (w : World) : (ReflectliteType.typeOf #[.iface 62 v]).run Tryz.prog w = .ok (.iface 105 (hndE 62)) w := by kernel_rfl
theorem as_assign (w : World) : (ReflectliteType.relation "AssignableTo" ReflectliteType.assignableTo #[hndE 62, .iface 105 (hndE 62)]).run Tryz.prog w = .ok (.bool true) w := by kernel_rfl
theorem as_v2 (k : Int) (w : World) : (ReflectliteValue.unpack (.iface 62 (.int .i64 k))).run Tryz.prog w
    = .ok (rlV 62 ⟨w.heap.size, 0, none⟩ 130) (w.alloc (.cells #[.int .i64 k] 62)) := by kernel_rfl
theorem as_elemOf (w : World) : (Rtype.elem? 71).run Tryz.prog w = .ok (some 62) w := by kernel_rfl
theorem as_mk (p : Addr) (w : World) : (ReflectliteValue.mk 62 p ReflectliteValue.flagAddr).run Tryz.prog w = .ok (rlV 62 p 386) w := by kernel_rfl
theorem as_elemV (a p : Addr) (W : World) (ha : W.cell? a = some (.pointer (some p))) :
    (ReflectliteValue.method (ReflectliteValue.valueError "reflectlite.Value.Elem" 0) ReflectliteValue.elem #[rlV 71 a 150]).run Tryz.prog W = .ok (rlV 62 p 386) W := by
  rw [as_rlm]
  simp only [Sem.run_bind, as_pP, Result.andThen]
  simp [ReflectliteValue.elem, loadVar, isAgg, underlying, Tryz.underlying71, ha, Result.andThen, as_elemOf, as_mk]
theorem as_rls (v x : Value) : ReflectliteValue.set #[v, x] = (do
    let (some (dst, a, fl), some (src, b, _)) := (← ReflectliteValue.parts v, ← ReflectliteValue.parts x)
      | unsupported (.noEntry "extern/(internal/reflectlite.Value).Set.zeroValue")
    if fl / ReflectliteValue.flagAddr % 2 == 0 then unsupported (.noEntry "extern/(internal/reflectlite.Value).Set.unaddressable")
    let val ← loadVar src b
    if ← Rtype.directlyAssignable dst src then storeVar dst a val
    else if ← Rtype.implements dst src then
      if (← Rtype.kind src) == 20 then
        match val with
        | .nilIface => unsupported (.noEntry "extern/reflectlite: a nil value of one interface type handed on as a value of another")
        | _ => storeVar dst a val
      else storeVar dst a (.iface src val)
    else panicString ("reflectlite.Set: value of type " ++ (← Rtype.spelt src) ++ " is not assignable to type " ++ (← Rtype.spelt dst))
    pure (.tuple #[])) := rfl
theorem as_pA (a : Addr) (w : World) : (ReflectliteValue.parts (rlV 62 a 386)).run Tryz.prog w = .ok (some (62, a, 386)) w := by kernel_rfl
theorem as_pB (a : Addr) (w : World) : (ReflectliteValue.parts (rlV 62 a 130)).run Tryz.prog w = .ok (some (62, a, 130)) w := by kernel_rfl
theorem as_direct (w : World) : (Rtype.directlyAssignable 62 62).run Tryz.prog w = .ok true w := by kernel_rfl
theorem as_set (ta b : Addr) (k : Int) (old : Value) (W : World) (hb : W.cell? b = some (.int .i64 k)) (ht : W.cell? ta = some old) (hf : W.frozen? ta = false) :
    (ReflectliteValue.set #[rlV 62 ta 386, rlV 62 b 130]).run Tryz.prog W = .ok (.tuple #[]) (W.setCell ta (.int .i64 k)) := by
  rw [as_rls]
  simp only [Sem.run_bind, as_pA, as_pB, Result.andThen]
  simp [ReflectliteValue.flagAddr, loadVar, isAgg, underlying, Tryz.underlying62, hb, Result.andThen, as_direct, storeVar, Value.cells, storeCells, Addr.add]
  rw [run_store Tryz.prog W ta _ _ (by rfl)]
  simp [ht, hf]
abbrev asW (t : Addr) (k : Int) (w : World) : World := (((w.alloc (.cells #[.pointer (some t)] 71)).alloc (.cells #[.pointer (some ⟨2, 71, none⟩), .pointer (some ⟨w.heap.size, 0, none⟩), .int .u64 150] 90)).alloc (.cells #[.pointer (some ⟨2, 71, none⟩), .pointer (some ⟨w.heap.size, 0, none⟩), .int .u64 150] 90)).alloc (.cells #[.int .i64 k] 62)
abbrev hndErr : Value := .iface 105 (hndE 33)
theorem as_hit (k : Int) (t : Addr) (old : Value) (w : World) (hg : w.cell? ⟨0, 0, none⟩ = some hndErr) (ht0 : w.cell? t = some old) (hf0 : w.frozen? t = false) :
    Calls Tryz.prog 38 #[.iface 62 (.int .i64 k), .iface 71 (.pointer (some t))] w fun ev w' => ev = .returned (.bool true) ∧ w' = (asW t k w).setCell t (.int .i64 k) := by
  have h6 := @run_callFunc_extern Tryz.prog 67 _ (fun args => ReflectliteValue.unpack (args.getD 0 (.tuple #[]))) Tryz.func67 (by kernel_rfl) (by kernel_rfl) (by kernel_rfl) (by kernel_rfl)
  have h7 := @run_callFunc_extern Tryz.prog 68 _ (ReflectliteValue.methodAny (ReflectliteValue.valueError "reflectlite.Value.Type" 0) (fun t _ _ _ => ReflectliteType.toType t)) Tryz.func68 (by kernel_rfl) (by kernel_rfl) (by kernel_rfl) (by kernel_rfl)
  have h8 := @run_callFunc_extern Tryz.prog 69 _ (ReflectliteValue.method (ReflectliteValue.valueError "reflectlite.Value.IsNil" 0) ReflectliteValue.isNil) Tryz.func69 (by kernel_rfl) (by kernel_rfl) (by kernel_rfl) (by kernel_rfl)
  have h27 := @run_callFunc_extern Tryz.prog 166 _ (ReflectliteType.abiMethod fun t => do pure (.int .u8 (← Rtype.kind t))) Tryz.func166 (by kernel_rfl) (by kernel_rfl) (by kernel_rfl) (by kernel_rfl)
  have h37 := @run_callFunc_extern Tryz.prog 176 _ (ReflectliteType.method ReflectliteType.elem) Tryz.func176 (by kernel_rfl) (by kernel_rfl) (by kernel_rfl) (by kernel_rfl)
  have h38 := @run_callFunc_extern Tryz.prog 177 _ (ReflectliteType.relation "Implements" ReflectliteType.implements_) Tryz.func177 (by kernel_rfl) (by kernel_rfl) (by kernel_rfl) (by kernel_rfl)
  have h10 := @run_callFunc_extern Tryz.prog 47 _ ReflectliteType.typeOf Tryz.func47 (by kernel_rfl) (by kernel_rfl) (by kernel_rfl) (by kernel_rfl)
  have h35 := @run_callFunc_extern Tryz.prog 174 _ (ReflectliteType.relation "AssignableTo" ReflectliteType.assignableTo) Tryz.func174 (by kernel_rfl) (by kernel_rfl) (by kernel_rfl) (by kernel_rfl)
  have h11 := @run_callFunc_extern Tryz.prog 116 _ (ReflectliteValue.method (ReflectliteValue.valueError "reflectlite.Value.Elem" 0) ReflectliteValue.elem) Tryz.func116 (by kernel_rfl) (by kernel_rfl) (by kernel_rfl) (by kernel_rfl)
  have h12 := @run_callFunc_extern Tryz.prog 117 _ ReflectliteValue.set Tryz.func117 (by kernel_rfl) (by kernel_rfl) (by kernel_rfl) (by kernel_rfl)
  have tO := as_typeOf
  have mA := as_mAss
  have a25 := as_assign
  have v25 := as_v2
  have f6 := as_v1
  have f7 := as_type
  have mK := as_mKind
  have mE := as_mElem
  have mI := as_mImpl
  have k27 := as_kP
  have k25 := as_kE
  have e27 := as_elemT
  have i25 := as_impl
  have n8 := as_isNil ⟨w.heap.size, 0, none⟩ t ((w.alloc (.cells #[.pointer (some t)] 71)).alloc (.cells #[.pointer (some ⟨2, 71, none⟩), .pointer (some ⟨w.heap.size, 0, none⟩), .int .u64 150] 90)) (by simp)
  have hlt : 0 < w.heap.size := by
    rcases Nat.lt_or_ge 0 w.heap.size with h | h
    · exact h
    · simp [World.cell?, Array.getElem?_eq_none h] at hg
  have hg2 : ((w.alloc (.cells #[.pointer (some t)] 71)).alloc (.cells #[.pointer (some ⟨2, 71, none⟩), .pointer (some ⟨w.heap.size, 0, none⟩), .int .u64 150] 90)).cell? ⟨0, 0, none⟩ = some hndErr := by
    rw [World.cell?_alloc_lt _ _ ⟨0, 0, none⟩ (by simp <;> omega), World.cell?_alloc_lt _ _ ⟨0, 0, none⟩ hlt]; exact hg
  have htl : t.block < w.heap.size := by
    rcases Nat.lt_or_ge t.block w.heap.size with h | h
    · exact h
    · simp [World.cell?, Array.getElem?_eq_none h] at ht0
  have el := as_elemV ⟨w.heap.size, 0, none⟩ t (((w.alloc (.cells #[.pointer (some t)] 71)).alloc (.cells #[.pointer (some ⟨2, 71, none⟩), .pointer (some ⟨w.heap.size, 0, none⟩), .int .u64 150] 90)).alloc (.cells #[.pointer (some ⟨2, 71, none⟩), .pointer (some ⟨w.heap.size, 0, none⟩), .int .u64 150] 90)) (by rw [World.cell?_alloc_lt _ _ ⟨w.heap.size, 0, none⟩ (by simp; omega)]; simp)
  have st := as_set t ⟨w.heap.size + 1 + 1 + 1, 0, none⟩ k old (asW t k w)
    (by rw [World.cell?_alloc_at _ _ _ _ (by simp)]; rfl)
    (by rw [World.cell?_alloc_lt _ _ t (by simp; omega), World.cell?_alloc_lt _ _ t (by simp; omega), World.cell?_alloc_lt _ _ t (by simp; omega), World.cell?_alloc_lt _ _ t htl]; exact ht0)
    (by rw [World.frozen?_alloc_old _ _ t (by simp; omega), World.frozen?_alloc_old _ _ t (by simp; omega), World.frozen?_alloc_old _ _ t (by simp; omega), World.frozen?_alloc_old _ _ t (Nat.ne_of_lt htl)]; exact hf0)
  go_enter Tryz.func38, Tryz.ntmps38
  go_wp2
  refine wp_loop_rounds 1 ?_
  rw [rounds_succ]
  go_wp2
  go_ret
  exact ⟨rfl, rfl⟩
end Go.Proofs.YtnfcnpdpfgcchaaGreatDoor
end
section
set_option linter.unusedVariables false
set_option linter.unusedSimpArgs false
namespace Go.MV
open Go Go.RowKit Go.ChangeShapes Go.WideShapes Go.Deep
def g0 (W : World) : Gh := { B := W.heap.size, w0 := W, st := fun b => match W.heap[b]? with | some (.cells c _ _) => c.size | _ => 0, bk := fun _ => none, lg := fun _ _ => none }
theorem rel0 (W : World) : Rel (g0 W) [] W := by
  refine ⟨.refl _ _, Nat.le_refl _, fun b hb => ?_, fun _ _ => rfl, fun _ _ _ => rfl, fun _ => none, ⟨fun id o h => (by simp at h), fun i j b h => (by cases h), fun id b h => (by cases h)⟩⟩
  show (match W.heap[b]? with | some (.cells c _ _) => c.size | _ => 0) = 0
  rw [Array.getElem?_eq_none hb]
theorem stab0 {W : World} {ad : Addr} {k : Nat} {v : Value} (h : W.cell? (ad.add k) = some v) (h1 : v.oneCell' = true) : Stab (g0 W) W ad k v := by
  refine ⟨?_, h, h1⟩
  have e := cell_spot h
  rw [e] at h
  show _ < (match W.heap[(ad.add k).block]? with | some (.cells c _ _) => c.size | _ => 0)
  unfold World.cell? at h
  split at h
  · rename_i c t f hc
    simp only [Option.isSome_none, Bool.false_eq_true, if_false] at h
    simp only at hc
    rw [hc]
    exact (Array.getElem?_eq_some_iff.1 h).1
  · cases h
def TyFs (T : TypeId → List MV → Prop) : List Field → List MV → Prop
  | [], l => l = []
  | f :: fs, l => ∃ a b, l = a ++ b ∧ T f.type a ∧ TyFs T fs b
def ElF (P : Program) (e : TypeId) (x : MV) : Prop := match P.underlying e with | some (.struct _) => x = .agg x.cells | _ => [x] = x.cells
def TyM (P : Program) : Nat → TypeId → List MV → Prop
  | 0, _, _ => False
  | n + 1, t, l =>
    match P.underlying t with
    | some (.int k) => ∃ v, l = [.int k v] ∧ (Lit.int k v).wf = true
    | some .bool => ∃ b, l = [.bool b]
    | some .string => ∃ s, l = [.str s] ∧ s.size ≤ maxLen
    | some (.slice e) => ∃ xs, l = [.lst none (P.cellsOf e) xs] ∧ ∀ x ∈ xs, x.cells.length = P.cellsOf e ∧ TyM P n e x.cells ∧ ElF P e x
    | some (.struct fs) => TyFs (TyM P n) fs.toList l
    | _ => False
def contig (P : Program) (size : Nat) : List Field → Nat → Bool
  | [], off => Nat.beq off size
  | f :: fs, off => Nat.beq f.offset off && contig P size fs (off + P.cellsOf f.type)
def okTypes (P : Program) (ts : List TypeId) : Bool :=
  ts.all fun t => match P.underlying t with
    | some (.int _) | some .bool | some .string => true
    | some (.slice e) => natMem e ts && (match P.underlying e with | some (.struct _) => true | _ => Nat.beq (P.cellsOf e) 1)
    | some (.struct fs) => fs.toList.all (fun f => natMem f.type ts) && contig P (P.cellsOf t) fs.toList 0
    | _ => false
theorem rds_of_fields {P : Program} {W : World} {T : TypeId → List MV → Prop} {cs : List Value} {size : Nat} (hlen : cs.length = size) : ∀ (fs : List Field) (off : Nat), contig P size fs off = true →
    (∀ f ∈ fs, ∃ l, Rds (g0 W) W l ((cs.drop f.offset).take (P.cellsOf f.type)) ∧ T f.type l ∧ l.length = P.cellsOf f.type ∧ ∀ y ∈ l, y.one = true) → ∃ l, Rds (g0 W) W l (cs.drop off) ∧ TyFs T fs l ∧ ∀ y ∈ l, y.one = true
  | [], off, hc, _ => by
    have := Nat.eq_of_beq_eq_true hc
    refine ⟨[], ?_, rfl, fun y hy => by cases hy⟩
    rw [List.drop_eq_nil_of_le (by omega)]
    exact .nil _ _
  | f :: fs, off, hc, h => by
    simp only [contig, Bool.and_eq_true] at hc
    have ho := Nat.eq_of_beq_eq_true hc.1
    obtain ⟨a, h1, h2, h3, h5⟩ := h f (List.mem_cons_self ..)
    obtain ⟨b, k1, k2, k3⟩ := rds_of_fields hlen fs _ hc.2 (fun f' hf' => h f' (List.mem_cons_of_mem _ hf'))
    refine ⟨a ++ b, ?_, ⟨a, b, rfl, h2, k2⟩, fun y hy => (List.mem_append.1 hy).elim (h5 y) (k3 y)⟩
    have e : cs.drop off = (cs.drop off).take (P.cellsOf f.type) ++ cs.drop (off + P.cellsOf f.type) := by
      rw [← List.drop_drop, List.take_append_drop]
    rw [e]
    rw [ho] at h1
    exact h1.append k1
theorem tyFs_mono {T T' : TypeId → List MV → Prop} (h : ∀ t l, T t l → T' t l) : ∀ (fs : List Field) (l : List MV), TyFs T fs l → TyFs T' fs l
  | [], l, hl => hl
  | f :: fs, l, ⟨a, b, e, h1, h2⟩ => ⟨a, b, e, h _ _ h1, tyFs_mono h fs b h2⟩
theorem tyM_succ {P : Program} : ∀ (n : Nat) (t : TypeId) (l : List MV), TyM P n t l → TyM P (n + 1) t l
  | 0, t, l, h => h.elim
  | n + 1, t, l, h => by
    unfold TyM at h ⊢
    split at h
    · rename_i k hu; exact h
    · rename_i hu; exact h
    · rename_i hu; exact h
    · rename_i e hu
      obtain ⟨xs, h1, h2⟩ := h
      exact ⟨xs, h1, fun x hx => ⟨(h2 x hx).1, tyM_succ n _ _ (h2 x hx).2.1, (h2 x hx).2.2⟩⟩
    · rename_i fs hu; exact tyFs_mono (tyM_succ n) _ _ h
    · exact h.elim
theorem tyM_le {P : Program} {n m : Nat} (h : n ≤ m) {t : TypeId} {l : List MV} (ht : TyM P n t l) : TyM P m t l := by
  obtain ⟨d, rfl⟩ := Nat.le.dest h
  induction d with
  | zero => exact ht
  | succ d ih => exact tyM_succ _ _ _ (ih (by omega))
section
variable {H : Type} {enc : TypeId × Value → H} {P : Program} {W : World} {base : Nat} {spare : Nat → Bool} {held : Bool}
theorem common_bound {α : Type} {p : Nat → α → Prop} (hm : ∀ n m a, n ≤ m → p n a → p m a) : ∀ (l : List α), (∀ a ∈ l, ∃ n, p n a) → ∃ n, ∀ a ∈ l, p n a
  | [], _ => ⟨0, fun a h => by cases h⟩
  | a :: l, h => by
    obtain ⟨n, hn⟩ := h a (List.mem_cons_self ..)
    obtain ⟨m, hm'⟩ := common_bound hm l (fun b hb => h b (List.mem_cons_of_mem _ hb))
    refine ⟨max n m, fun b hb => ?_⟩
    rcases List.mem_cons.1 hb with rfl | hb
    · exact hm _ _ _ (by omega) hn
    · exact hm _ _ _ (by omega) (hm' b hb)
theorem reads_gen {ts : List TypeId} (hok : okTypes P ts = true) : ∀ (n : Nat) (x : DataW H × List MemPlace) (fuel : Nat) (t : TypeId) (cs : List Value), SizeOf.sizeOf x.1 ≤ n → t ∈ ts → DataW.trod enc P W base spare held fuel t cs = some x →
    ∃ (l : List MV) (m : Nat), Rds (g0 W) W l cs ∧ TyM P m t l ∧ ∀ y ∈ l, y.one = true := by
  intro n
  induction n using Nat.strongRecOn with
  | _ n ih =>
  intro x fuel t cs hx ht h
  have hot : (match P.underlying t with
    | some (.int _) | some .bool | some .string => true
    | some (.slice e) => natMem e ts && (match P.underlying e with | some (.struct _) => true | _ => Nat.beq (P.cellsOf e) 1)
    | some (.struct fs) => fs.toList.all (fun f => natMem f.type ts) && contig P (P.cellsOf t) fs.toList 0
    | _ => false) = true := by
    simp only [okTypes, List.all_eq_true] at hok
    exact hok t ht
  split at hot
  · rename_i k hu
    obtain ⟨v, rfl, rfl, hwf⟩ := DataW.trod_int hu h
    refine ⟨[.int k v], 1, .cons (.int _ _) (.nil _ _), ?_, by simp [MV.one]⟩
    unfold TyM
    rw [hu]
    exact ⟨v, rfl, hwf⟩
  · rename_i hu
    obtain ⟨b, rfl, rfl⟩ := DataW.trod_bool hu h
    refine ⟨[.bool b], 1, .cons (.bool _) (.nil _ _), ?_, by simp [MV.one]⟩
    unfold TyM
    rw [hu]
    exact ⟨b, rfl⟩
  · rename_i hu
    obtain ⟨s, rfl, rfl, hs⟩ := DataW.trod_string hu h
    refine ⟨[.str s], 1, .cons (.str _) (.nil _ _), ?_, by simp [MV.one]⟩
    unfold TyM
    rw [hu]
    exact ⟨s, rfl, hs⟩
  · rename_i e hu
    simp only [Bool.and_eq_true] at hot
    have he : e ∈ ts := natMem_iff.1 hot.1
    rcases open_slice hu h with ⟨rfl, rfl⟩ | ⟨a, len, cap, m, n', D, Pl, rfl, hb, hl, hm, hmm, rfl, hi⟩
    · refine ⟨[.lst none (P.cellsOf e) []], 1, .cons (Sub.nil _ _ _ _ .lst0) (.nil _ _), ?_, by simp [MV.one]⟩
      unfold TyM
      rw [hu]
      exact ⟨[], rfl, fun x hx => by cases hx⟩
    · have hlm : len ≤ m := by rw [hmm]; split <;> omega
      have hel : ∀ i, i < len → ∃ (l : List MV) (k : Nat) (us : List Value), us.length = P.cellsOf e ∧ Rds (g0 W) W l us ∧ TyM P k e l ∧ (∀ y ∈ l, y.one = true) ∧ ∀ j, j < P.cellsOf e → W.cell? ((a.add (i * P.cellsOf e)).add j) = us[j]? := by
        intro i hil
        obtain ⟨cs', hc, ht'⟩ := hi i (by omega)
        obtain ⟨_, hlen, hcell⟩ := World.cells?_some hc
        have hsz : SizeOf.sizeOf (D i) < n := by
          have hmem : D i ∈ (List.range len).map D := List.mem_map.2 ⟨i, List.mem_range.2 hil, rfl⟩
          have := List.sizeOf_lt_of_mem hmem
          simp only [DataW.slice.sizeOf_spec] at hx
          omega
        obtain ⟨l, k, h1, h2, h3⟩ := ih _ hsz (D i, Pl i) n' e cs' (Nat.le_refl _) he ht'
        exact ⟨l, k, cs', hlen, h1, h2, h3, hcell⟩
      have hall : ∀ (N : Nat), N ≤ len → ∃ (xs : List MV) (us : List Value) (k : Nat), xs.length = N ∧ us.length = N * P.cellsOf e ∧ Rds (g0 W) W (flat xs) us ∧ (∀ y ∈ flat xs, y.one = true) ∧ (∀ x ∈ xs, x.cells.length = P.cellsOf e ∧ TyM P k e x.cells ∧ ElF P e x) ∧
          ∀ j, j < N * P.cellsOf e → W.cell? (a.add j) = us[j]? := by
        intro N
        induction N with
        | zero => exact fun _ => ⟨[], [], 0, rfl, by simp, .nil _ _, by simp [flat], by simp, by simp⟩
        | succ N ihN =>
          intro hN
          obtain ⟨xs, us, k, q1, q2, q3, q4, q5, q6⟩ := ihN (by omega)
          obtain ⟨l, k', us', r1, r2, r3, r4, r5⟩ := hel N (by omega)
          have hll : l.length = P.cellsOf e := by rw [← r2.1, r1]
          obtain ⟨y, hy1, hy2⟩ : ∃ y : MV, y.cells = l ∧ ElF P e y := by
            cases hue : P.underlying e with
            | none => 
              have hk1 : P.cellsOf e = 1 := by have := hot.2; rw [hue] at this; exact Nat.eq_of_beq_eq_true this
              match l, hll.trans hk1 with
              | [y], _ =>
                have := r4 y (List.mem_cons_self ..)
                simp only [ElF, hue]
                refine ⟨y, ?_, ?_⟩ <;> (cases y <;> first | rfl | (cases this; done))
            | some d =>
              cases d with
              | struct fs => exact ⟨.agg l, rfl, by simp only [ElF, hue]; rfl⟩
              | _ =>
                have hk1 : P.cellsOf e = 1 := by have := hot.2; rw [hue] at this; exact Nat.eq_of_beq_eq_true this
                match l, hll.trans hk1 with
                | [y], _ =>
                  have := r4 y (List.mem_cons_self ..)
                  simp only [ElF, hue]
                  refine ⟨y, ?_, ?_⟩ <;> (cases y <;> first | rfl | (cases this; done))
          refine ⟨xs ++ [y], us ++ us', max k k', by simp [q1], by rw [List.length_append, q2, r1, Nat.add_mul]; omega, ?_, ?_, ?_, ?_⟩
          · rw [flat_append]
            refine q3.append ?_
            simp only [flat, List.flatMap_cons, List.flatMap_nil, List.append_nil, hy1]
            exact r2
          · intro z hz
            rw [flat_append, List.mem_append] at hz
            rcases hz with hz | hz
            · exact q4 z hz
            · simp only [flat, List.flatMap_cons, List.flatMap_nil, List.append_nil, hy1] at hz
              exact r4 z hz
          · intro x hx
            rcases List.mem_append.1 hx with hx | hx
            · exact ⟨(q5 x hx).1, tyM_le (by omega) (q5 x hx).2.1, (q5 x hx).2.2⟩
            · simp at hx
              subst hx
              rw [hy1]
              exact ⟨hll, tyM_le (by omega) r3, hy2⟩
          · intro j hj
            rw [Nat.add_mul, Nat.one_mul] at hj
            by_cases hjl : j < N * P.cellsOf e
            · rw [List.getElem?_append_left (by omega)]
              exact q6 j hjl
            · rw [List.getElem?_append_right (by omega), q2, ← r5 (j - N * P.cellsOf e) (by omega), Go.MV.add_add]
              congr 2
              omega
      obtain ⟨xs, us, k, q1, q2, q3, q4, q5, q6⟩ := hall len (Nat.le_refl _)
      refine ⟨[.lst none (P.cellsOf e) xs], k + 1, .cons (.lst' q1 hl hm (fun x hx => (q5 x hx).1) q3 (fun j u hu => ⟨a, rfl, stab0 ?_ ?_⟩) (fun t ht => by cases ht)) (.nil _ _), ?_, by simp [MV.one]⟩
      · have hj : j < us.length := (List.getElem?_eq_some_iff.1 hu).1
        rw [q6 j (by omega)]
        exact hu
      · have hj : j < us.length := (List.getElem?_eq_some_iff.1 hu).1
        have hjf : j < (flat xs).length := by rw [← q3.1]; exact hj
        exact one_cell (q3.2 j _ u (List.getElem?_eq_getElem hjf) hu) (q4 _ (List.getElem_mem hjf))
      · unfold TyM
        rw [hu]
        exact ⟨xs, rfl, q5⟩
  · rename_i fs hu
    simp only [Bool.and_eq_true, List.all_eq_true] at hot
    obtain ⟨xs, n', rfl, rfl, hlen, hxl, hf⟩ := DataW.trod_struct hu h
    have hfld : ∀ f ∈ fs.toList, ∃ (k : Nat) (l : List MV), Rds (g0 W) W l ((cs.drop f.offset).take (P.cellsOf f.type)) ∧ TyM P k f.type l ∧ ∀ y ∈ l, y.one = true := by
      intro f hfm
      obtain ⟨i, hi⟩ := List.getElem?_of_mem hfm
      have hi' : fs[i]? = some f := by simpa using hi
      have hilt : i < xs.length := by rw [hxl]; exact (Array.getElem?_eq_some_iff.1 hi').1
      have htr := hf i f hi'
      rw [List.getElem?_eq_getElem hilt] at htr
      have hsz : SizeOf.sizeOf xs[i].1 < n := by
        have hmem : xs[i].1 ∈ xs.map (·.1) := List.mem_map.2 ⟨xs[i], List.getElem_mem hilt, rfl⟩
        have := List.sizeOf_lt_of_mem hmem
        simp only [DataW.agg.sizeOf_spec] at hx
        omega
      obtain ⟨l, k, h1, h2, h3⟩ := ih _ hsz xs[i] n' f.type _ (Nat.le_refl _) (natMem_iff.1 (hot.1 f hfm)) htr
      exact ⟨k, l, h1, h2, h3⟩
    obtain ⟨K, hK⟩ := common_bound (p := fun k (f : Field) => ∃ l : List MV, Rds (g0 W) W l ((cs.drop f.offset).take (P.cellsOf f.type)) ∧ TyM P k f.type l ∧ ∀ y ∈ l, y.one = true) (fun a b f hab ⟨l, h1, h2, h3⟩ => ⟨l, h1, tyM_le hab h2, h3⟩) fs.toList hfld
    have hcont := hot.2
    have hlens : ∀ (gs : List Field) (off : Nat), contig P (P.cellsOf t) gs off = true → off ≤ P.cellsOf t ∧ ∀ f ∈ gs, f.offset + P.cellsOf f.type ≤ P.cellsOf t := by
      intro gs
      induction gs with
      | nil => exact fun off hc => ⟨Nat.le_of_eq (Nat.eq_of_beq_eq_true hc), fun f hf => by cases hf⟩
      | cons f gs ihg =>
        intro off hc
        simp only [contig, Bool.and_eq_true] at hc
        have ho := Nat.eq_of_beq_eq_true hc.1
        obtain ⟨h1, h2⟩ := ihg _ hc.2
        refine ⟨by omega, fun f' hf' => ?_⟩
        rcases List.mem_cons.1 hf' with rfl | hf'
        · omega
        · exact h2 f' hf'
    obtain ⟨l, h1, h2, h3⟩ := rds_of_fields (P := P) (W := W) (T := TyM P K) hlen fs.toList 0 hcont (fun f hfm => by
      obtain ⟨l, h1, h2, h3⟩ := hK f hfm
      refine ⟨l, h1, h2, ?_, h3⟩
      have := (hlens _ _ hcont).2 f hfm
      rw [← h1.1, List.length_take, List.length_drop, hlen]
      omega)
    refine ⟨l, K + 1, by simpa using h1, ?_, h3⟩
    unfold TyM
    rw [hu]
    exact h2
  · cases hot
end
section
variable {H : Type} {enc : TypeId × Value → H} {P : Program} {W : World} {base b0 : Nat} {spare : Nat → Bool} {held : Bool} {r : Reach}
theorem arg_struct {ts : List TypeId} (hok : okTypes P ts = true) {t : TypeId} {fs : Array Field} (ht : t ∈ ts) (hu : P.underlying t = some (.struct fs)) {v : Value} {d : DataW H} {p : List MemPlace} (hv : Value.okWide P W r b0 t v) (h : DataW.Trod enc P W base spare held t v d p) :
    ∃ (l : List MV) (m : Nat), Rd (g0 W) W (.agg l) v ∧ TyM P m t l := by
  obtain ⟨cs, rfl, hsz⟩ := okWide_struct hu hv
  obtain ⟨fuel, hf⟩ := h
  obtain ⟨l, m, h1, h2, _⟩ := reads_gen hok _ _ _ _ _ (Nat.le_refl _) ht hf
  refine ⟨l, m, ?_, h2⟩
  have := Rd.agg' h1
  simpa [Value.cells] using this
theorem arg_one {ts : List TypeId} (hok : okTypes P ts = true) {t : TypeId} (ht : t ∈ ts) {v : Value} {d : DataW H} {p : List MemPlace} (hv : v.cells = #[v]) (h : DataW.Trod enc P W base spare held t v d p) :
    ∃ (l : List MV) (m : Nat), Rds (g0 W) W l [v] ∧ TyM P m t l := by
  obtain ⟨fuel, hf⟩ := h
  rw [hv] at hf
  obtain ⟨l, m, h1, h2, _⟩ := reads_gen hok _ _ _ _ _ (Nat.le_refl _) ht hf
  exact ⟨l, m, h1, h2⟩
end
end Go.MV
end
section
set_option linter.unusedVariables false
set_option linter.unusedSimpArgs false
set_option maxRecDepth 20000
set_option maxHeartbeats 400000
namespace Go.Proofs.YtnfcnpdpfgcchaaGreatDoor
open Go Go.MV Go.RowKit
def fixE : MObj := .fixed ⟨0, 0, none⟩ hndErr
theorem errAs_spec (k old : Int) (i id : Nat) (S : MS) (hi : S[i]? = some fixE) (hid : S[id]? = some (.cells [.int .i64 old])) :
  MCalls Tryz.prog 38 [.iface 62 (.int .i64 k), .iface 71 (.ref id 0)] S fun v σ' => v = .bool true ∧ σ' = S.set id (.cells [.int .i64 k]) := by
 intro g w vs hrel hrd
 obtain ⟨u, us, rfl, h1, h2⟩ := hrd.uncons
 obtain ⟨u2, us2, rfl, h3, h4⟩ := h2.uncons
 obtain ⟨a, rfl, ha⟩ := h1.inv_iface
 obtain ⟨b, rfl, hb⟩ := h3.inv_iface
 have e1 := ha.inv_int
 obtain ⟨blk, hbk, e2⟩ := hb.inv_ref
 have e3 : us2 = [] := List.eq_nil_of_length_eq_zero h4.1
 subst e1 e2 e3
 obtain ⟨own, hown⟩ := hrel.ex
 obtain ⟨_, hst⟩ := hown.obj _ _ hi
 have hg : w.cell? ⟨0, 0, none⟩ = some hndErr := hst.2.1
 obtain ⟨b', us', ty, f1, f2, f3, ⟨fr, f4, f5⟩, f6⟩ := hown.obj _ _ hid
 rw [hbk] at f2
 injection f2 with f2
 subst f2
 obtain ⟨v0, us3, rfl, q1, q2⟩ := f6.uncons
 have e4 : us3 = [] := List.eq_nil_of_length_eq_zero q2.1
 have e5 := q1.inv_int
 subst e4 e5
 have hlt : blk < w.heap.size := (hown.lt _ _ f1).2.2
 have hc : w.cell? ⟨blk, 0, none⟩ = some (.int .i64 old) := by simp [World.cell?, f4]
 have hf : w.frozen? ⟨blk, 0, none⟩ = false := by
  rcases f5 with rfl | hfr
  ·simp [World.frozen?, f4]
  ·simp at hfr
   simp [World.frozen?, f4]
   omega
 refine (callsIn_wide.2 (as_hit k ⟨blk, 0, none⟩ _ w hg hc hf)).mono ?_
 rintro e w' ⟨rfl, rfl⟩
 have r1 := hrel.alloc_stab (.cells #[.pointer (some ⟨blk, 0, none⟩)] 71) 0
 have l1 := Le.alloc_stab hrel (.cells #[.pointer (some ⟨blk, 0, none⟩)] 71) 0
 have r2 := r1.alloc_stab (.cells #[.pointer (some ⟨2, 71, none⟩), .pointer (some ⟨w.heap.size, 0, none⟩), .int .u64 150] 90) 0
 have l2 := Le.alloc_stab r1 (.cells #[.pointer (some ⟨2, 71, none⟩), .pointer (some ⟨w.heap.size, 0, none⟩), .int .u64 150] 90) 0
 have r3 := r2.alloc_stab (.cells #[.pointer (some ⟨2, 71, none⟩), .pointer (some ⟨w.heap.size, 0, none⟩), .int .u64 150] 90) 0
 have l3 := Le.alloc_stab r2 (.cells #[.pointer (some ⟨2, 71, none⟩), .pointer (some ⟨w.heap.size, 0, none⟩), .int .u64 150] 90) 0
 have r4 := r3.alloc_stab (.cells #[.int .i64 k] 62) 0
 have l4 := Le.alloc_stab r3 (.cells #[.int .i64 k] 62) 0
 have hb4 : (asW ⟨blk, 0, none⟩ k w).heap[blk]? = some (.cells [Value.int .i64 old].toArray ty fr) := by
  rw [Below.heap_alloc _ _ _ (by simp; omega), Below.heap_alloc _ _ _ (by simp; omega), Below.heap_alloc _ _ _ (by simp; omega), Below.heap_alloc _ _ _ hlt]
  exact f4
 obtain ⟨hrel5, hl5⟩ := r4.store (cs := [.int .i64 k]) (us := [.int .i64 k]) (off := 0) hid (.cons (.int _ _) (.nil _ _)) (by simp) hbk hb4
 have hw : (asW ⟨blk, 0, none⟩ k w).setCell ⟨blk, 0, none⟩ (.int .i64 k) = (asW ⟨blk, 0, none⟩ k w).setRow blk ([Value.int .i64 old].take 0 ++ [Value.int .i64 k] ++ [Value.int .i64 old].drop (0 + 1)).toArray := setCell_eq_setRow _ _ _ _ _ _ _ hb4
 rw [hw]
 exact ⟨_, rfl, .bool true, _, _, ⟨rfl, rfl⟩, hrel5, .bool _, (((l1.trans l2).trans l3).trans l4).trans hl5⟩
theorem errAs_own (n : Int) (S : MS) (hS : S[0]? = some fixE) : MCalls Tryz.prog 38 [encErr n, .iface 71 (.ref (S.length + 0) 0)] (S ++ [.cells [.int .i64 0]]) fun v σ' => v = .bool true ∧ σ' = S ++ [.cells [.int .i64 n]] := by
 refine (errAs_spec n 0 0 (S.length + 0) _ (get_app hS) (by rw [getElem?_own]; rfl)).mono ?_
 rintro v σ' ⟨rfl, rfl⟩
 exact ⟨rfl, by rw [set_own]; rfl⟩
theorem rel0F (W : World) {ad : Addr} {v : Value} (h : W.cell? (ad.add 0) = some v) (h1 : v.oneCell' = true) : Rel (g0 W) [.fixed ad v] W := by
 refine ⟨.refl _ _, Nat.le_refl _, (rel0 W).fresh, fun _ _ => rfl, fun _ _ _ => rfl, fun _ => none, ⟨fun id o h => ?_, fun i j b h => (by cases h), fun id b h => (by cases h)⟩⟩
 cases id with
 | zero =>
  simp at h
  subst h
  exact ⟨rfl, stab0 (by assumption) h1⟩
 | succ n => simp at h
theorem law_callsF {P : Program} {f : FuncId} {xs : List MV} {W : World} {vs : List Value} {ad : Addr} {u : Value} (hu : W.cell? (ad.add 0) = some u) (h1 : u.oneCell' = true) (h : MCalls P f xs [.fixed ad u] fun v σ' => v = .bool true ∧ σ' = [.fixed ad u]) (hr : Rds (g0 W) W xs vs) : Calls P f vs.toArray W fun e w' => e = .returned (.bool true) ∧ Below W.heap.size W w' := by
 refine (callsIn_wide.1 (h (g0 W) W vs (rel0F W hu h1) hr)).mono ?_
 rintro e w' ⟨v, rfl, x, σ', g', ⟨rfl, rfl⟩, hrel, hrd, hle⟩
 rw [hrd.inv_bool]
 have := hrel.below
 rw [hle.B, hle.w0] at this
 exact ⟨rfl, this⟩
theorem code11_nil (S : MS) : MCalls Tryz.prog 25 [.iface0] S fun v σ' => v = .int .i64 0 ∧ σ' = S := by
 refine mcalls_body Tryz.func25 rfl Tryz.ntmps25 (Nat.le_of_ble_eq_true rfl) ?_
 refine mwp_seq <| qR rfl <| qA rfl rfl rfl <| qN <| mwp_seq <| qR rfl <| qO rfl <| op_alloc' rfl zm62 rfl rfl <| qN <| mwp_seq <| mwp_seq <| qR rfl <| qM rfl rfl rfl <| qO rfl <| op_if0 rfl Tryz.underlying33 rfl rfl (.inl ⟨rfl, rfl⟩) <| qN <| mwp_cond_t rfl (rfl) <| mwp_seq <| qR rfl <| qA rfl rfl rfl <| qN <| mwp_ret ?_
 exact ret_tmp (.inr rfl) Tryz.results25 rfl (.refl _) (.int _ _) ⟨rfl, rfl⟩
theorem code11_err (n : Int) (S : MS) (hS : S[0]? = some fixE) : MCalls Tryz.prog 25 [encErr n] S fun v σ' => v = .int .i64 n ∧ σ' = S := by
 refine mcalls_body Tryz.func25 rfl Tryz.ntmps25 (Nat.le_of_ble_eq_true rfl) ?_
 show mwp _ _ _ _ _ _ _ _
 refine mwp_seq <| qR rfl <| qA rfl rfl rfl <| qN <| mwp_seq <| qR rfl <| qO rfl <| op_alloc' rfl zm62 rfl rfl <| qN <| mwp_seq <| mwp_seq <| qR rfl <| qM rfl rfl rfl <| qO rfl <| op_ifnil rfl Tryz.underlying33 rfl rfl (.inl ⟨rfl, rfl⟩) <| qN <| mwp_cond_f rfl (rfl) <| mwp_skip <| mwp_seq <| mwp_seq <| qR rfl <| qM rfl rfl rfl <| qO rfl <| op_makeInterface rfl rfl Tryz.underlying71 (by simp) ?_
 refine wOps_op rfl (op_call rfl rfl rfl co38 ((errAs_own n S hS).mono ?_))
 rintro _ _ ⟨rfl, rfl⟩
 refine qO rfl <| op_not rfl rfl <| qN <| mwp_cond_f rfl (rfl) <| mwp_skip <| mwp_seq <| qR rfl <| qL rfl rfl rfl rfl ta62 rfl <| qA rfl rfl rfl <| qN <| mwp_ret ?_
 exact ret_tmp (.inr rfl) Tryz.results25 rfl (.refl _) (.int _ _) ⟨rfl, rfl⟩
end Go.Proofs.YtnfcnpdpfgcchaaGreatDoor
end
section
set_option linter.unusedVariables false
set_option linter.unusedSimpArgs false
set_option maxRecDepth 20000
namespace Go.Proofs.YtnfcnpdpfgcchaaGreatDoor
open Go Go.MV
structure SemiB (P : Val → Prop) (f : Val → Val → Val) (b : Val) : Prop extends SemiL P f where
  bot : P b
  neut : ∀ x, P x → f x b = x
section
variable {p : Val → Prop} {f : Val → Val → Val} {b : Val} (h : SemiB p f b)
include h
end
end Go.Proofs.YtnfcnpdpfgcchaaGreatDoor
end
section
set_option linter.unusedVariables false
set_option linter.unusedSimpArgs false
set_option maxRecDepth 20000
namespace Go.Proofs.YtnfcnpdpfgcchaaGreatDoor
open Go Go.MV
theorem join_wrong {s : Sch} {a b : Val} (h : isF 16 s = false ∨ isVF s a = false ∨ isVF s b = false) : joinVF s a b = .error 14 := join_err fun ⟨h1, h2⟩ => by
  rw [Bool.and_eq_true] at h1 h2
  rcases h with h | h | h
  · rw [h] at h1; exact absurd h1.1 (by decide)
  · rw [h] at h1; exact absurd h1.2 (by decide)
  · rw [h] at h2; exact absurd h2.2 (by decide)
section
variable {P : Val → Prop} {f : Val → Val → Val} {b : Val} (h : SemiB P f b)
include h
end
end Go.Proofs.YtnfcnpdpfgcchaaGreatDoor
end
section
set_option linter.unusedVariables false
set_option linter.unusedSimpArgs false
set_option maxRecDepth 20000
set_option maxHeartbeats 400000
namespace Go.Proofs.YtnfcnpdpfgcchaaGreatDoor
open Go Go.MV
def encNI (r : Except Int Val) : MV := .tup [match r with | .error _ => encV noV | .ok v => encV v, match r with | .error n => .int .i64 n | .ok _ => .int .i64 0]
theorem nx_14 {a : Val} {w : Int} {t : Bs} (h : isLV a = false ∨ w < 0) : nextVF a w t = .error 14 := by
 unfold nextVF
 rw [if_pos (by rcases h with h | h <;> simp [h])]
theorem nx_13 {a : Val} {w : Int} {t : Bs} (h : isLV a = true) (hw : ¬ w < 0) (ht : 16 < t.length) : nextVF a w t = .error 13 := by
 unfold nextVF
 rw [if_neg (by simp [h]; omega), if_pos ht]
theorem nx_15 {a : Val} {w : Int} {t : Bs} (h : isLV a = true) (hw : ¬ w < 0) (ht : ¬ 16 < t.length) (hn : IntKind.u64.wrap (a.nv + 1) = 0) : nextVF a w t = .error 15 := by
 unfold nextVF
 rw [if_neg (by simp [h]; omega), if_neg ht, if_pos hn]
theorem nx_ok {a : Val} {w : Int} {t : Bs} (h : isLV a = true) (hw : ¬ w < 0) (ht : ¬ 16 < t.length) (hn : ¬ IntKind.u64.wrap (a.nv + 1) = 0) : nextVF a w t = .ok (.mk (IntKind.u64.wrap (a.nv + 1)) (IntKind.u64.wrap w) [t] [] []) := by
 unfold nextVF
 rw [if_neg (by simp [h]; omega), if_neg ht, if_neg hn]
theorem nx_all (a : Val) (w : Int) (t : Bs) : (∃ n m s c v, nextVF a w t = .ok (.mk n m s c v)) ∨ nextVF a w t = .error 14 ∨ nextVF a w t = .error 13 ∨ nextVF a w t = .error 15 := by
 unfold nextVF
 split
 ·exact .inr (.inl rfl)
 ·split
  ·exact .inr (.inr (.inl rfl))
  ·split
   ·exact .inr (.inr (.inr rfl))
   ·exact .inl ⟨_, _, _, _, _, rfl⟩
theorem lss_t {w : Int} (h : w < 0) : intCmp .lss w 0 = some true := by simp [intCmp, h]
theorem lss_f {w : Int} (h : ¬ w < 0) : intCmp .lss w 0 = some false := by simp only [intCmp, Option.some.injEq, decide_eq_false_iff_not]; exact h
theorem laterS_no {a b : Val} (h : isLV a = false ∨ isLV b = false) : laterVF a b = false := by
 unfold laterVF
 rw [join_wrong (.inr h)]
theorem rJoin6_bad (a b : Val) (h : isLV a = false ∨ isLV b = false) (oa : okV a) (ob : okV b) (S : MS) : MCalls Tryz.prog 8 [encS (.mk 6 []), encV a, encV b] S fun v σ' => v = .tup [encV noV, .int .i64 14] ∧ σ' = S := by
 obtain ⟨n1, m1, s1, c1, w1⟩ := a
 obtain ⟨n2, m2, s2, c2, w2⟩ := b
 refine mcalls_body Tryz.func8 rfl Tryz.ntmps8 (Nat.le_of_ble_eq_true rfl) ?_
 refine mwp_seq <| qR rfl <| qB rfl rfl rfl rfl rfl <| qB rfl rfl rfl rfl rfl <| qB rfl rfl rfl rfl rfl <| qO rfl <| op_alloc' rfl zm30 rfl rfl <| qA rfl rfl rfl <| qN <| mwp_seq <| mwp_seq ?_
 have hia := rIsAt oa rfl
 obtain ⟨r, hr⟩ : ∃ r, isLV (.mk n1 m1 s1 c1 w1) = r := ⟨_, rfl⟩
 rw [hr] at hia
 rcases r with _ | _
 ·
  refine qR rfl <| qL rfl rfl rfl rfl ta24 rfl <| qL rfl rfl rfl rfl ta30 rfl ?_
  refine wOps_op rfl (op_call rfl rfl rfl co23 ((hia _).mono ?_))
  rintro _ _ ⟨rfl, rfl⟩
  refine qO rfl <| op_not rfl rfl <| qM rfl rfl rfl <| qS rfl <| qS rfl <| qS rfl <| qS rfl <| qP rfl rfl rfl rfl <| qN <| mwp_cond_t rfl (rfl) <| mwp_seq <| qR rfl <| qO rfl <| op_build rfl Tryz.underlying30 zm30 .nil (by kernel_rfl) ?_
  refine qO rfl <| op_store' rfl rfl rfl rfl sz30 rfl rfl (Nat.le_of_ble_eq_true rfl) rfl <| qA rfl rfl rfl <| qN <| mwp_ret ?_
  exact ret_cell_tmp (.inr rfl) Tryz.results8 rfl rfl ta30 rfl (.agg (.cons (.refl _) (.cons (.refl _) (.cons (.nil 1) (.cons (.nil 1) (.cons (.nil 5) .nil)))))) (cl_encV _ (noV)) rfl (.refl _) (.int _ _) ⟨rfl, rfl⟩
 ·
  have hb : isLV (.mk n2 m2 s2 c2 w2) = false := h.resolve_left (by rw [hr]; decide)
  refine qR rfl <| qL rfl rfl rfl rfl ta24 rfl <| qL rfl rfl rfl rfl ta30 rfl ?_
  refine wOps_op rfl (op_call rfl rfl rfl co23 ((hia _).mono ?_))
  rintro _ _ ⟨rfl, rfl⟩
  refine qO rfl <| op_not rfl rfl <| qM rfl rfl rfl <| qL rfl rfl rfl rfl ta24 rfl <| qL rfl rfl rfl rfl ta30 rfl ?_
  refine wOps_op rfl (op_call rfl rfl rfl co23 ((rIsAt ob hb _).mono ?_))
  rintro _ _ ⟨rfl, rfl⟩
  refine qO rfl <| op_not rfl rfl <| qP rfl rfl rfl rfl <| qN <| mwp_cond_t rfl (rfl) <| mwp_seq <| qR rfl <| qO rfl <| op_build rfl Tryz.underlying30 zm30 .nil (by kernel_rfl) ?_
  refine qO rfl <| op_store' rfl rfl rfl rfl sz30 rfl rfl (Nat.le_of_ble_eq_true rfl) rfl <| qA rfl rfl rfl <| qN <| mwp_ret ?_
  exact ret_cell_tmp (.inr rfl) Tryz.results8 rfl rfl ta30 rfl (.agg (.cons (.refl _) (.cons (.refl _) (.cons (.nil 1) (.cons (.nil 1) (.cons (.nil 5) .nil)))))) (cl_encV _ (noV)) rfl (.refl _) (.int _ _) ⟨rfl, rfl⟩
theorem rLaterS_spec (a b : Val) (oa : okV a) (ob : okV b) (S : MS) : MCalls Tryz.prog 27 [encV a, encV b] S fun v σ' => v = .bool (laterVF a b) ∧ σ' = S := by
 obtain ⟨n1, m1, s1, c1, w1⟩ := a
 obtain ⟨n2, m2, s2, c2, w2⟩ := b
 refine mcalls_body Tryz.func27 rfl Tryz.ntmps27 (Nat.le_of_ble_eq_true rfl) ?_
 refine mwp_seq <| qR rfl <| qB rfl rfl rfl rfl rfl <| qB rfl rfl rfl rfl rfl <| qA rfl rfl rfl <| qN <| mwp_seq ?_
 by_cases hbad : isLV (.mk n1 m1 s1 c1 w1) = false ∨ isLV (.mk n2 m2 s2 c2 w2) = false
 ·
  have hj := rJoin6_bad (.mk n1 m1 s1 c1 w1) (.mk n2 m2 s2 c2 w2) hbad oa ob
  refine mwp_draw [7, 8] [_, S ++ [.cells (encV (.mk n1 m1 s1 c1 w1)).cells, .cells (encV (.mk n2 m2 s2 c2 w2)).cells, .cells [.int .u64 0, .int .u64 0, .lst0, .lst0, .lst0]], S ++ [.cells (encV (.mk n1 m1 s1 c1 w1)).cells, .cells (encV (.mk n2 m2 s2 c2 w2)).cells, .cells (encV noV).cells]] mo (by decide) rfl rfl rfl rfl ?_
  refine dOps_op rfl rfl (.cons (op_call rfl rfl rfl co24 (rLast_spec _)) (.cons (op_call rfl rfl rfl co24 (rLast_spec _)) (.nil))) <| dOps_op rfl rfl (.cons (op_load' rfl rfl rfl ta30 rfl ⟨rfl, rfl⟩) (.cons (op_load' rfl rfl rfl ta30 rfl ⟨rfl, rfl⟩) (.nil))) <| dOps_op rfl rfl (.cons (op_load' rfl rfl rfl ta30 rfl ⟨rfl, rfl⟩) (.cons (op_load' rfl rfl rfl ta30 rfl ⟨rfl, rfl⟩) (.nil))) <| dOps_op rfl rfl (.cons (op_call rfl rfl rfl co8 (hj _)) (.cons (op_call rfl rfl rfl co8 (hj _)) (.nil))) <| dOps_op rfl rfl (.cons (op_move rfl rfl ⟨rfl, rfl⟩) (.cons (op_move rfl rfl ⟨rfl, rfl⟩) (.nil))) <| dOps_op rfl rfl (.cons (op_extract rfl rfl rfl ⟨rfl, rfl⟩) (.cons (op_extract rfl rfl rfl ⟨rfl, rfl⟩) (.nil))) <| dOps_op rfl rfl (.cons (op_extract rfl rfl rfl ⟨rfl, rfl⟩) (.cons (op_extract rfl rfl rfl ⟨rfl, rfl⟩) (.cons (op_extract rfl rfl rfl ⟨rfl, rfl⟩) (.nil)))) <| dOps_eff rfl rfl rfl rfl (op_alloc' rfl zm30 rfl rfl ⟨rfl, rfl⟩) <| dOps_eff rfl rfl rfl rfl (op_store' rfl rfl rfl rfl sz30 rfl rfl (Nat.le_of_ble_eq_true rfl) rfl ⟨rfl, rfl⟩) <| dO rfl rfl rfl (op_assign rfl rfl ⟨rfl, rfl⟩) <| dOps_nil <| mwp_seq <| qR rfl <| qM rfl rfl rfl <| qC rfl rfl rfl rfl (show _ = some false from rfl) <| qM rfl rfl rfl <| qS rfl <| qS rfl <| qS rfl <| qP rfl rfl rfl rfl <| qM rfl rfl rfl <| qS rfl <| qS rfl <| qS rfl <| qS rfl ?_
  refine qP rfl rfl rfl rfl <| qA rfl rfl rfl <| qN <| mwp_ret ?_
  exact ret_tmp (.inr rfl) Tryz.results27 rfl (.of_eq (by rw [laterS_no hbad])) (.bool _) ⟨rfl, rfl⟩
 ·
  have ha : isLV (.mk n1 m1 s1 c1 w1) = true := by simpa using fun h => hbad (.inl h)
  have hb : isLV (.mk n2 m2 s2 c2 w2) = true := by simpa using fun h => hbad (.inr h)
  have hj := rJoin6_spec (.mk n1 m1 s1 c1 w1) (.mk n2 m2 s2 c2 w2) ha hb oa ob
  obtain ⟨⟨n3, m3, s3, c3, w3⟩, h3⟩ : ∃ v, laterF (.mk n1 m1 s1 c1 w1) (.mk n2 m2 s2 c2 w2) = v := ⟨_, rfl⟩
  rw [h3] at hj
  refine mwp_draw [7, 8] [_, S ++ [.cells (encV (.mk n1 m1 s1 c1 w1)).cells, .cells (encV (.mk n2 m2 s2 c2 w2)).cells, .cells [.int .u64 0, .int .u64 0, .lst0, .lst0, .lst0]], S ++ [.cells (encV (.mk n1 m1 s1 c1 w1)).cells, .cells (encV (.mk n2 m2 s2 c2 w2)).cells, .cells (encV (.mk n3 m3 s3 c3 w3)).cells]] mo (by decide) rfl rfl rfl rfl ?_
  refine dOps_op rfl rfl (.cons (op_call rfl rfl rfl co24 (rLast_spec _)) (.cons (op_call rfl rfl rfl co24 (rLast_spec _)) (.nil))) <| dOps_op rfl rfl (.cons (op_load' rfl rfl rfl ta30 rfl ⟨rfl, rfl⟩) (.cons (op_load' rfl rfl rfl ta30 rfl ⟨rfl, rfl⟩) (.nil))) <| dOps_op rfl rfl (.cons (op_load' rfl rfl rfl ta30 rfl ⟨rfl, rfl⟩) (.cons (op_load' rfl rfl rfl ta30 rfl ⟨rfl, rfl⟩) (.nil))) <| dOps_op rfl rfl (.cons (op_call rfl rfl rfl co8 (hj _)) (.cons (op_call rfl rfl rfl co8 (hj _)) (.nil))) <| dOps_op rfl rfl (.cons (op_move rfl rfl ⟨rfl, rfl⟩) (.cons (op_move rfl rfl ⟨rfl, rfl⟩) (.nil))) <| dOps_op rfl rfl (.cons (op_extract rfl rfl rfl ⟨rfl, rfl⟩) (.cons (op_extract rfl rfl rfl ⟨rfl, rfl⟩) (.nil))) <| dOps_op rfl rfl (.cons (op_extract rfl rfl rfl ⟨rfl, rfl⟩) (.cons (op_extract rfl rfl rfl ⟨rfl, rfl⟩) (.cons (op_extract rfl rfl rfl ⟨rfl, rfl⟩) (.nil)))) <| dOps_eff rfl rfl rfl rfl (op_alloc' rfl zm30 rfl rfl ⟨rfl, rfl⟩) <| dOps_eff rfl rfl rfl rfl (op_store' rfl rfl rfl rfl sz30 rfl rfl (Nat.le_of_ble_eq_true rfl) rfl ⟨rfl, rfl⟩) <| dO rfl rfl rfl (op_assign rfl rfl ⟨rfl, rfl⟩) <| dOps_nil <| mwp_seq <| qR rfl <| qM rfl rfl rfl <| qC rfl rfl rfl rfl (eqlI rfl) <| qM rfl rfl rfl <| qL rfl rfl rfl rfl ta30 rfl <| qL rfl rfl rfl rfl ta30 rfl ?_
  refine wOps_op rfl (op_call rfl rfl rfl co12 ((rSame_spec (.mk n3 m3 s3 c3 w3) (.mk n1 m1 s1 c1 w1) _).mono ?_))
  rintro _ _ ⟨rfl, rfl⟩
  refine qP rfl rfl rfl rfl <| qM rfl rfl rfl ?_
  refine wOps_case (fun h21 => ?_) (fun h21 => ?_)
  ·
   refine qL rfl rfl rfl rfl ta30 rfl <| qL rfl rfl rfl rfl ta30 rfl ?_
   refine wOps_op rfl (op_call rfl rfl rfl co12 ((rSame_spec (.mk n1 m1 s1 c1 w1) (.mk n2 m2 s2 c2 w2) _).mono ?_))
   rintro _ _ ⟨rfl, rfl⟩
   refine qO rfl <| op_not rfl rfl <| qP rfl rfl rfl rfl <| qA rfl rfl rfl <| qN <| mwp_ret ?_
   exact ret_tmp (.inr rfl) Tryz.results27 rfl (.of_eq (by rw [laterVF_eq ha hb, h3]; simp_all [Bool.and_comm])) (.bool _) ⟨rfl, rfl⟩
  ·
   refine qS rfl <| qS rfl <| qS rfl <| qS rfl <| qP rfl rfl rfl rfl <| qA rfl rfl rfl <| qN <| mwp_ret ?_
   exact ret_tmp (.inr rfl) Tryz.results27 rfl (.of_eq (by rw [laterVF_eq ha hb, h3]; simp_all [Bool.and_comm])) (.bool _) ⟨rfl, rfl⟩
theorem rNext_spec (a : Val) (w : Int) (t : Bs) (oa : okV a) (S : MS) : MCalls Tryz.prog 21 [encV a, .int .i64 w, encX t] S fun v σ' => v = encNI (nextVF a w t) ∧ σ' = S := by
 obtain ⟨n1, m1, s1, c1, w1⟩ := a
 refine mcalls_body Tryz.func21 rfl Tryz.ntmps21 (Nat.le_of_ble_eq_true rfl) ?_
 refine mwp_seq <| qR rfl <| qB rfl rfl rfl rfl rfl <| qO rfl <| op_alloc' rfl zm30 rfl rfl <| qA rfl rfl rfl <| qN <| mwp_seq <| mwp_block <| mwp_seq ?_
 have hia := rIsAt oa rfl
 obtain ⟨r, hr⟩ : ∃ r, isLV (.mk n1 m1 s1 c1 w1) = r := ⟨_, rfl⟩
 rw [hr] at hia
 rcases r with _ | _
 rotate_left
 by_cases hw : w < 0
 rotate_left
 rotate_left
 ·
  refine mwp_draw [] [_] mo (by decide) rfl rfl rfl rfl ?_
  refine dOps_op rfl rfl (.cons (op_call rfl rfl rfl co24 (rLast_spec _)) .nil) <| dO rfl rfl rfl (op_load' rfl rfl rfl ta30 rfl ⟨rfl, rfl⟩) <| dOps_op rfl rfl (.cons (op_call rfl rfl rfl co23 (hia _)) .nil) <| dO rfl rfl rfl (op_not rfl rfl ⟨rfl, rfl⟩) <| dO rfl rfl rfl (op_move rfl rfl ⟨rfl, rfl⟩) <| dS rfl rfl <| dS rfl rfl <| dO rfl rfl rfl (op_pick rfl rfl rfl ⟨rfl, rfl⟩) <| dO rfl rfl rfl (op_assign rfl rfl ⟨rfl, rfl⟩) <| dOps_nil <| mwp_cond_t rfl (rfl) <| mwp_seq <| qR rfl <| qO rfl <| op_build rfl Tryz.underlying30 zm30 .nil (by kernel_rfl) ?_
  refine qO rfl <| op_store' rfl rfl rfl rfl sz30 rfl rfl (Nat.le_of_ble_eq_true rfl) rfl <| qA rfl rfl rfl <| qN <| mwp_ret ?_
  exact ret_cell_tmp (.inr rfl) Tryz.results21 rfl rfl ta30 rfl (.agg (.cons (.refl _) (.cons (.refl _) (.cons (.nil 1) (.cons (.nil 1) (.cons (.nil 5) .nil)))))) (cl_encV _ (noV)) rfl (.refl _) (.int _ _) ⟨by rw [nx_14 (.inl hr)]; rfl, rfl⟩
 ·
  refine mwp_draw [] [_] mo (by decide) rfl rfl rfl rfl ?_
  refine dOps_op rfl rfl (.cons (op_call rfl rfl rfl co24 (rLast_spec _)) .nil) <| dO rfl rfl rfl (op_load' rfl rfl rfl ta30 rfl ⟨rfl, rfl⟩) <| dOps_op rfl rfl (.cons (op_call rfl rfl rfl co23 (hia _)) .nil) <| dO rfl rfl rfl (op_not rfl rfl ⟨rfl, rfl⟩) <| dO rfl rfl rfl (op_move rfl rfl ⟨rfl, rfl⟩) <| dO rfl rfl rfl (op_move rfl rfl ⟨rfl, rfl⟩) <| dO rfl rfl rfl (op_cmp rfl rfl rfl (lss_t hw) ⟨rfl, rfl⟩) <| dO rfl rfl rfl (op_pick rfl rfl rfl ⟨rfl, rfl⟩) <| dO rfl rfl rfl (op_assign rfl rfl ⟨rfl, rfl⟩) <| dOps_nil <| mwp_cond_t rfl (rfl) <| mwp_seq <| qR rfl <| qO rfl <| op_build rfl Tryz.underlying30 zm30 .nil (by kernel_rfl) ?_
  refine qO rfl <| op_store' rfl rfl rfl rfl sz30 rfl rfl (Nat.le_of_ble_eq_true rfl) rfl <| qA rfl rfl rfl <| qN <| mwp_ret ?_
  exact ret_cell_tmp (.inr rfl) Tryz.results21 rfl rfl ta30 rfl (.agg (.cons (.refl _) (.cons (.refl _) (.cons (.nil 1) (.cons (.nil 1) (.cons (.nil 5) .nil)))))) (cl_encV _ (noV)) rfl (.refl _) (.int _ _) ⟨by rw [nx_14 (.inr hw)]; rfl, rfl⟩
 ·
  refine mwp_draw [] [_] mo (by decide) rfl rfl rfl rfl ?_
  refine dOps_op rfl rfl (.cons (op_call rfl rfl rfl co24 (rLast_spec _)) .nil) <| dO rfl rfl rfl (op_load' rfl rfl rfl ta30 rfl ⟨rfl, rfl⟩) <| dOps_op rfl rfl (.cons (op_call rfl rfl rfl co23 (hia _)) .nil) <| dO rfl rfl rfl (op_not rfl rfl ⟨rfl, rfl⟩) <| dO rfl rfl rfl (op_move rfl rfl ⟨rfl, rfl⟩) <| dO rfl rfl rfl (op_move rfl rfl ⟨rfl, rfl⟩) <| dO rfl rfl rfl (op_cmp rfl rfl rfl (lss_f hw) ⟨rfl, rfl⟩) <| dO rfl rfl rfl (op_pick rfl rfl rfl ⟨rfl, rfl⟩) <| dO rfl rfl rfl (op_assign rfl rfl ⟨rfl, rfl⟩) <| dOps_nil <| mwp_cond_f rfl (rfl) <| mwp_seq <| qR rfl <| qM rfl rfl rfl <| qO rfl <| op_len_bs rfl Tryz.underlying9 rfl <| qC rfl rfl rfl rfl rfl <| qA rfl rfl rfl <| qN ?_
  refine mwp_cond_split rfl (fun h18 => ?_) (fun h18 => ?_)
  ·
   have ht : 16 < t.length := by have := of_decide_eq_true h18; omega
   refine mwp_seq <| qR rfl <| qO rfl <| op_build rfl Tryz.underlying30 zm30 .nil (by kernel_rfl) ?_
   refine qO rfl <| op_store' rfl rfl rfl rfl sz30 rfl rfl (Nat.le_of_ble_eq_true rfl) rfl <| qA rfl rfl rfl <| qN <| mwp_ret ?_
   exact ret_cell_tmp (.inr rfl) Tryz.results21 rfl rfl ta30 rfl (.agg (.cons (.refl _) (.cons (.refl _) (.cons (.nil 1) (.cons (.nil 1) (.cons (.nil 5) .nil)))))) (cl_encV _ (noV)) rfl (.refl _) (.int _ _) ⟨by rw [nx_13 hr hw ht]; rfl, rfl⟩
  ·
   have ht : ¬ 16 < t.length := by have := of_decide_eq_false h18; simp at this; omega
   refine mwp_seq <| qR rfl <| qF rfl rfl rfl fo30_0 <| qL rfl rfl rfl rfl ta25 rfl <| qO rfl <| op_arith rfl rfl rfl rfl <| qC rfl rfl rfl rfl rfl <| qA rfl rfl rfl <| qN ?_
   refine mwp_cond_split rfl (fun h23 => ?_) (fun h23 => ?_)
   ·
    have hn : IntKind.u64.wrap (n1 + 1) = 0 := by simpa using h23
    refine mwp_seq <| qR rfl <| qO rfl <| op_build rfl Tryz.underlying30 zm30 .nil (by kernel_rfl) ?_
    refine qO rfl <| op_store' rfl rfl rfl rfl sz30 rfl rfl (Nat.le_of_ble_eq_true rfl) rfl <| qA rfl rfl rfl <| qN <| mwp_ret ?_
    exact ret_cell_tmp (.inr rfl) Tryz.results21 rfl rfl ta30 rfl (.agg (.cons (.refl _) (.cons (.refl _) (.cons (.nil 1) (.cons (.nil 1) (.cons (.nil 5) .nil)))))) (cl_encV _ (noV)) rfl (.refl _) (.int _ _) ⟨by rw [nx_15 hr hw ht hn]; rfl, rfl⟩
   ·
    have hn : ¬ IntKind.u64.wrap (n1 + 1) = 0 := by simpa using h23
    refine mwp_skip <| mwp_seq <| qR rfl <| qF rfl rfl rfl fo30_0 <| qL rfl rfl rfl rfl ta25 rfl <| qO rfl <| op_arith rfl rfl rfl rfl <| qM rfl rfl rfl <| qO rfl <| op_convInt rfl Tryz.underlying3 Tryz.underlying25 rfl rfl <| qM rfl rfl rfl <| qO rfl <| op_buildSlice rfl Tryz.underlying26 el9 rfl rfl (by decide) (by decide) rfl rfl ?_
    refine qO rfl <| op_viewTo (y := encV (.mk (IntKind.u64.wrap (n1 + 1)) (IntKind.u64.wrap w) [t] [] [])) (op_build rfl Tryz.underlying30 zm30 (.cons fo30_0 sz25 rfl rfl (Nat.le_of_ble_eq_true rfl) (.cons fo30_1 sz25 rfl rfl (Nat.le_of_ble_eq_true rfl) (.cons fo30_2 sz26 rfl rfl (Nat.le_of_ble_eq_true rfl) .nil))) (by kernel_rfl) ⟨rfl, rfl⟩) (.agg (.cons (.refl _) (.cons (.refl _) (.cons (.refl _) (.cons (.nil 1) (.cons (.nil 5) .nil)))))) ?_
    refine qO rfl <| op_store' rfl rfl rfl rfl sz30 rfl rfl (Nat.le_of_ble_eq_true rfl) rfl <| qA rfl rfl rfl <| qN <| mwp_ret ?_
    exact ret_cell_tmp (.inr rfl) Tryz.results21 rfl rfl ta30 rfl (.refl _) (cl_encV _ ((.mk (IntKind.u64.wrap (n1 + 1)) (IntKind.u64.wrap w) [t] [] []))) rfl (.refl _) (.int _ _) ⟨by rw [nx_ok hr hw ht hn]; rfl, rfl⟩
theorem StampTells_spec (a b : Val) (who : Int) (t : Bs) (oa : okV a) (ob : okV b) (S : MS) (hS : S[0]? = some fixE) : MCalls Tryz.prog 5 [encV a, encV b, .int .i64 who, encX t] S fun v σ' => v = .bool true ∧ σ' = S := by
 obtain ⟨n1, m1, s1, c1, w1⟩ := a
 obtain ⟨n2, m2, s2, c2, w2⟩ := b
 refine mcalls_body Tryz.func5 rfl Tryz.ntmps5 (Nat.le_of_ble_eq_true rfl) ?_
 refine mwp_seq <| qR rfl <| qB rfl rfl rfl rfl rfl <| qB rfl rfl rfl rfl rfl <| qA rfl rfl rfl <| qN <| mwp_seq <| mwp_seq <| qR rfl ?_
 refine wOps_op rfl (op_call rfl rfl rfl co19 ((knownS_spec _).mono ?_))
 rintro _ _ ⟨rfl, rfl⟩
 refine qO rfl <| op_not rfl rfl <| qN <| mwp_cond_f rfl (rfl) <| mwp_skip <| mwp_seq <| mwp_seq <| qR rfl <| qM rfl rfl rfl <| qO rfl <| op_len_bs rfl Tryz.underlying9 rfl <| qC rfl rfl rfl rfl rfl <| qN ?_
 refine mwp_cond_split rfl (fun h17 => ?_) (fun h17 => ?_)
 ·
  refine mwp_seq <| qR rfl <| qA rfl rfl rfl <| qN <| mwp_ret ?_
  exact ret_tmp (.inr rfl) Tryz.results5 rfl (.of_eq (rfl)) (.bool _) ⟨rfl, rfl⟩
 ·
  refine mwp_skip <| mwp_seq ?_
  have hsn := stampNext_spec (.mk n1 m1 s1 c1 w1) who t oa
  have hrn := rNext_spec (.mk n1 m1 s1 c1 w1) who t oa
  rcases nx_all (.mk n1 m1 s1 c1 w1) who t with ⟨n3, m3, s3, c3, w3, hx⟩ | hx | hx | hx <;> rw [hx] at hsn hrn
  ·
   refine qR rfl <| qL rfl rfl rfl rfl ta30 rfl <| qM rfl rfl rfl <| qM rfl rfl rfl ?_
   refine wOps_op rfl (op_call rfl rfl rfl co20 ((hsn _).mono ?_))
   rintro _ _ ⟨rfl, rfl⟩
   refine qM rfl rfl rfl <| qO rfl <| op_extract rfl rfl rfl <| qO rfl <| op_extract rfl rfl rfl <| qO rfl <| op_alloc' rfl zm30 rfl rfl <| qO rfl <| op_store' rfl rfl rfl rfl sz30 rfl rfl (Nat.le_of_ble_eq_true rfl) rfl <| qA rfl rfl rfl <| qN <| mwp_seq <| qR rfl <| qL rfl rfl rfl rfl ta30 rfl <| qM rfl rfl rfl <| qM rfl rfl rfl ?_
   refine wOps_op rfl (op_call rfl rfl rfl co21 ((hrn _).mono ?_))
   rintro _ _ ⟨rfl, rfl⟩
   refine qM rfl rfl rfl <| qO rfl <| op_extract rfl rfl rfl <| qO rfl <| op_extract rfl rfl rfl <| qO rfl <| op_alloc' rfl zm30 rfl rfl <| qO rfl <| op_store' rfl rfl rfl rfl sz30 rfl rfl (Nat.le_of_ble_eq_true rfl) rfl <| qA rfl rfl rfl <| qN <| mwp_seq ?_
   refine mwp_draw [] [_] mo (by decide) rfl rfl rfl rfl ?_
   refine dO rfl rfl rfl (op_load' rfl rfl rfl ta30 rfl ⟨rfl, rfl⟩) <| dOps_op rfl rfl (.cons (op_call rfl rfl rfl co22 (stampIs_spec (.mk n1 m1 s1 c1 w1) oa _)) .nil) <| dOps_op rfl rfl (.cons (op_call rfl rfl rfl co24 (rLast_spec _)) .nil) <| dO rfl rfl rfl (op_load' rfl rfl rfl ta30 rfl ⟨rfl, rfl⟩) <| dOps_op rfl rfl (.cons (op_call rfl rfl rfl co23 (rIsAt oa rfl _)) .nil) <| dO rfl rfl rfl (op_booleq rfl Tryz.underlying4 rfl rfl ⟨rfl, rfl⟩) ?_
   rw [show (isLV (.mk n1 m1 s1 c1 w1) == isLV (.mk n1 m1 s1 c1 w1)) = true from by simp]
   refine dO rfl rfl rfl (op_move rfl rfl ⟨rfl, rfl⟩) <| dO rfl rfl rfl (op_load' rfl rfl rfl ta30 rfl ⟨rfl, rfl⟩) <| dO rfl rfl rfl (op_load' rfl rfl rfl ta30 rfl ⟨rfl, rfl⟩) <| dOps_op rfl rfl (.cons (op_call rfl rfl rfl co12 (rSame_spec (.mk n3 m3 s3 c3 w3) (.mk n3 m3 s3 c3 w3) _)) .nil) ?_
   rw [decide_eq_true rfl]
   refine dO rfl rfl rfl (op_pick rfl rfl rfl ⟨rfl, rfl⟩) <| dO rfl rfl rfl (op_move rfl rfl ⟨rfl, rfl⟩) <| dO rfl rfl rfl (op_move rfl rfl ⟨rfl, rfl⟩) <| dOps_op rfl rfl (.cons (op_call rfl rfl rfl co25 (code11_nil _)) .nil) <| dO rfl rfl rfl (op_move rfl rfl ⟨rfl, rfl⟩) <| dO rfl rfl rfl (op_cmp rfl rfl rfl (eqlI rfl) ⟨rfl, rfl⟩) <| dO rfl rfl rfl (op_pick rfl rfl rfl ⟨rfl, rfl⟩) <| dO rfl rfl rfl (op_move rfl rfl ⟨rfl, rfl⟩) <| dO rfl rfl rfl (op_load' rfl rfl rfl ta30 rfl ⟨rfl, rfl⟩) <| dO rfl rfl rfl (op_load' rfl rfl rfl ta30 rfl ⟨rfl, rfl⟩) <| dOps_op rfl rfl (.cons (op_call rfl rfl rfl co26 (stampLater_spec (.mk n1 m1 s1 c1 w1) (.mk n2 m2 s2 c2 w2) oa ob _)) .nil) <| dO rfl rfl rfl (op_load' rfl rfl rfl ta30 rfl ⟨rfl, rfl⟩) <| dO rfl rfl rfl (op_load' rfl rfl rfl ta30 rfl ⟨rfl, rfl⟩) <| dOps_op rfl rfl (.cons (op_call rfl rfl rfl co27 (rLaterS_spec (.mk n1 m1 s1 c1 w1) (.mk n2 m2 s2 c2 w2) oa ob _)) .nil) <| dO rfl rfl rfl (op_booleq rfl Tryz.underlying4 rfl rfl ⟨rfl, rfl⟩) ?_
   rw [show (laterVF (.mk n1 m1 s1 c1 w1) (.mk n2 m2 s2 c2 w2) == laterVF (.mk n1 m1 s1 c1 w1) (.mk n2 m2 s2 c2 w2)) = true from by simp]
   refine dO rfl rfl rfl (op_pick rfl rfl rfl ⟨rfl, rfl⟩) <| dO rfl rfl rfl (op_assign rfl rfl ⟨rfl, rfl⟩) <| dOps_nil <| mwp_ret ?_
   exact ret_tmp (.inr rfl) Tryz.results5 rfl (.of_eq (rfl)) (.bool _) ⟨rfl, rfl⟩
  ·
   refine qR rfl <| qL rfl rfl rfl rfl ta30 rfl <| qM rfl rfl rfl <| qM rfl rfl rfl ?_
   refine wOps_op rfl (op_call rfl rfl rfl co20 ((hsn _).mono ?_))
   rintro _ _ ⟨rfl, rfl⟩
   refine qM rfl rfl rfl <| qO rfl <| op_extract rfl rfl rfl <| qO rfl <| op_extract rfl rfl rfl <| qO rfl <| op_alloc' rfl zm30 rfl rfl <| qO rfl <| op_store' rfl rfl rfl rfl sz30 rfl rfl (Nat.le_of_ble_eq_true rfl) rfl <| qA rfl rfl rfl <| qN <| mwp_seq <| qR rfl <| qL rfl rfl rfl rfl ta30 rfl <| qM rfl rfl rfl <| qM rfl rfl rfl ?_
   refine wOps_op rfl (op_call rfl rfl rfl co21 ((hrn _).mono ?_))
   rintro _ _ ⟨rfl, rfl⟩
   refine qM rfl rfl rfl <| qO rfl <| op_extract rfl rfl rfl <| qO rfl <| op_extract rfl rfl rfl <| qO rfl <| op_alloc' rfl zm30 rfl rfl <| qO rfl <| op_store' rfl rfl rfl rfl sz30 rfl rfl (Nat.le_of_ble_eq_true rfl) rfl <| qA rfl rfl rfl <| qN <| mwp_seq ?_
   refine mwp_draw [] [_] mo (by decide) rfl rfl rfl rfl ?_
   refine dO rfl rfl rfl (op_load' rfl rfl rfl ta30 rfl ⟨rfl, rfl⟩) <| dOps_op rfl rfl (.cons (op_call rfl rfl rfl co22 (stampIs_spec (.mk n1 m1 s1 c1 w1) oa _)) .nil) <| dOps_op rfl rfl (.cons (op_call rfl rfl rfl co24 (rLast_spec _)) .nil) <| dO rfl rfl rfl (op_load' rfl rfl rfl ta30 rfl ⟨rfl, rfl⟩) <| dOps_op rfl rfl (.cons (op_call rfl rfl rfl co23 (rIsAt oa rfl _)) .nil) <| dO rfl rfl rfl (op_booleq rfl Tryz.underlying4 rfl rfl ⟨rfl, rfl⟩) ?_
   rw [show (isLV (.mk n1 m1 s1 c1 w1) == isLV (.mk n1 m1 s1 c1 w1)) = true from by simp]
   refine dO rfl rfl rfl (op_move rfl rfl ⟨rfl, rfl⟩) <| dO rfl rfl rfl (op_load' rfl rfl rfl ta30 rfl ⟨rfl, rfl⟩) <| dO rfl rfl rfl (op_load' rfl rfl rfl ta30 rfl ⟨rfl, rfl⟩) <| dOps_op rfl rfl (.cons (op_call rfl rfl rfl co12 (rSame_spec noV noV _)) .nil) ?_
   rw [decide_eq_true rfl]
   refine dO rfl rfl rfl (op_pick rfl rfl rfl ⟨rfl, rfl⟩) <| dO rfl rfl rfl (op_move rfl rfl ⟨rfl, rfl⟩) <| dO rfl rfl rfl (op_move rfl rfl ⟨rfl, rfl⟩) <| dOps_op rfl rfl (.cons (op_call rfl rfl rfl co25 (code11_err 14 _ (get_app hS))) .nil) <| dO rfl rfl rfl (op_move rfl rfl ⟨rfl, rfl⟩) <| dO rfl rfl rfl (op_cmp rfl rfl rfl (eqlI rfl) ⟨rfl, rfl⟩) <| dO rfl rfl rfl (op_pick rfl rfl rfl ⟨rfl, rfl⟩) <| dO rfl rfl rfl (op_move rfl rfl ⟨rfl, rfl⟩) <| dO rfl rfl rfl (op_load' rfl rfl rfl ta30 rfl ⟨rfl, rfl⟩) <| dO rfl rfl rfl (op_load' rfl rfl rfl ta30 rfl ⟨rfl, rfl⟩) <| dOps_op rfl rfl (.cons (op_call rfl rfl rfl co26 (stampLater_spec (.mk n1 m1 s1 c1 w1) (.mk n2 m2 s2 c2 w2) oa ob _)) .nil) <| dO rfl rfl rfl (op_load' rfl rfl rfl ta30 rfl ⟨rfl, rfl⟩) <| dO rfl rfl rfl (op_load' rfl rfl rfl ta30 rfl ⟨rfl, rfl⟩) <| dOps_op rfl rfl (.cons (op_call rfl rfl rfl co27 (rLaterS_spec (.mk n1 m1 s1 c1 w1) (.mk n2 m2 s2 c2 w2) oa ob _)) .nil) <| dO rfl rfl rfl (op_booleq rfl Tryz.underlying4 rfl rfl ⟨rfl, rfl⟩) ?_
   rw [show (laterVF (.mk n1 m1 s1 c1 w1) (.mk n2 m2 s2 c2 w2) == laterVF (.mk n1 m1 s1 c1 w1) (.mk n2 m2 s2 c2 w2)) = true from by simp]
   refine dO rfl rfl rfl (op_pick rfl rfl rfl ⟨rfl, rfl⟩) <| dO rfl rfl rfl (op_assign rfl rfl ⟨rfl, rfl⟩) <| dOps_nil <| mwp_ret ?_
   exact ret_tmp (.inr rfl) Tryz.results5 rfl (.of_eq (rfl)) (.bool _) ⟨rfl, rfl⟩
  ·
   refine qR rfl <| qL rfl rfl rfl rfl ta30 rfl <| qM rfl rfl rfl <| qM rfl rfl rfl ?_
   refine wOps_op rfl (op_call rfl rfl rfl co20 ((hsn _).mono ?_))
   rintro _ _ ⟨rfl, rfl⟩
   refine qM rfl rfl rfl <| qO rfl <| op_extract rfl rfl rfl <| qO rfl <| op_extract rfl rfl rfl <| qO rfl <| op_alloc' rfl zm30 rfl rfl <| qO rfl <| op_store' rfl rfl rfl rfl sz30 rfl rfl (Nat.le_of_ble_eq_true rfl) rfl <| qA rfl rfl rfl <| qN <| mwp_seq <| qR rfl <| qL rfl rfl rfl rfl ta30 rfl <| qM rfl rfl rfl <| qM rfl rfl rfl ?_
   refine wOps_op rfl (op_call rfl rfl rfl co21 ((hrn _).mono ?_))
   rintro _ _ ⟨rfl, rfl⟩
   refine qM rfl rfl rfl <| qO rfl <| op_extract rfl rfl rfl <| qO rfl <| op_extract rfl rfl rfl <| qO rfl <| op_alloc' rfl zm30 rfl rfl <| qO rfl <| op_store' rfl rfl rfl rfl sz30 rfl rfl (Nat.le_of_ble_eq_true rfl) rfl <| qA rfl rfl rfl <| qN <| mwp_seq ?_
   refine mwp_draw [] [_] mo (by decide) rfl rfl rfl rfl ?_
   refine dO rfl rfl rfl (op_load' rfl rfl rfl ta30 rfl ⟨rfl, rfl⟩) <| dOps_op rfl rfl (.cons (op_call rfl rfl rfl co22 (stampIs_spec (.mk n1 m1 s1 c1 w1) oa _)) .nil) <| dOps_op rfl rfl (.cons (op_call rfl rfl rfl co24 (rLast_spec _)) .nil) <| dO rfl rfl rfl (op_load' rfl rfl rfl ta30 rfl ⟨rfl, rfl⟩) <| dOps_op rfl rfl (.cons (op_call rfl rfl rfl co23 (rIsAt oa rfl _)) .nil) <| dO rfl rfl rfl (op_booleq rfl Tryz.underlying4 rfl rfl ⟨rfl, rfl⟩) ?_
   rw [show (isLV (.mk n1 m1 s1 c1 w1) == isLV (.mk n1 m1 s1 c1 w1)) = true from by simp]
   refine dO rfl rfl rfl (op_move rfl rfl ⟨rfl, rfl⟩) <| dO rfl rfl rfl (op_load' rfl rfl rfl ta30 rfl ⟨rfl, rfl⟩) <| dO rfl rfl rfl (op_load' rfl rfl rfl ta30 rfl ⟨rfl, rfl⟩) <| dOps_op rfl rfl (.cons (op_call rfl rfl rfl co12 (rSame_spec noV noV _)) .nil) ?_
   rw [decide_eq_true rfl]
   refine dO rfl rfl rfl (op_pick rfl rfl rfl ⟨rfl, rfl⟩) <| dO rfl rfl rfl (op_move rfl rfl ⟨rfl, rfl⟩) <| dO rfl rfl rfl (op_move rfl rfl ⟨rfl, rfl⟩) <| dOps_op rfl rfl (.cons (op_call rfl rfl rfl co25 (code11_err 13 _ (get_app hS))) .nil) <| dO rfl rfl rfl (op_move rfl rfl ⟨rfl, rfl⟩) <| dO rfl rfl rfl (op_cmp rfl rfl rfl (eqlI rfl) ⟨rfl, rfl⟩) <| dO rfl rfl rfl (op_pick rfl rfl rfl ⟨rfl, rfl⟩) <| dO rfl rfl rfl (op_move rfl rfl ⟨rfl, rfl⟩) <| dO rfl rfl rfl (op_load' rfl rfl rfl ta30 rfl ⟨rfl, rfl⟩) <| dO rfl rfl rfl (op_load' rfl rfl rfl ta30 rfl ⟨rfl, rfl⟩) <| dOps_op rfl rfl (.cons (op_call rfl rfl rfl co26 (stampLater_spec (.mk n1 m1 s1 c1 w1) (.mk n2 m2 s2 c2 w2) oa ob _)) .nil) <| dO rfl rfl rfl (op_load' rfl rfl rfl ta30 rfl ⟨rfl, rfl⟩) <| dO rfl rfl rfl (op_load' rfl rfl rfl ta30 rfl ⟨rfl, rfl⟩) <| dOps_op rfl rfl (.cons (op_call rfl rfl rfl co27 (rLaterS_spec (.mk n1 m1 s1 c1 w1) (.mk n2 m2 s2 c2 w2) oa ob _)) .nil) <| dO rfl rfl rfl (op_booleq rfl Tryz.underlying4 rfl rfl ⟨rfl, rfl⟩) ?_
   rw [show (laterVF (.mk n1 m1 s1 c1 w1) (.mk n2 m2 s2 c2 w2) == laterVF (.mk n1 m1 s1 c1 w1) (.mk n2 m2 s2 c2 w2)) = true from by simp]
   refine dO rfl rfl rfl (op_pick rfl rfl rfl ⟨rfl, rfl⟩) <| dO rfl rfl rfl (op_assign rfl rfl ⟨rfl, rfl⟩) <| dOps_nil <| mwp_ret ?_
   exact ret_tmp (.inr rfl) Tryz.results5 rfl (.of_eq (rfl)) (.bool _) ⟨rfl, rfl⟩
  ·
   refine qR rfl <| qL rfl rfl rfl rfl ta30 rfl <| qM rfl rfl rfl <| qM rfl rfl rfl ?_
   refine wOps_op rfl (op_call rfl rfl rfl co20 ((hsn _).mono ?_))
   rintro _ _ ⟨rfl, rfl⟩
   refine qM rfl rfl rfl <| qO rfl <| op_extract rfl rfl rfl <| qO rfl <| op_extract rfl rfl rfl <| qO rfl <| op_alloc' rfl zm30 rfl rfl <| qO rfl <| op_store' rfl rfl rfl rfl sz30 rfl rfl (Nat.le_of_ble_eq_true rfl) rfl <| qA rfl rfl rfl <| qN <| mwp_seq <| qR rfl <| qL rfl rfl rfl rfl ta30 rfl <| qM rfl rfl rfl <| qM rfl rfl rfl ?_
   refine wOps_op rfl (op_call rfl rfl rfl co21 ((hrn _).mono ?_))
   rintro _ _ ⟨rfl, rfl⟩
   refine qM rfl rfl rfl <| qO rfl <| op_extract rfl rfl rfl <| qO rfl <| op_extract rfl rfl rfl <| qO rfl <| op_alloc' rfl zm30 rfl rfl <| qO rfl <| op_store' rfl rfl rfl rfl sz30 rfl rfl (Nat.le_of_ble_eq_true rfl) rfl <| qA rfl rfl rfl <| qN <| mwp_seq ?_
   refine mwp_draw [] [_] mo (by decide) rfl rfl rfl rfl ?_
   refine dO rfl rfl rfl (op_load' rfl rfl rfl ta30 rfl ⟨rfl, rfl⟩) <| dOps_op rfl rfl (.cons (op_call rfl rfl rfl co22 (stampIs_spec (.mk n1 m1 s1 c1 w1) oa _)) .nil) <| dOps_op rfl rfl (.cons (op_call rfl rfl rfl co24 (rLast_spec _)) .nil) <| dO rfl rfl rfl (op_load' rfl rfl rfl ta30 rfl ⟨rfl, rfl⟩) <| dOps_op rfl rfl (.cons (op_call rfl rfl rfl co23 (rIsAt oa rfl _)) .nil) <| dO rfl rfl rfl (op_booleq rfl Tryz.underlying4 rfl rfl ⟨rfl, rfl⟩) ?_
   rw [show (isLV (.mk n1 m1 s1 c1 w1) == isLV (.mk n1 m1 s1 c1 w1)) = true from by simp]
   refine dO rfl rfl rfl (op_move rfl rfl ⟨rfl, rfl⟩) <| dO rfl rfl rfl (op_load' rfl rfl rfl ta30 rfl ⟨rfl, rfl⟩) <| dO rfl rfl rfl (op_load' rfl rfl rfl ta30 rfl ⟨rfl, rfl⟩) <| dOps_op rfl rfl (.cons (op_call rfl rfl rfl co12 (rSame_spec noV noV _)) .nil) ?_
   rw [decide_eq_true rfl]
   refine dO rfl rfl rfl (op_pick rfl rfl rfl ⟨rfl, rfl⟩) <| dO rfl rfl rfl (op_move rfl rfl ⟨rfl, rfl⟩) <| dO rfl rfl rfl (op_move rfl rfl ⟨rfl, rfl⟩) <| dOps_op rfl rfl (.cons (op_call rfl rfl rfl co25 (code11_err 15 _ (get_app hS))) .nil) <| dO rfl rfl rfl (op_move rfl rfl ⟨rfl, rfl⟩) <| dO rfl rfl rfl (op_cmp rfl rfl rfl (eqlI rfl) ⟨rfl, rfl⟩) <| dO rfl rfl rfl (op_pick rfl rfl rfl ⟨rfl, rfl⟩) <| dO rfl rfl rfl (op_move rfl rfl ⟨rfl, rfl⟩) <| dO rfl rfl rfl (op_load' rfl rfl rfl ta30 rfl ⟨rfl, rfl⟩) <| dO rfl rfl rfl (op_load' rfl rfl rfl ta30 rfl ⟨rfl, rfl⟩) <| dOps_op rfl rfl (.cons (op_call rfl rfl rfl co26 (stampLater_spec (.mk n1 m1 s1 c1 w1) (.mk n2 m2 s2 c2 w2) oa ob _)) .nil) <| dO rfl rfl rfl (op_load' rfl rfl rfl ta30 rfl ⟨rfl, rfl⟩) <| dO rfl rfl rfl (op_load' rfl rfl rfl ta30 rfl ⟨rfl, rfl⟩) <| dOps_op rfl rfl (.cons (op_call rfl rfl rfl co27 (rLaterS_spec (.mk n1 m1 s1 c1 w1) (.mk n2 m2 s2 c2 w2) oa ob _)) .nil) <| dO rfl rfl rfl (op_booleq rfl Tryz.underlying4 rfl rfl ⟨rfl, rfl⟩) ?_
   rw [show (laterVF (.mk n1 m1 s1 c1 w1) (.mk n2 m2 s2 c2 w2) == laterVF (.mk n1 m1 s1 c1 w1) (.mk n2 m2 s2 c2 w2)) = true from by simp]
   refine dO rfl rfl rfl (op_pick rfl rfl rfl ⟨rfl, rfl⟩) <| dO rfl rfl rfl (op_assign rfl rfl ⟨rfl, rfl⟩) <| dOps_nil <| mwp_ret ?_
   exact ret_tmp (.inr rfl) Tryz.results5 rfl (.of_eq (rfl)) (.bool _) ⟨rfl, rfl⟩
end Go.Proofs.YtnfcnpdpfgcchaaGreatDoor
end
section
set_option linter.unusedVariables false
set_option linter.unusedSimpArgs false
namespace Go.MV
open Go Go.RowKit Go.WideShapes Go.ChangeShapes
section
variable {H : Type} {enc : TypeId × Value → H} {P : Program} {W : World} {base b0 : Nat} {spare : Nat → Bool} {held : Bool} {r : Reach} {ts : List TypeId} {t : TypeId} {v : Value} {d : DataW H} {p : List MemPlace}
theorem tyM_intK {k : IntKind} (hu : P.underlying t = some (.int k)) {n : Nat} {l : List MV} (h : TyM P n t l) : ∃ v, l = [.int k v] ∧ (Lit.int k v).wf = true := by
  cases n with
  | zero => exact h.elim
  | succ n => unfold TyM at h; rw [hu] at h; exact h
theorem tyM_str (hu : P.underlying t = some .string) {n : Nat} {l : List MV} (h : TyM P n t l) : ∃ s : Bs, l = [.str (bs s)] ∧ s.length ≤ maxLen := by
  cases n with
  | zero => exact h.elim
  | succ n =>
    unfold TyM at h; rw [hu] at h
    obtain ⟨s, rfl, hs⟩ := h
    exact ⟨strL s, by rw [bs_strL], by unfold strL; rw [Array.length_toList]; exact hs⟩
theorem tyM_slice {e : TypeId} (hu : P.underlying t = some (.slice e)) {n : Nat} {l : List MV} (h : TyM P n t l) : ∃ xs m, m + 1 = n ∧ l = [.lst none (P.cellsOf e) xs] ∧ ∀ x ∈ xs, x.cells.length = P.cellsOf e ∧ TyM P m e x.cells ∧ ElF P e x := by
  cases n with
  | zero => exact h.elim
  | succ n =>
    unfold TyM at h; rw [hu] at h
    obtain ⟨xs, h1, h2⟩ := h
    exact ⟨xs, n, rfl, h1, h2⟩
theorem tyM_struct {fs : Array Field} (hu : P.underlying t = some (.struct fs)) {n : Nat} {l : List MV} (h : TyM P n t l) : ∃ m, m + 1 = n ∧ TyFs (TyM P m) fs.toList l := by
  cases n with
  | zero => exact h.elim
  | succ n => unfold TyM at h; rw [hu] at h; exact ⟨n, rfl, h⟩
theorem all_enc {α : Type} {enc : α → MV} {q : α → Prop} : ∀ {xs : List MV}, (∀ x ∈ xs, ∃ a, x = enc a ∧ q a) → ∃ l : List α, xs = l.map enc ∧ ∀ a ∈ l, q a
  | [], _ => ⟨[], rfl, fun a h => by cases h⟩
  | x :: xs, h => by
    obtain ⟨l, rfl, hl⟩ := all_enc (fun y hy => h y (List.mem_cons_of_mem _ hy))
    obtain ⟨a, rfl, ha⟩ := h x (List.mem_cons_self ..)
    refine ⟨a :: l, rfl, fun b hb => ?_⟩
    rcases List.mem_cons.1 hb with rfl | hb
    · exact ha
    · exact hl b hb
theorem rd_of_rds {g : Gh} {w : World} {m : MV} {v : Value} (h : Rds g w [m] [v]) : Rd g w m v := h.2 0 _ _ rfl rfl
theorem arg_int {k : IntKind} (hok : okTypes P ts = true) (ht : t ∈ ts) (hu : P.underlying t = some (.int k)) (hv : Value.okWide P W r b0 t v) (h : DataW.Trod enc P W base spare held t v d p) : ∃ n, Rd (g0 W) W (.int k n) v ∧ (Lit.int k n).wf = true := by
  obtain ⟨n, rfl⟩ := okWide_int hu hv
  obtain ⟨l, m, h1, h2⟩ := arg_one hok ht rfl h
  obtain ⟨n', rfl, hw⟩ := tyM_intK hu h2
  exact ⟨n', rd_of_rds h1, hw⟩
theorem arg_str (hok : okTypes P ts = true) (ht : t ∈ ts) (hu : P.underlying t = some .string) (hv : Value.okWide P W r b0 t v) (h : DataW.Trod enc P W base spare held t v d p) : ∃ s : Bs, Rd (g0 W) W (.str (bs s)) v ∧ s.length ≤ maxLen := by
  obtain ⟨n, rfl⟩ := okWide_string hu hv
  obtain ⟨l, m, h1, h2⟩ := arg_one hok ht rfl h
  obtain ⟨n', rfl, hw⟩ := tyM_str hu h2
  exact ⟨n', rd_of_rds h1, hw⟩
theorem el_str (hu : P.underlying t = some .string) (m : Nat) (x : MV) (h : TyM P m t x.cells) (he : ElF P t x) : ∃ a : Bs, x = .str (bs a) ∧ a.length ≤ maxLen := by
  obtain ⟨n, hn', hw⟩ := tyM_str hu h
  simp only [ElF, hu] at he
  rw [hn'] at he
  injection he with he
  exact ⟨n, he, hw⟩
theorem wf_u64 {n : Int} (h : (Lit.int .u64 n).wf = true) : ∃ m : Nat, n = (m : Int) ∧ m < 18446744073709551616 := by
  simp [Lit.wf, IntKind.min, IntKind.max, IntKind.signed, IntKind.bits] at h
  exact ⟨n.toNat, by omega, by omega⟩
end
end Go.MV
end
section
set_option linter.unusedVariables false
set_option linter.unusedSimpArgs false
set_option maxRecDepth 20000
namespace Go.Proofs.YtnfcnpdpfgcchaaGreatDoor
open Go Go.MV
theorem cells_tick : Tryz.prog.cellsOf 59 = 2 := by kernel_rfl
theorem tyM_tick {m : Nat} {l : List MV} (h : TyM Tryz.prog m 59 l) : ∃ a : Tk, MV.agg l = encT a ∧ (0 ≤ a.2 ∧ a.2 < 18446744073709551616) := by
  obtain ⟨m', _, h⟩ := tyM_struct Tryz.underlying59 h
  obtain ⟨a, _, rfl, h1, b, _, rfl, h2, rfl⟩ := h
  obtain ⟨w, rfl, _⟩ := tyM_intK Tryz.underlying3 h1
  obtain ⟨n, rfl, hw⟩ := tyM_intK Tryz.underlying25 h2
  obtain ⟨k, rfl, hk⟩ := wf_u64 hw
  exact ⟨(w, k), rfl, by dsimp only; omega, by dsimp only; omega⟩
theorem el_tick (m : Nat) (x : MV) (_ : x.cells.length = Tryz.prog.cellsOf 59) (h : TyM Tryz.prog m 59 x.cells) (he : ElF Tryz.prog 59 x) : ∃ a : Tk, x = encT a ∧ (0 ≤ a.2 ∧ a.2 < 18446744073709551616) := by
  obtain ⟨a, e, ha⟩ := tyM_tick h
  simp only [ElF, Tryz.underlying59] at he
  exact ⟨a, he.trans e, ha⟩
end Go.Proofs.YtnfcnpdpfgcchaaGreatDoor
end
section
set_option linter.unusedVariables false
set_option linter.unusedSimpArgs false
set_option maxRecDepth 100000
namespace Go.Proofs.YtnfcnpdpfgcchaaGreatDoor
open Go Go.MV
theorem cellsV_str : Tryz.prog.cellsOf 9 = 1 := by kernel_rfl
theorem cellsV_clk : Tryz.prog.cellsOf 60 = 1 := by kernel_rfl
theorem cellsV_val : Tryz.prog.cellsOf 30 = 5 := by kernel_rfl
theorem tyM_val (n : Nat) : ∀ (l : List MV), TyM Tryz.prog n 30 l → ∃ x : Val, MV.agg l = encV x ∧ okV x := by
  induction n using Nat.strongRecOn with
  | _ n ih =>
  intro l h
  obtain ⟨n', rfl, h⟩ := tyM_struct Tryz.underlying30 h
  obtain ⟨a, _, rfl, h1, b, _, rfl, h2, c, _, rfl, h3, d, _, rfl, h4, e, _, rfl, h5, rfl⟩ := h
  obtain ⟨v1, rfl, w1⟩ := tyM_intK Tryz.underlying25 h1
  obtain ⟨v2, rfl, w2⟩ := tyM_intK Tryz.underlying25 h2
  obtain ⟨k1, rfl, hk1⟩ := wf_u64 w1
  obtain ⟨k2, rfl, hk2⟩ := wf_u64 w2
  obtain ⟨xs, m3, hm3, rfl, hx3⟩ := tyM_slice Tryz.underlying26 h3
  obtain ⟨ss, rfl, _⟩ := all_enc (enc := encX) (q := fun _ => True) (xs := xs) (fun x hx => by
    obtain ⟨_, g2, g3⟩ := hx3 x hx
    obtain ⟨a, e1, _⟩ := el_str Tryz.underlying9 m3 x g2 g3
    exact ⟨a, e1, trivial⟩)
  obtain ⟨ys, m4, hm4, rfl, hx4⟩ := tyM_slice Tryz.underlying27 h4
  obtain ⟨cs, rfl, hcs⟩ := all_enc (enc := encC) (q := fun c : List Tk => ∀ t ∈ c, okTk t) (xs := ys) (fun x hx => by
    obtain ⟨_, g2, g3⟩ := hx4 x hx
    obtain ⟨zs, m5, hm5, e5, hx5⟩ := tyM_slice Tryz.underlying60 g2
    simp only [ElF, Tryz.underlying60] at g3
    rw [e5] at g3
    injection g3 with g3 _
    obtain ⟨c, rfl, hc⟩ := all_enc (enc := encT) (q := okTk) (xs := zs) (fun z hz => by
      obtain ⟨f1, f2, f3⟩ := hx5 z hz
      exact el_tick m5 z f1 f2 f3)
    refine ⟨c, ?_, hc⟩
    rw [g3, cells_tick]
    rfl)
  obtain ⟨us, m6, hm6, rfl, hx6⟩ := tyM_slice Tryz.underlying28 h5
  obtain ⟨vs, rfl, hvs⟩ := all_enc (enc := encV) (q := okV) (xs := us) (fun x hx => by
    obtain ⟨_, g2, g3⟩ := hx6 x hx
    obtain ⟨v, e1, hv⟩ := ih m6 (by omega) _ g2
    simp only [ElF, Tryz.underlying30] at g3
    exact ⟨v, g3.trans e1, hv⟩)
  refine ⟨.mk k1 k2 ss cs vs, ?_, ?_⟩
  · rw [cellsV_str, cellsV_clk, cellsV_val, encV, encVs_eq]
    rfl
  · simp only [okV]
    exact ⟨by omega, by omega, hcs, okVs_iff.2 hvs⟩
theorem arg_val {ts : List TypeId} (hok : okTypes Tryz.prog ts = true) (ht : 30 ∈ ts) {H : Type} {enc : TypeId × Value → H} {W : World} {base b0 : Nat} {spare : Nat → Bool} {held : Bool} {r : Reach} {v : Value} {d : DataW H} {p : List MemPlace} (hv : Value.okWide Tryz.prog W r b0 30 v) (h : DataW.Trod enc Tryz.prog W base spare held 30 v d p) :
    ∃ x : Val, Rd (g0 W) W (encV x) v ∧ okV x := by
  obtain ⟨l, m, h1, h2⟩ := arg_struct hok ht Tryz.underlying30 hv h
  obtain ⟨x, hx, ho⟩ := tyM_val _ _ h2
  exact ⟨x, hx ▸ h1, ho⟩
end Go.Proofs.YtnfcnpdpfgcchaaGreatDoor
end
