/-
  Walks of values, first part: whether two are the same, what has nothing, how great one is (layer 4).
-/
import Derived.Test.YtihpnfpdocnniaaValP
import Derived.Test.YtihpnfpdocnniaaClkA
import Derived.Test.YtihpnfpdocnniaaItb
import Derived.Test.YtihpnfpdocnniaaFacts
set_option linter.unusedVariables false
set_option linter.unusedSimpArgs false
set_option maxHeartbeats 400000
namespace Go.Proofs.Ytihpnfpdocnniaa
open Go Go.MV
theorem not_dec {p : Prop} [Decidable p] (h : (!decide p) = false) : p := by simpa using h
theorem two_of {ins : List Sch} (h : partsF 5 = (ins.length : Int)) : ∃ x y, ins = [x, y] := by
  have h2 : ins.length = 2 := by have : partsF 5 = 2 := by decide
                                 omega
  match ins, h2 with
  | [x, y], _ => exact ⟨x, y, rfl⟩
theorem len_encX (l : List Bs) : (l.map encX).length = l.length := List.length_map ..


theorem xEqual_spec (a b : List Bs) (S : MS) : MCalls Try.prog 27 [.lst none 1 (a.map encX), .lst none 1 (b.map encX)] S fun v σ' => v = .bool (decide (a = b)) ∧ σ' = S := by
  refine mcalls_body Try.func27 rfl Try.ntmps27 (Nat.le_of_ble_eq_true rfl) ?_
  refine mwp_len (t := 0) rfl fun hlen => ?_
  rw [List.length_map] at hlen
  refine mwp_seq ?_
  refine mwp_region rfl ?_
  refine wOps_op rfl (op_assign rfl rfl ?_)
  refine wOps_nil ?_
  refine mwp_seq ?_
  refine mwp_seq ?_
  refine mwp_region rfl ?_
  refine wOps_op rfl (op_move rfl rfl ?_)
  refine wOps_op rfl (op_len_lst rfl Try.underlying26 rfl ?_)
  refine wOps_op rfl (op_move rfl rfl ?_)
  refine wOps_op rfl (op_len_lst rfl Try.underlying26 rfl ?_)
  refine wOps_op rfl (op_cmp rfl rfl rfl rfl ?_)
  refine wOps_nil ?_
  refine mwp_cond_split rfl (fun h10 => ?_) (fun h10 => ?_)
  · -- yes
    refine mwp_seq ?_
    refine mwp_region rfl ?_
    refine wOps_op rfl (op_assign rfl rfl ?_)
    refine wOps_nil ?_
    refine mwp_ret ?_
    exact ret_tmp (.inr rfl) Try.results27 rfl (.of_eq (by congr 1; symm; rw [decide_eq_false_iff_not]; intro e; subst e; simp at h10)) (.bool _) ⟨rfl, rfl⟩
  · -- no
    have hab : a.length = b.length := by simp at h10; omega
    refine mwp_skip ?_
    refine mwp_seq ?_
    refine mwp_seq ?_
    refine mwp_region rfl ?_
    refine wOps_op rfl (op_move rfl rfl ?_)
    refine wOps_op rfl (op_len_lst rfl Try.underlying26 rfl ?_)
    refine wOps_op rfl (op_move rfl rfl ?_)
    refine wOps_nil ?_
    refine mwp_block ?_
    refine mwp_loopK (α := Nat) [(0, _), (1, _), (12, _)] (fun i => [(13, .int .i64 (i : Int))]) (fun i => []) (fun i => i ≤ a.length ∧ a.take i = b.take i) (fun i => a.length - i) (0) (.keep rfl (.keep rfl (.keep rfl (.nil)))) (.keep rfl (.nil)) (⟨by omega, rfl⟩) (rfl) ?_
    rintro i ⟨hi, heq⟩
    refine mwp_seq ?_
    refine mwp_region rfl ?_
    refine wOps_op rfl (op_cmp rfl rfl rfl rfl ?_)
    refine wOps_nil ?_
    refine mwp_seq ?_
    refine mwp_cond_split rfl (fun h14 => ?_) (fun h14 => ?_)
    · -- yes
      have hlt : i < a.length := by simpa using h14
      obtain ⟨x, hs⟩ : ∃ q_, a[i]? = some q_ := ⟨_, List.getElem?_eq_getElem hlt⟩
      obtain ⟨y, hs2⟩ : ∃ s, b[i]? = some s := ⟨_, List.getElem?_eq_getElem (by omega)⟩
      refine mwp_skip ?_
      refine mwp_seq ?_
      refine mwp_block ?_
      refine mwp_seq ?_
      refine mwp_region rfl ?_
      refine wOps_op rfl (op_move rfl rfl ?_)
      refine wOps_op rfl (op_assign rfl rfl ?_)
      refine wOps_nil ?_
      refine mwp_seq ?_
      refine mwp_draw [] [_] mo (by decide) rfl rfl rfl rfl ?_
      refine dOps_op rfl rfl (.cons (op_move rfl rfl ⟨rfl, rfl⟩) .nil) ?_
      refine dOps_op rfl rfl (.cons (op_move rfl rfl ⟨rfl, rfl⟩) .nil) ?_
      refine dOps_op rfl rfl (.cons (op_indexAddr rfl Try.underlying26 sz9 (by decide) rfl rfl rfl (get_map hs) ⟨rfl, rfl⟩) .nil) ?_
      refine dOps_op rfl rfl (.cons (op_load_sptr rfl rfl ta9 rfl ⟨rfl, rfl⟩) .nil) ?_
      refine dOps_op rfl rfl (.cons (op_move rfl rfl ⟨rfl, rfl⟩) .nil) ?_
      refine dOps_op rfl rfl (.cons (op_move rfl rfl ⟨rfl, rfl⟩) .nil) ?_
      refine dOps_op rfl rfl (.cons (op_indexAddr rfl Try.underlying26 sz9 (by decide) rfl rfl rfl (get_map hs2) ⟨rfl, rfl⟩) .nil) ?_
      refine dOps_op rfl rfl (.cons (op_load_sptr rfl rfl ta9 rfl ⟨rfl, rfl⟩) .nil) ?_
      refine dOps_op rfl rfl (.cons (op_strcmp rfl rfl rfl rfl ⟨rfl, rfl⟩) .nil) ?_
      refine dOps_nil ?_
      refine mwp_cond_split rfl (fun h24 => ?_) (fun h24 => ?_)
      · -- yes
        refine mwp_seq ?_
        refine mwp_region rfl ?_
        refine wOps_op rfl (op_assign rfl rfl ?_)
        refine wOps_nil ?_
        refine mwp_ret ?_
        exact ret_tmp (.inr rfl) Try.results27 rfl (.of_eq (by congr 1; symm; rw [decide_eq_false_iff_not]; intro e; subst e; rw [hs2] at hs; injection hs with hs; subst hs; simp at h24)) (.bool _) ⟨rfl, rfl⟩
      · -- no
        refine mwp_skip ?_
        refine mwp_region rfl ?_
        refine wOps_op rfl (op_arith rfl rfl rfl rfl ?_)
        refine wOps_op rfl (op_move rfl rfl ?_)
        refine wOps_nil ?_
        refine ⟨i + 1, by omega, ⟨by omega, ?_⟩, rfl, (.keep rfl (.keep rfl (.keep rfl (.nil)))), (.eq rfl (int_succ hlt hlen) (.nil))⟩
        rw [List.take_add_one, List.take_add_one, hs, hs2, heq]
        simp at h24
        rw [h24]
    · -- no
      have hge : i = a.length := by simp at h14; omega
      refine mwp_exit ?_
      refine mwp_seq ?_
      refine mwp_region rfl ?_
      refine wOps_op rfl (op_assign rfl rfl ?_)
      refine wOps_nil ?_
      refine mwp_ret ?_
      exact ret_tmp (.inr rfl) Try.results27 rfl (.of_eq (by congr 1; symm; rw [decide_eq_true_iff]; rw [hge, List.take_length, hab, List.take_length] at heq; exact heq)) (.bool _) ⟨rfl, rfl⟩

theorem cEqualF_spec (a b : List (List Tk)) (S : MS) : MCalls Try.prog 47 [.lst none 1 (a.map encC), .lst none 1 (b.map encC), .fn (.func 29) [] []] S fun v σ' => v = .bool (decide (a = b)) ∧ σ' = S := by
  refine mcalls_body Try.func47 rfl Try.ntmps47 (Nat.le_of_ble_eq_true rfl) ?_
  refine mwp_len (t := 0) rfl fun hlen => ?_
  rw [List.length_map] at hlen
  refine mwp_seq ?_
  refine mwp_region rfl ?_
  refine wOps_op rfl (op_assign rfl rfl ?_)
  refine wOps_nil ?_
  refine mwp_seq ?_
  refine mwp_seq ?_
  refine mwp_region rfl ?_
  refine wOps_op rfl (op_move rfl rfl ?_)
  refine wOps_op rfl (op_len_lst rfl Try.underlying27 rfl ?_)
  refine wOps_op rfl (op_move rfl rfl ?_)
  refine wOps_op rfl (op_len_lst rfl Try.underlying27 rfl ?_)
  refine wOps_op rfl (op_cmp rfl rfl rfl rfl ?_)
  refine wOps_nil ?_
  refine mwp_cond_split rfl (fun h14 => ?_) (fun h14 => ?_)
  · -- yes
    refine mwp_seq ?_
    refine mwp_region rfl ?_
    refine wOps_op rfl (op_assign rfl rfl ?_)
    refine wOps_nil ?_
    refine mwp_ret ?_
    exact ret_tmp (.inr rfl) Try.results47 rfl (.of_eq (by congr 1; symm; rw [decide_eq_false_iff_not]; intro e; subst e; simp at h14)) (.bool _) ⟨rfl, rfl⟩
  · -- no
    have hab : a.length = b.length := by simp at h14; omega
    refine mwp_skip ?_
    refine mwp_seq ?_
    refine mwp_seq ?_
    refine mwp_region rfl ?_
    refine wOps_op rfl (op_move rfl rfl ?_)
    refine wOps_op rfl (op_len_lst rfl Try.underlying27 rfl ?_)
    refine wOps_op rfl (op_move rfl rfl ?_)
    refine wOps_nil ?_
    refine mwp_block ?_
    refine mwp_loopK (α := Nat) [(1, _), (2, _), (15, _), (16, _)] (fun i => [(17, .int .i64 (i : Int))]) (fun i => []) (fun i => i ≤ a.length ∧ a.take i = b.take i) (fun i => a.length - i) (0) (.keep rfl (.keep rfl (.keep rfl (.keep rfl (.nil))))) (.keep rfl (.nil)) (⟨by omega, rfl⟩) (rfl) ?_
    rintro i ⟨hi, heq⟩
    refine mwp_seq ?_
    refine mwp_region rfl ?_
    refine wOps_op rfl (op_cmp rfl rfl rfl rfl ?_)
    refine wOps_nil ?_
    refine mwp_seq ?_
    refine mwp_cond_split rfl (fun h18 => ?_) (fun h18 => ?_)
    · -- yes
      have hlt : i < a.length := by simpa using h18
      obtain ⟨x, hs⟩ : ∃ q_, a[i]? = some q_ := ⟨_, List.getElem?_eq_getElem hlt⟩
      obtain ⟨y, hs2⟩ : ∃ s, b[i]? = some s := ⟨_, List.getElem?_eq_getElem (by omega)⟩
      refine mwp_skip ?_
      refine mwp_seq ?_
      refine mwp_block ?_
      refine mwp_seq ?_
      refine mwp_region rfl ?_
      refine wOps_op rfl (op_move rfl rfl ?_)
      refine wOps_op rfl (op_indexAddr rfl Try.underlying27 sz40 (by decide) rfl rfl rfl (get_map hs) ?_)
      refine wOps_op rfl (op_load_sptr rfl rfl ta40 rfl ?_)
      refine wOps_op rfl (op_assign rfl rfl ?_)
      refine wOps_op rfl (op_assign rfl rfl ?_)
      refine wOps_nil ?_
      refine mwp_seq ?_
      refine mwp_region rfl ?_
      refine wOps_op rfl (op_move rfl rfl ?_)
      refine wOps_op rfl (op_move rfl rfl ?_)
      refine wOps_op rfl (op_indexAddr rfl Try.underlying27 sz40 (by decide) rfl rfl rfl (get_map hs2) ?_)
      refine wOps_op rfl (op_load_sptr rfl rfl ta40 rfl ?_)
      refine wOps_op rfl (op_assign rfl rfl ?_)
      refine wOps_nil ?_
      refine mwp_seq ?_
      refine mwp_region rfl ?_
      refine wOps_op rfl (op_move rfl rfl ?_)
      refine wOps_op rfl (op_move rfl rfl ?_)
      refine wOps_op rfl (op_move rfl rfl ?_)
      refine wOps_op rfl (op_call rfl rfl rfl co29 ((clkSame_spec x y _).mono ?_))
      rintro _ _ ⟨rfl, rfl⟩
      refine wOps_op rfl (op_not rfl rfl ?_)
      refine wOps_nil ?_
      refine mwp_cond_split rfl (fun h30 => ?_) (fun h30 => ?_)
      · -- yes
        refine mwp_seq ?_
        refine mwp_region rfl ?_
        refine wOps_op rfl (op_assign rfl rfl ?_)
        refine wOps_nil ?_
        refine mwp_ret ?_
        exact ret_tmp (.inr rfl) Try.results47 rfl (.of_eq (by congr 1; symm; rw [decide_eq_false_iff_not]; intro e; subst e; rw [hs2] at hs; injection hs with hs; rw [hs] at h30; simp at h30)) (.bool _) ⟨rfl, rfl⟩
      · -- no
        refine mwp_skip ?_
        refine mwp_region rfl ?_
        refine wOps_op rfl (op_arith rfl rfl rfl rfl ?_)
        refine wOps_op rfl (op_move rfl rfl ?_)
        refine wOps_nil ?_
        refine ⟨i + 1, by omega, ⟨by omega, ?_⟩, rfl, (.keep rfl (.keep rfl (.keep rfl (.keep rfl (.nil))))), (.eq rfl (int_succ hlt hlen) (.nil))⟩
        rw [List.take_add_one, List.take_add_one, hs, hs2, heq, not_dec h30]
    · -- no
      have hge : i = a.length := by simp at h18; omega
      refine mwp_exit ?_
      refine mwp_seq ?_
      refine mwp_region rfl ?_
      refine wOps_op rfl (op_assign rfl rfl ?_)
      refine wOps_nil ?_
      refine mwp_ret ?_
      exact ret_tmp (.inr rfl) Try.results47 rfl (.of_eq (by congr 1; symm; rw [decide_eq_true_iff]; rw [hge, List.take_length, hab, List.take_length] at heq; exact heq)) (.bool _) ⟨rfl, rfl⟩

theorem cSame_spec (a b : List (List Tk)) (S : MS) : MCalls Try.prog 28 [.lst none 1 (a.map encC), .lst none 1 (b.map encC), .fn (.func 29) [] []] S fun v σ' => v = .bool (decide (a = b)) ∧ σ' = S := by
  refine mcalls_body Try.func28 rfl Try.ntmps28 (Nat.le_of_ble_eq_true rfl) ?_
  refine mwp_seq ?_
  refine mwp_region rfl ?_
  refine wOps_op rfl (op_assign rfl rfl ?_)
  refine wOps_nil ?_
  refine mwp_seq ?_
  refine mwp_region rfl ?_
  refine wOps_op rfl (op_move rfl rfl ?_)
  refine wOps_op rfl (op_move rfl rfl ?_)
  refine wOps_op rfl (op_move rfl rfl ?_)
  refine wOps_op rfl (op_call rfl rfl rfl co47 ((cEqualF_spec a b _).mono ?_))
  rintro _ _ ⟨rfl, rfl⟩
  refine wOps_op rfl (op_assign rfl rfl ?_)
  refine wOps_nil ?_
  refine mwp_ret ?_
  exact ret_tmp (.inr rfl) Try.results28 rfl (.of_eq (rfl)) (.bool _) ⟨rfl, rfl⟩

theorem vEqualF_spec (a b : List Val) (ih : ∀ x ∈ a, ∀ (y : Val) (S : MS), MCalls Try.prog 16 [encV x, encV y] S fun v σ' => v = .bool (decide (x = y)) ∧ σ' = S) (S : MS) : MCalls Try.prog 49 [.lst none 5 (encVs a), .lst none 5 (encVs b), .fn (.func 16) [] []] S fun v σ' => v = .bool (decide (a = b)) ∧ σ' = S := by
  refine mcalls_body Try.func49 rfl Try.ntmps49 (Nat.le_of_ble_eq_true rfl) ?_
  refine mwp_len (t := 0) rfl fun hlen => ?_
  rw [encVs_length] at hlen
  refine mwp_seq ?_
  refine mwp_region rfl ?_
  refine wOps_op rfl (op_assign rfl rfl ?_)
  refine wOps_nil ?_
  refine mwp_seq ?_
  refine mwp_seq ?_
  refine mwp_region rfl ?_
  refine wOps_op rfl (op_move rfl rfl ?_)
  refine wOps_op rfl (op_len_lst rfl Try.underlying28 rfl ?_)
  refine wOps_op rfl (op_move rfl rfl ?_)
  refine wOps_op rfl (op_len_lst rfl Try.underlying28 rfl ?_)
  refine wOps_op rfl (op_cmp rfl rfl rfl rfl ?_)
  refine wOps_nil ?_
  refine mwp_cond_split rfl (fun h14 => ?_) (fun h14 => ?_)
  · -- yes
    rw [encVs_length, encVs_length] at h14
    refine mwp_seq ?_
    refine mwp_region rfl ?_
    refine wOps_op rfl (op_assign rfl rfl ?_)
    refine wOps_nil ?_
    refine mwp_ret ?_
    exact ret_tmp (.inr rfl) Try.results49 rfl (.of_eq (by congr 1; symm; rw [decide_eq_false_iff_not]; intro e; subst e; simp at h14)) (.bool _) ⟨rfl, rfl⟩
  · -- no
    rw [encVs_length, encVs_length] at h14
    have hab : a.length = b.length := by simp at h14; omega
    refine mwp_skip ?_
    refine mwp_seq ?_
    refine mwp_seq ?_
    refine mwp_region rfl ?_
    refine wOps_op rfl (op_move rfl rfl ?_)
    refine wOps_op rfl (op_len_lst rfl Try.underlying28 rfl ?_)
    refine wOps_op rfl (op_move rfl rfl ?_)
    refine wOps_nil ?_
    refine mwp_block ?_
    refine mwp_loopKJ (α := Nat) [(1, _), (2, _), (15, _), (16, _)] (fun i => [(17, .int .i64 (i : Int))]) (fun i => []) (fun i => i ≤ a.length ∧ a.take i = b.take i) (fun i => a.length - i) (0) (Nat.le_refl _) (.keep rfl (.keep rfl (.keep rfl (.keep rfl (.nil))))) (.keep rfl (.nil)) (⟨by omega, rfl⟩) (rfl) ?_
    rintro i ⟨hi, heq⟩
    refine mwp_seq ?_
    refine mwp_region rfl ?_
    refine wOps_op rfl (op_cmp rfl rfl rfl rfl ?_)
    refine wOps_nil ?_
    refine mwp_seq ?_
    refine mwp_cond_split rfl (fun h18 => ?_) (fun h18 => ?_)
    · -- yes
      rw [encVs_length] at h18
      have hlt : i < a.length := by simpa using h18
      obtain ⟨⟨n1, m1, s1, c1, w1⟩, hs⟩ : ∃ s, a[i]? = some s := ⟨_, List.getElem?_eq_getElem hlt⟩
      obtain ⟨⟨n2, m2, s2, c2, w2⟩, hs2⟩ : ∃ s, b[i]? = some s := ⟨_, List.getElem?_eq_getElem (by omega)⟩
      refine mwp_skip ?_
      refine mwp_seq ?_
      refine mwp_block ?_
      refine mwp_seq ?_
      refine mwp_region rfl ?_
      refine wOps_op rfl (op_move rfl rfl ?_)
      refine wOps_op rfl (op_indexAddr rfl Try.underlying28 sz30 (by decide) rfl rfl rfl (encVs_get hs) ?_)
      refine wOps_op rfl (op_load_sptr rfl rfl ta30 rfl ?_)
      refine wOps_op rfl (op_alloc' rfl zm30 rfl rfl ?_)
      refine wOps_op rfl (op_assign rfl rfl ?_)
      refine wOps_op rfl (op_store' rfl rfl rfl rfl sz30 rfl rfl (Nat.le_of_ble_eq_true rfl) rfl ?_)
      refine wOps_nil ?_
      refine mwp_seq ?_
      refine mwp_region rfl ?_
      refine wOps_op rfl (op_move rfl rfl ?_)
      refine wOps_op rfl (op_move rfl rfl ?_)
      refine wOps_op rfl (op_indexAddr rfl Try.underlying28 sz30 (by decide) rfl rfl rfl (encVs_get hs2) ?_)
      refine wOps_op rfl (op_load_sptr rfl rfl ta30 rfl ?_)
      refine wOps_op rfl (op_alloc' rfl zm30 rfl rfl ?_)
      refine wOps_op rfl (op_store' rfl rfl rfl rfl sz30 rfl rfl (Nat.le_of_ble_eq_true rfl) rfl ?_)
      refine wOps_nil ?_
      refine mwp_seq ?_
      refine mwp_region rfl ?_
      refine wOps_op rfl (op_move rfl rfl ?_)
      refine wOps_op rfl (op_load' rfl rfl rfl ta30 rfl ?_)
      refine wOps_op rfl (op_load' rfl rfl rfl ta30 rfl ?_)
      refine wOps_op rfl (op_call rfl rfl rfl co16 ((ih _ (List.mem_of_getElem? hs) (.mk n2 m2 s2 c2 w2) _).mono ?_))
      rintro _ _ ⟨rfl, rfl⟩
      refine wOps_op rfl (op_not rfl rfl ?_)
      refine wOps_nil ?_
      refine mwp_cond_split rfl (fun h30 => ?_) (fun h30 => ?_)
      · -- yes
        refine mwp_seq ?_
        refine mwp_region rfl ?_
        refine wOps_op rfl (op_assign rfl rfl ?_)
        refine wOps_nil ?_
        refine mwp_ret ?_
        exact ret_tmp (.inr rfl) Try.results49 rfl (.of_eq (by congr 1; symm; rw [decide_eq_false_iff_not]; intro e; subst e; rw [hs2] at hs; injection hs with hs; rw [hs] at h30; simp at h30)) (.bool _) ⟨rfl, rfl⟩
      · -- no
        refine mwp_skip ?_
        refine mwp_region rfl ?_
        refine wOps_op rfl (op_arith rfl rfl rfl rfl ?_)
        refine wOps_op rfl (op_move rfl rfl ?_)
        refine wOps_nil ?_
        refine ⟨i + 1, _, by omega, ⟨by omega, ?_⟩, rfl, .nil, (.old rfl rfl (.old rfl rfl (.old rfl rfl (.old rfl rfl (.nil))))), (.new' rfl (int_succ hlt hlen) (.int _ _) (.nil))⟩
        rw [List.take_add_one, List.take_add_one, hs, hs2, heq, not_dec h30]
    · -- no
      rw [encVs_length] at h18
      have hge : i = a.length := by simp at h18; omega
      refine mwp_exit ?_
      refine mwp_seq ?_
      refine mwp_region rfl ?_
      refine wOps_op rfl (op_assign rfl rfl ?_)
      refine wOps_nil ?_
      refine mwp_ret ?_
      exact ret_tmp (.inr rfl) Try.results49 rfl (.of_eq (by congr 1; symm; rw [decide_eq_true_iff]; rw [hge, List.take_length, hab, List.take_length] at heq; exact heq)) (.bool _) ⟨rfl, rfl⟩

theorem vsSame_spec (a b : List Val) (ih : ∀ x ∈ a, ∀ (y : Val) (S : MS), MCalls Try.prog 16 [encV x, encV y] S fun v σ' => v = .bool (decide (x = y)) ∧ σ' = S) (S : MS) : MCalls Try.prog 30 [.lst none 5 (encVs a), .lst none 5 (encVs b), .fn (.func 16) [] []] S fun v σ' => v = .bool (decide (a = b)) ∧ σ' = S := by
  refine mcalls_body Try.func30 rfl Try.ntmps30 (Nat.le_of_ble_eq_true rfl) ?_
  refine mwp_seq ?_
  refine mwp_region rfl ?_
  refine wOps_op rfl (op_assign rfl rfl ?_)
  refine wOps_nil ?_
  refine mwp_seq ?_
  refine mwp_region rfl ?_
  refine wOps_op rfl (op_move rfl rfl ?_)
  refine wOps_op rfl (op_move rfl rfl ?_)
  refine wOps_op rfl (op_move rfl rfl ?_)
  refine wOps_op rfl (op_call rfl rfl rfl co49 ((vEqualF_spec a b ih _).mono ?_))
  rintro _ _ ⟨rfl, rfl⟩
  refine wOps_op rfl (op_assign rfl rfl ?_)
  refine wOps_nil ?_
  refine mwp_ret ?_
  exact ret_tmp (.inr rfl) Try.results30 rfl (.of_eq (rfl)) (.bool _) ⟨rfl, rfl⟩

theorem vSame_spec (d : Nat) : ∀ (a b : Val), vdepth a ≤ d → ∀ S : MS, MCalls Try.prog 16 [encV a, encV b] S fun v σ' => v = .bool (decide (a = b)) ∧ σ' = S := by
  induction d with
  | zero => rintro ⟨n, m, s, c, w⟩ b h; simp [vdepth] at h
  | succ d ih =>
  rintro ⟨n, m, s, c, w⟩ ⟨n2, m2, s2, c2, w2⟩ hd S
  have hmem : ∀ x ∈ w, vdepth x ≤ d := fun x hx => by have := vdepth_mem hx; rw [vdepth] at hd; omega
  refine mcalls_body Try.func16 rfl Try.ntmps16 (Nat.le_of_ble_eq_true rfl) ?_
  refine mwp_seq ?_
  refine mwp_region rfl ?_
  refine wOps_op rfl (op_box' rfl rfl rfl rfl ?_)
  refine wOps_op rfl (op_box' rfl rfl rfl rfl ?_)
  refine wOps_op rfl (op_assign rfl rfl ?_)
  refine wOps_nil ?_
  refine mwp_seq ?_
  refine mwp_region rfl ?_
  refine wOps_op rfl (op_fieldAddr_ref rfl rfl fo30_0 ?_)
  refine wOps_op rfl (op_load' rfl rfl rfl ta25 rfl ?_)
  refine wOps_op rfl (op_fieldAddr_ref rfl rfl fo30_0 ?_)
  refine wOps_op rfl (op_load' rfl rfl rfl ta25 rfl ?_)
  refine wOps_op rfl (op_cmp rfl rfl rfl rfl ?_)
  refine wOps_op rfl (op_move rfl rfl ?_)
  refine wOps_case (fun h10 => ?_) (fun h10 => ?_)
  ·
    refine wOps_op rfl (op_fieldAddr_ref rfl rfl fo30_1 ?_)
    refine wOps_op rfl (op_load' rfl rfl rfl ta25 rfl ?_)
    refine wOps_op rfl (op_fieldAddr_ref rfl rfl fo30_1 ?_)
    refine wOps_op rfl (op_load' rfl rfl rfl ta25 rfl ?_)
    refine wOps_op rfl (op_cmp rfl rfl rfl rfl ?_)
    refine wOps_op rfl (op_pick rfl rfl rfl ?_)
    refine wOps_op rfl (op_move rfl rfl ?_)
    refine wOps_case (fun h17 => ?_) (fun h17 => ?_)
    ·
      refine wOps_op rfl (op_fieldAddr_ref rfl rfl fo30_2 ?_)
      refine wOps_op rfl (op_load' rfl rfl rfl ta26 rfl ?_)
      refine wOps_op rfl (op_fieldAddr_ref rfl rfl fo30_2 ?_)
      refine wOps_op rfl (op_load' rfl rfl rfl ta26 rfl ?_)
      refine wOps_op rfl (op_call rfl rfl rfl co27 ((xEqual_spec s s2 _).mono ?_))
      rintro _ _ ⟨rfl, rfl⟩
      refine wOps_op rfl (op_pick rfl rfl rfl ?_)
      refine wOps_op rfl (op_move rfl rfl ?_)
      refine wOps_case (fun h24 => ?_) (fun h24 => ?_)
      ·
        refine wOps_op rfl (op_fieldAddr_ref rfl rfl fo30_3 ?_)
        refine wOps_op rfl (op_load' rfl rfl rfl ta27 rfl ?_)
        refine wOps_op rfl (op_fieldAddr_ref rfl rfl fo30_3 ?_)
        refine wOps_op rfl (op_load' rfl rfl rfl ta27 rfl ?_)
        refine wOps_op rfl (op_call rfl rfl rfl co28 ((cSame_spec c c2 _).mono ?_))
        rintro _ _ ⟨rfl, rfl⟩
        refine wOps_op rfl (op_pick rfl rfl rfl ?_)
        refine wOps_op rfl (op_move rfl rfl ?_)
        refine wOps_case (fun h31 => ?_) (fun h31 => ?_)
        ·
          refine wOps_op rfl (op_fieldAddr_ref rfl rfl fo30_4 ?_)
          refine wOps_op rfl (op_load' rfl rfl rfl ta28 rfl ?_)
          refine wOps_op rfl (op_fieldAddr_ref rfl rfl fo30_4 ?_)
          refine wOps_op rfl (op_load' rfl rfl rfl ta28 rfl ?_)
          refine wOps_op rfl (op_call rfl rfl rfl co30 ((vsSame_spec w w2 (fun x hx y S => ih x y (hmem x hx) S) _).mono ?_))
          rintro _ _ ⟨rfl, rfl⟩
          refine wOps_op rfl (op_pick rfl rfl rfl ?_)
          refine wOps_op rfl (op_assign rfl rfl ?_)
          refine wOps_nil ?_
          refine mwp_ret ?_
          exact ret_tmp (.inr rfl) Try.results16 rfl (.of_eq (by congr 1; rw [Bool.eq_iff_iff]; simp_all)) (.bool _) ⟨rfl, rfl⟩
        ·
          refine wOps_skip rfl ?_
          refine wOps_skip rfl ?_
          refine wOps_skip rfl ?_
          refine wOps_skip rfl ?_
          refine wOps_skip rfl ?_
          refine wOps_op rfl (op_pick rfl rfl rfl ?_)
          refine wOps_op rfl (op_assign rfl rfl ?_)
          refine wOps_nil ?_
          refine mwp_ret ?_
          exact ret_tmp (.inr rfl) Try.results16 rfl (.of_eq (by congr 1; rw [Bool.eq_iff_iff]; simp_all)) (.bool _) ⟨rfl, rfl⟩
      ·
        refine wOps_skip rfl ?_
        refine wOps_skip rfl ?_
        refine wOps_skip rfl ?_
        refine wOps_skip rfl ?_
        refine wOps_skip rfl ?_
        refine wOps_op rfl (op_pick rfl rfl rfl ?_)
        refine wOps_op rfl (op_move rfl rfl ?_)
        refine wOps_skip rfl ?_
        refine wOps_skip rfl ?_
        refine wOps_skip rfl ?_
        refine wOps_skip rfl ?_
        refine wOps_skip rfl ?_
        refine wOps_op rfl (op_pick rfl rfl rfl ?_)
        refine wOps_op rfl (op_assign rfl rfl ?_)
        refine wOps_nil ?_
        refine mwp_ret ?_
        exact ret_tmp (.inr rfl) Try.results16 rfl (.of_eq (by congr 1; rw [Bool.eq_iff_iff]; simp_all)) (.bool _) ⟨rfl, rfl⟩
    ·
      refine wOps_skip rfl ?_
      refine wOps_skip rfl ?_
      refine wOps_skip rfl ?_
      refine wOps_skip rfl ?_
      refine wOps_skip rfl ?_
      refine wOps_op rfl (op_pick rfl rfl rfl ?_)
      refine wOps_op rfl (op_move rfl rfl ?_)
      refine wOps_skip rfl ?_
      refine wOps_skip rfl ?_
      refine wOps_skip rfl ?_
      refine wOps_skip rfl ?_
      refine wOps_skip rfl ?_
      refine wOps_op rfl (op_pick rfl rfl rfl ?_)
      refine wOps_op rfl (op_move rfl rfl ?_)
      refine wOps_skip rfl ?_
      refine wOps_skip rfl ?_
      refine wOps_skip rfl ?_
      refine wOps_skip rfl ?_
      refine wOps_skip rfl ?_
      refine wOps_op rfl (op_pick rfl rfl rfl ?_)
      refine wOps_op rfl (op_assign rfl rfl ?_)
      refine wOps_nil ?_
      refine mwp_ret ?_
      exact ret_tmp (.inr rfl) Try.results16 rfl (.of_eq (by congr 1; rw [Bool.eq_iff_iff]; simp_all)) (.bool _) ⟨rfl, rfl⟩
  ·
    refine wOps_skip rfl ?_
    refine wOps_skip rfl ?_
    refine wOps_skip rfl ?_
    refine wOps_skip rfl ?_
    refine wOps_skip rfl ?_
    refine wOps_op rfl (op_pick rfl rfl rfl ?_)
    refine wOps_op rfl (op_move rfl rfl ?_)
    refine wOps_skip rfl ?_
    refine wOps_skip rfl ?_
    refine wOps_skip rfl ?_
    refine wOps_skip rfl ?_
    refine wOps_skip rfl ?_
    refine wOps_op rfl (op_pick rfl rfl rfl ?_)
    refine wOps_op rfl (op_move rfl rfl ?_)
    refine wOps_skip rfl ?_
    refine wOps_skip rfl ?_
    refine wOps_skip rfl ?_
    refine wOps_skip rfl ?_
    refine wOps_skip rfl ?_
    refine wOps_op rfl (op_pick rfl rfl rfl ?_)
    refine wOps_op rfl (op_move rfl rfl ?_)
    refine wOps_skip rfl ?_
    refine wOps_skip rfl ?_
    refine wOps_skip rfl ?_
    refine wOps_skip rfl ?_
    refine wOps_skip rfl ?_
    refine wOps_op rfl (op_pick rfl rfl rfl ?_)
    refine wOps_op rfl (op_assign rfl rfl ?_)
    refine wOps_nil ?_
    refine mwp_ret ?_
    exact ret_tmp (.inr rfl) Try.results16 rfl (.of_eq (by congr 1; rw [Bool.eq_iff_iff]; simp_all)) (.bool _) ⟨rfl, rfl⟩

theorem valSame_spec (a b : Val) (S : MS) : MCalls Try.prog 16 [encV a, encV b] S fun v σ' => v = .bool (decide (a = b)) ∧ σ' = S := vSame_spec _ a b (Nat.le_refl _) S

theorem bottom_spec (d : Nat) : ∀ (s : Sch), isF d s = true → ∀ S : MS, MCalls Try.prog 26 [encS s] S fun v σ' => v = encV (bottomF s) ∧ σ' = S := by
  induction d with
  | zero => intro s h; simp [isF] at h
  | succ d ih =>
  rintro ⟨k, ins⟩ hd S
  rw [isF] at hd
  simp only [Bool.and_eq_true, List.all_eq_true, beq_iff_eq] at hd
  refine mcalls_body Try.func26 rfl Try.ntmps26 (Nat.le_of_ble_eq_true rfl) ?_
  refine mwp_seq ?_
  refine mwp_region rfl ?_
  refine wOps_op rfl (op_box' rfl rfl rfl rfl ?_)
  refine wOps_op rfl (op_alloc' rfl zm30 rfl rfl ?_)
  refine wOps_nil ?_
  refine mwp_seq ?_
  refine mwp_region rfl ?_
  refine wOps_op rfl (op_alloc' rfl zm30 rfl rfl ?_)
  refine wOps_nil ?_
  refine mwp_seq ?_
  refine mwp_seq ?_
  refine mwp_region rfl ?_
  refine wOps_op rfl (op_fieldAddr_ref rfl rfl fo24_0 ?_)
  refine wOps_op rfl (op_load' rfl rfl rfl ta3 rfl ?_)
  refine wOps_op rfl (op_cmp rfl rfl rfl rfl ?_)
  refine wOps_nil ?_
  refine mwp_cond_split rfl (fun h6 => ?_) (fun h6 => ?_)
  · -- yes
    have hk : k = 5 := by simpa using h6
    subst hk
    obtain ⟨⟨k1, i1⟩, ⟨k2, i2⟩, rfl⟩ := two_of hd.1
    obtain ⟨⟨n1, m1, s1, c1, w1⟩, e1⟩ : ∃ v, bottomF (.mk k1 i1) = v := ⟨_, rfl⟩
    obtain ⟨⟨n2, m2, s2, c2, w2⟩, e2⟩ : ∃ v, bottomF (.mk k2 i2) = v := ⟨_, rfl⟩
    have ih1 := ih (.mk k1 i1) (hd.2 _ (by simp))
    have ih2 := ih (.mk k2 i2) (hd.2 _ (by simp))
    simp only [e1] at ih1
    simp only [e2] at ih2
    have hbot : bottomF (.mk 5 [.mk k1 i1, .mk k2 i2]) = .mk 0 0 [] [] [.mk n1 m1 s1 c1 w1, .mk n2 m2 s2 c2 w2] := by rw [bottomF, if_pos rfl, bottomL, bottomL, bottomL, e1, e2]
    refine mwp_draw [12] [_, S ++ [.cells (encS (.mk 5 [.mk k1 i1, .mk k2 i2])).cells, .cells [.int .u64 0, .int .u64 0, .lst0, .lst0, .lst0], .cells [.int .u64 0, .int .u64 0, .lst0, .lst0, .lst none 5 [encV (.mk n1 m1 s1 c1 w1), encV (.mk n2 m2 s2 c2 w2)]]]] mo (by decide) rfl rfl rfl rfl ?_
    refine dOps_op rfl rfl (.cons (op_fieldAddr_ref rfl rfl fo24_1 ⟨rfl, rfl⟩) .nil) ?_
    refine dOps_op rfl rfl (.cons (op_load' rfl rfl rfl ta22 rfl ⟨rfl, rfl⟩) .nil) ?_
    refine dOps_op rfl rfl (.cons (op_indexAddr rfl Try.underlying22 sz24 (by decide) rfl rfl rfl (show _ = some (encS (.mk k1 i1)) from rfl) ⟨rfl, rfl⟩) .nil) ?_
    refine dOps_op rfl rfl (.cons (op_load_sptr rfl rfl ta24 rfl ⟨rfl, rfl⟩) .nil) ?_
    refine dOps_op rfl rfl (.cons (op_call rfl rfl rfl co26 (ih1 _)) .nil) ?_
    refine dOps_op rfl rfl (.cons (op_fieldAddr_ref rfl rfl fo24_1 ⟨rfl, rfl⟩) .nil) ?_
    refine dOps_op rfl rfl (.cons (op_load' rfl rfl rfl ta22 rfl ⟨rfl, rfl⟩) .nil) ?_
    refine dOps_op rfl rfl (.cons (op_indexAddr rfl Try.underlying22 sz24 (by decide) rfl rfl rfl (show _ = some (encS (.mk k2 i2)) from rfl) ⟨rfl, rfl⟩) .nil) ?_
    refine dOps_op rfl rfl (.cons (op_load_sptr rfl rfl ta24 rfl ⟨rfl, rfl⟩) .nil) ?_
    refine dOps_op rfl rfl (.cons (op_call rfl rfl rfl co26 (ih2 _)) .nil) ?_
    refine dOps_op rfl rfl (.cons (op_buildSlice rfl Try.underlying28 el30 rfl rfl (by decide) (by decide) rfl rfl ⟨rfl, rfl⟩) .nil) ?_
    refine dOps_op rfl rfl (.cons (op_fieldAddr_ref rfl rfl fo30_4 ⟨rfl, rfl⟩) .nil) ?_
    refine dOps_eff rfl rfl rfl rfl (op_store' rfl rfl rfl rfl sz28 rfl rfl (Nat.le_of_ble_eq_true rfl) rfl ⟨rfl, rfl⟩) ?_
    refine dOps_nil ?_
    refine mwp_seq ?_
    refine mwp_region rfl ?_
    refine wOps_op rfl (op_load' rfl rfl rfl ta30 rfl ?_)
    refine wOps_op rfl (op_store' rfl rfl rfl rfl sz30 rfl rfl (Nat.le_of_ble_eq_true rfl) rfl ?_)
    refine wOps_nil ?_
    refine mwp_ret ?_
    rw [hbot]
    exact ret_cell (.inr rfl) Try.results26 rfl rfl ta30 rfl (by first | exact (.agg (.cons (.refl _) (.cons (.refl _) (.cons (.nil _) (.cons (.nil _) (.cons (.nil _) .nil)))))) | exact (.agg (.cons (.refl _) (.cons (.refl _) (.cons (.nil _) (.cons (.nil _) (.cons (.refl _) .nil))))))) (cl_encV _ _) ⟨rfl, rfl⟩
  · -- no
    have hk : ¬ k = 5 := by simpa using h6
    have hbot : bottomF (.mk k ins) = noV := by simp [bottomF, hk]
    refine mwp_skip ?_
    refine mwp_seq ?_
    refine mwp_region rfl ?_
    refine wOps_op rfl (op_load' rfl rfl rfl ta30 rfl ?_)
    refine wOps_op rfl (op_store' rfl rfl rfl rfl sz30 rfl rfl (Nat.le_of_ble_eq_true rfl) rfl ?_)
    refine wOps_nil ?_
    refine mwp_ret ?_
    rw [hbot]
    exact ret_cell (.inr rfl) Try.results26 rfl rfl ta30 rfl (by first | exact (.agg (.cons (.refl _) (.cons (.refl _) (.cons (.nil _) (.cons (.nil _) (.cons (.nil _) .nil)))))) | exact (.agg (.cons (.refl _) (.cons (.refl _) (.cons (.nil _) (.cons (.nil _) (.cons (.refl _) .nil))))))) (cl_encV _ _) ⟨rfl, rfl⟩

theorem Bottom_spec (s : Sch) (S : MS) : MCalls Try.prog 12 [encS s] S fun v σ' => v = encV (BottomF s) ∧ σ' = S := by
  obtain ⟨k, ins⟩ := s
  refine mcalls_body Try.func12 rfl Try.ntmps12 (Nat.le_of_ble_eq_true rfl) ?_
  refine mwp_seq ?_
  refine mwp_region rfl ?_
  refine wOps_op rfl (op_box' rfl rfl rfl rfl ?_)
  refine wOps_op rfl (op_alloc' rfl zm30 rfl rfl ?_)
  refine wOps_nil ?_
  refine mwp_seq ?_
  refine mwp_seq ?_
  refine mwp_region rfl ?_
  refine wOps_op rfl (op_load' rfl rfl rfl ta24 rfl ?_)
  refine wOps_op rfl (op_call rfl rfl rfl co21 ((Is_spec (.mk k ins) _).mono ?_))
  rintro _ _ ⟨rfl, rfl⟩
  refine wOps_op rfl (op_not rfl rfl ?_)
  refine wOps_nil ?_
  refine mwp_cond_split rfl (fun h5 => ?_) (fun h5 => ?_)
  · -- yes
    have hb : BottomF (.mk k ins) = noV := by unfold BottomF; rw [if_neg (by simpa using h5)]
    refine mwp_seq ?_
    refine mwp_region rfl ?_
    refine wOps_op rfl (op_build rfl Try.underlying30 zm30 .nil (by kernel_rfl) ?_)
    refine wOps_op rfl (op_store' rfl rfl rfl rfl sz30 rfl rfl (Nat.le_of_ble_eq_true rfl) rfl ?_)
    refine wOps_nil ?_
    refine mwp_ret ?_
    rw [hb]
    exact ret_cell (y := encV (noV)) (.inr rfl) Try.results12 rfl rfl ta30 rfl (.agg (.cons (.refl _) (.cons (.refl _) (.cons (.nil _) (.cons (.nil _) (.cons (.nil _) .nil)))))) (cl_encV _ _) ⟨rfl, rfl⟩
  · -- no
    have his : isF 16 (.mk k ins) = true := by simpa using h5
    obtain ⟨⟨n1, m1, s1, c1, w1⟩, e1⟩ : ∃ v, bottomF (.mk k ins) = v := ⟨_, rfl⟩
    have bs := bottom_spec 16 (.mk k ins) his
    simp only [e1] at bs
    have hb : BottomF (.mk k ins) = .mk n1 m1 s1 c1 w1 := by unfold BottomF; rw [if_pos his, e1]
    refine mwp_skip ?_
    refine mwp_seq ?_
    refine mwp_region rfl ?_
    refine wOps_op rfl (op_load' rfl rfl rfl ta24 rfl ?_)
    refine wOps_op rfl (op_call rfl rfl rfl co26 ((bs _).mono ?_))
    rintro _ _ ⟨rfl, rfl⟩
    refine wOps_op rfl (op_store' rfl rfl rfl rfl sz30 rfl rfl (Nat.le_of_ble_eq_true rfl) rfl ?_)
    refine wOps_nil ?_
    refine mwp_ret ?_
    rw [hb]
    exact ret_cell (y := encV (.mk n1 m1 s1 c1 w1)) (.inr rfl) Try.results12 rfl rfl ta30 rfl (.refl _) (cl_encV _ _) ⟨rfl, rfl⟩

theorem None_spec (s : Sch) (x : Val) (S : MS) : MCalls Try.prog 14 [encS s, encV x] S fun v σ' => v = .bool (noneF s x) ∧ σ' = S := by
  obtain ⟨k, ins⟩ := s
  obtain ⟨n, m, s, c, w⟩ := x
  refine mcalls_body Try.func14 rfl Try.ntmps14 (Nat.le_of_ble_eq_true rfl) ?_
  refine mwp_seq ?_
  refine mwp_region rfl ?_
  refine wOps_op rfl (op_box' rfl rfl rfl rfl ?_)
  refine wOps_op rfl (op_box' rfl rfl rfl rfl ?_)
  refine wOps_op rfl (op_assign rfl rfl ?_)
  refine wOps_nil ?_
  refine mwp_seq ?_
  refine mwp_draw [] [_] mo (by decide) rfl rfl rfl rfl ?_
  refine dOps_op rfl rfl (.cons (op_load' rfl rfl rfl ta24 rfl ⟨rfl, rfl⟩) .nil) ?_
  refine dOps_op rfl rfl (.cons (op_call rfl rfl rfl co12 (Bottom_spec (.mk k ins) _)) .nil) ?_
  refine dOps_op rfl rfl (.cons (op_load' rfl rfl rfl ta30 rfl ⟨rfl, rfl⟩) .nil) ?_
  refine dOps_op rfl rfl (.cons (op_call rfl rfl rfl co16 (valSame_spec (BottomF (.mk k ins)) (.mk n m s c w) _)) .nil) ?_
  refine dOps_op rfl rfl (.cons (op_assign rfl rfl ⟨rfl, rfl⟩) .nil) ?_
  refine dOps_nil ?_
  refine mwp_ret ?_
  exact ret_tmp (.inr rfl) Try.results14 rfl (.of_eq (rfl)) (.bool _) ⟨rfl, rfl⟩
end Go.Proofs.Ytihpnfpdocnniaa
